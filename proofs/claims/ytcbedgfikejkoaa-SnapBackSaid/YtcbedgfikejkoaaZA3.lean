/-
  What the proof of the law rests on, part 3: walks of functions, and plain laws; each says its conditions itself.
-/
import Derived.Test.YtcbedgfikejkoaaRows
import Derived.WalkKit
import Derived.WalkSpells
import Derived.WalkLawsBesides
import Derived.Test.YtcbedgfikejkoaaZA2
namespace Go.Proofs.Ytcbedgfikejkoaa.Fx
open Go.RowKit
def opsOkR (n : Nat) (ops : List Oper) : Bool :=
  (List.range ops.length).all fun i =>
    let o := opAt ops i
    (match o.dst with | none => true | some d => (match writer ops d with | some j => Nat.beq j i | none => false) && Nat.blt d n) &&
    (o.op.operands.all fun x => match x with | .tmp t => (match writer ops t with | some j => isAfter o j || isAfter (opAt ops j) i | none => true) | _ => true) &&
    (match o.guard with | none => true | some (j, _) => isAfter o j) && (o.after.all fun e => !Region.binds .any e || Nat.blt e.on i)
theorem opsOkR_at {n : Nat} {ops : List Oper} (h : opsOkR n ops = true) {i : Nat} (hi : i < ops.length) :
    (∀ d, (opAt ops i).dst = some d → writer ops d = some i ∧ d < n) ∧ (∀ t j, .tmp t ∈ (opAt ops i).op.operands → writer ops t = some j → isAfter (opAt ops i) j = true ∨ isAfter (opAt ops j) i = true) ∧ (∀ j b, (opAt ops i).guard = some (j, b) → isAfter (opAt ops i) j = true) ∧ (∀ j, isAfter (opAt ops i) j = true → j < i) := by
  unfold opsOkR at h
  rw [List.all_eq_true] at h
  have := h i (by simpa using hi)
  simp only [Bool.and_eq_true] at this
  obtain ⟨⟨⟨h1, h2⟩, h3⟩, h4⟩ := this
  refine ⟨fun d hd => ?_, fun t j ht hj => ?_, fun j b hg => ?_, fun j hj => ?_⟩
  · rw [hd] at h1
    simp only [Bool.and_eq_true] at h1
    cases hw : writer ops d with
    | none => rw [hw] at h1; simp at h1
    | some j => rw [hw] at h1; simp only at h1; rw [Nat.eq_of_beq_eq_true h1.1]; exact ⟨rfl, by simpa [Nat.blt_eq] using h1.2⟩
  · rw [Array.all_eq_true'] at h2
    have := h2 _ ht
    simp only [hj] at this
    exact (Bool.or_eq_true _ _).mp this
  · rw [hg] at h3; exact h3
  unfold isAfter at hj
  rw [Array.any_eq_true'] at hj
  obtain ⟨e, he, h5⟩ := hj
  rw [Bool.and_eq_true] at h5
  rw [Array.all_eq_true'] at h4
  have := h4 e he
  rw [h5.1] at this
  rw [← Nat.eq_of_beq_eq_true h5.2]
  simpa [Nat.blt_eq] using this
section
variable {P : Program} {n : Nat} {ops : List Oper} {cs : List Nat} {S : World → World → Prop} {Q : Post}
theorem put_otherR {ops : List Oper} (hok : opsOkR n ops = true) {i j : Nat} (hi : i < ops.length) (hj : j < ops.length) (hne : i ≠ j) (f : Nat → Value) (u v : Value) :
    put (put f (opAt ops i).dst u) (opAt ops j).dst v = put (put f (opAt ops j).dst v) (opAt ops i).dst u := by
  cases hdi : (opAt ops i).dst with
  | none => rfl
  | some di =>
    cases hdj : (opAt ops j).dst with
    | none => rfl
    | some dj =>
      have hd : di ≠ dj := fun e => by
        subst e
        have h1 := ((opsOkR_at hok hi).1 di hdi).1
        have h2 := ((opsOkR_at hok hj).1 di hdj).1
        rw [h1] at h2; exact hne (Option.some.inj h2)
      funext s
      simp only [put]
      cases h1 : Nat.beq s di <;> cases h2 : Nat.beq s dj <;> simp
      exact (hd ((Nat.eq_of_beq_eq_true h1).symm.trans (Nat.eq_of_beq_eq_true h2))).elim
theorem put_evR {ops : List Oper} (hok : opsOkR n ops = true) {i j : Nat} (hi : i < ops.length) (hj : j < ops.length) (ha : isAfter (opAt ops j) i = false) (ha2 : isAfter (opAt ops i) j = false) (f : Nat → Value) (u : Value) : ∀ x ∈ (opAt ops j).op.operands, ev (put f (opAt ops i).dst u) x = ev f x := by
  intro x hx
  cases x with
  | tmp t =>
    show put f (opAt ops i).dst u t = f t
    cases hdi : (opAt ops i).dst with
    | none => rfl
    | some d =>
      simp only [put]
      cases hb : Nat.beq t d with
      | false => rfl
      | true =>
        have e := Nat.eq_of_beq_eq_true hb
        subst e
        have h1 := ((opsOkR_at hok hi).1 t hdi).1
        have h2 := (opsOkR_at hok hj).2.1 t i hx h1
        rw [ha, ha2] at h2; rcases h2 with h2 | h2 <;> cases h2
  | _ => rfl
theorem put_wantedR {ops : List Oper} (hok : opsOkR n ops = true) {i j : Nat} (hi : i < ops.length) (hj : j < ops.length) (ha : isAfter (opAt ops j) i = false) (f : Nat → Value) (u : Value) :
    Region.wanted (opAt ops j) (yf ops.toArray (put f (opAt ops i).dst u)) = Region.wanted (opAt ops j) (yf ops.toArray f) := by
  unfold Region.wanted
  cases hg : (opAt ops j).guard with
  | none => rfl
  | some gb =>
    obtain ⟨g, b⟩ := gb
    simp only
    have h2 := (opsOkR_at hok hj).2.2.1 g b hg
    have hgi : g ≠ i := fun e => by subst e; rw [ha] at h2; cases h2
    congr 1
    unfold yf
    cases hd : (ops.toArray[g]?).bind (·.dst) with
    | none => rfl
    | some d =>
      simp only
      have hgl : g < ops.length := by
        cases hq : ops.toArray[g]? with
        | none => rw [hq] at hd; cases hd
        | some o => have := (Array.getElem?_eq_some_iff.1 hq).1; simpa using this
      have hdd : (opAt ops g).dst = some d := by
        unfold opAt
        rw [List.getElem?_toArray] at hd
        rw [List.getD_eq_getElem?_getD]
        cases hq : ops[g]? with
        | none => rw [hq] at hd; cases hd
        | some o => rw [hq] at hd; exact hd
      have e : put f (opAt ops i).dst u d = f d := by
        cases hdi : (opAt ops i).dst with
        | none => rfl
        | some di =>
          simp only [put]
          cases hb : Nat.beq d di with
          | false => rfl
          | true =>
            have e := Nat.eq_of_beq_eq_true hb
            subst e
            have h3 := ((opsOkR_at hok hi).1 d hdi).1
            have h4 := ((opsOkR_at hok hgl).1 d hdd).1
            rw [h3] at h4; exact absurd (Option.some.inj h4).symm hgi
      rw [e]
theorem put_runR {ops : List Oper} (hok : opsOkR n ops = true) (hsel : Region.noSelect ops.toArray = true) {i j : Nat} (hi : i < ops.length) (hj : j < ops.length) (ha : isAfter (opAt ops j) i = false) (ha2 : isAfter (opAt ops i) j = false) (f : Nat → Value) (u : Value) :
    execOp (ev (put f (opAt ops i).dst u)) (opAt ops j) = execOp (ev f) (opAt ops j) :=
  execOp_congr _ (fun c b => Region.noSelect_spec hsel j (opAt ops j) c b (by
    unfold opAt; rw [List.getElem?_toArray, List.getD_eq_getElem?_getD, List.getElem?_eq_getElem hj]; rfl)) (put_evR hok hi hj ha ha2 f u)
theorem swapR (hok : opsOkR n ops = true) (hsel : Region.noSelect ops.toArray = true) {i j : Nat} (hi : i < ops.length) (hj : j < ops.length) (hne : i ≠ j) (hij : isAfter (opAt ops j) i = false) (hji : isAfter (opAt ops i) j = false) (hS : ∀ w, S w w) (hT : ∀ a b c, S a b → S b c → S a c) (hc : stillC (cs.getD i 3) = true) (hc2 : cs.getD i 3 = 0 ∨ stillC (cs.getD j 3) = true ∨ (cs.getD i 3 = 1 ∧ cs.getD j 3 = 2))
    {l : List Nat} {f : Nat → Value} {w : World} (h : R P n ops cs S Q (i :: j :: l) f w) : R P n ops cs S Q (j :: i :: l) f w := by
  obtain ⟨vi, hs, h⟩ := h.stl hc
  have up : ∀ (u : Value) (w' : World), Stay S (cs.getD i 3) w w' → Stl P ops cs S i (put f (opAt ops j).dst u) w' vi := fun u w' hb => by
    unfold Stl
    rw [put_wantedR hok hj hi hji, put_runR hok hsel hj hi hji hij]
    rcases hs with hs | ⟨h1, h2, h3⟩
    · exact .inl hs
    · refine .inr ⟨h1, h2, fun w2 h4 => h3 w2 ?_⟩
      rcases hb with hb | ⟨hb, hb2⟩ | hb
      · exact .inl hb
      · rcases h4 with h4 | ⟨_, h4⟩ | h4
        · exact .inl h4
        · exact .inr (.inl ⟨hb, hT _ _ _ hb2 h4⟩)
        · subst h4; exact .inr (.inl ⟨hb, hb2⟩)
      · subst hb; exact h4
  unfold R at h
  rw [put_wantedR hok hi hj hij, put_runR hok hsel hi hj hij hji] at h
  rw [R]
  rcases h with ⟨h1, h2⟩ | ⟨h1, ⟨h2, v, h3, h4⟩ | ⟨h2, h3⟩⟩
  · refine .inl ⟨h1, R.of_stl (up undef w (.inr (.inr rfl))) ?_⟩
    rw [put_otherR hok hi hj hne] at h2; exact h2
  · refine .inr ⟨h1, .inl ⟨h2, v, h3, R.of_stl (up v w (.inr (.inr rfl))) ?_⟩⟩
    rw [put_otherR hok hi hj hne] at h4; exact h4
  refine .inr ⟨h1, .inr ⟨h2, ?_⟩⟩
  unfold Out at h3
  rw [put_runR hok hsel hi hj hij hji] at h3
  refine Out.mono (K := fun v w' => (cs.getD j 3 = 2 → S w w') ∧ R P n ops cs S Q l (put (put f (opAt ops i).dst vi) (opAt ops j).dst v) w') h3 fun v w' hk => ⟨hk.1, R.of_stl (up v w' ?_) ?_⟩
  · rcases hc2 with e | e | ⟨e, e2⟩
    · exact .inl e
    · rw [h2] at e; cases e
    exact .inr (.inl ⟨e, hk.1 e2⟩)
  have := hk.2; rw [put_otherR hok hi hj hne] at this; exact this
theorem bubbleR (hok : opsOkR n ops = true) (hsel : Region.noSelect ops.toArray = true) (hS : ∀ w, S w w) (hT : ∀ a b c, S a b → S b c → S a c) {j : Nat} (hj : j < ops.length) {l : List Nat} :
    ∀ (pre : List Nat), (∀ i ∈ pre, i < ops.length ∧ i ≠ j ∧ isAfter (opAt ops j) i = false ∧ isAfter (opAt ops i) j = false ∧ stillC (cs.getD i 3) = true ∧ (cs.getD i 3 = 0 ∨ stillC (cs.getD j 3) = true ∨ (cs.getD i 3 = 1 ∧ cs.getD j 3 = 2))) → ∀ f w, R P n ops cs S Q (pre ++ j :: l) f w → R P n ops cs S Q (j :: (pre ++ l)) f w
  | [], _, f, w, h => h
  | i :: pre, hp, f, w, h => by
    obtain ⟨h1, h2, h3, h4, h5, h6⟩ := hp i (List.mem_cons_self ..)
    exact swapR hok hsel h1 hj h2 h3 h4 hS hT h5 h6 (R.tail (fun f w => bubbleR hok hsel hS hT hj pre (fun k hk => hp k (List.mem_cons_of_mem _ hk)) f w) h)
theorem R.anyR (hok : opsOkR n ops = true) (hsel : Region.noSelect ops.toArray = true) (hS : ∀ w, S w w) (hT : ∀ a b c, S a b → S b c → S a c) {certs : List (Nat × Nat × List Nat)} : ∀ (k : Nat) (rem : List Nat) (listed : Array Bool) (a : Act) (f : Nat → Value) (w : World), rem.length = k → listed.size = ops.length → Clo ops.toArray .any listed →
    (∀ i, i ∈ rem ↔ i < ops.length ∧ listed.getD i false = false) → rem.Nodup → (rem.Pairwise fun i j => pairOk ops cs certs i j = true) → Fr a n f → R P n ops cs S Q rem f w → wpAny P .any ops.toArray (lift n Q) k listed a w := by
  intro k
  induction k with
  | zero =>
    intro rem listed a f w hl hsz hclo hmem hnd hpw ha h
    have : rem = [] := List.eq_nil_of_length_eq_zero hl
    subst this
    refine ⟨?_, f, ha, h⟩
    rw [List.eq_nil_iff_forall_not_mem]
    intro j hj
    obtain ⟨h1, h2, _, _⟩ := ready_after hj
    exact absurd ((hmem j).2 ⟨h2, h1⟩) (by simp)
  | succ k ih =>
    intro rem listed a f w hl hsz hclo hmem hnd hpw ha h
    refine ⟨fun hr => ?_, fun j hj => ?_⟩
    · cases rem with
      | nil => simp at hl
      | cons r rem' =>
        exfalso
        obtain ⟨h1, h2⟩ := (hmem r).1 (List.mem_cons_self ..)
        have : r ∈ Region.ready .any ops.toArray listed := by
          refine mem_ready.2 ⟨getD_in (by omega) h2, opAt ops r, by unfold opAt; rw [List.getElem?_toArray, List.getD_eq_getElem?_getD, List.getElem?_eq_getElem h1]; rfl, fun e he hb => ?_⟩
          have haf : isAfter (opAt ops r) e.on = true := by
            unfold isAfter; rw [Array.any_eq_true']; exact ⟨e, he, by rw [hb, Nat.beq_refl]; rfl⟩
          have hlt := (opsOkR_at hok h1).2.2.2 e.on haf
          cases hle : listed.getD e.on false with
          | true => rfl
          | false =>
            have hm := (hmem e.on).2 ⟨by omega, hle⟩
            rcases List.mem_cons.1 hm with e1 | e1
            · omega
            · have hp := (List.pairwise_cons.1 hpw).1 _ e1
              unfold pairOk at hp
              rw [haf] at hp; simp at hp
        rw [hr] at this; simp at this
    · obtain ⟨h1, h2, h3, h4⟩ := ready_after hj
      have hjm := (hmem j).2 ⟨h2, h1⟩
      obtain ⟨pre, post, rfl⟩ := List.append_of_mem hjm
      have hb := bubbleR (P := P) (cs := cs) (S := S) (Q := Q) hok hsel hS hT h2 (l := post) pre (fun i hi => by
        obtain ⟨h5, h6⟩ := (hmem i).1 (List.mem_append_left _ hi)
        have hne : i ≠ j := fun e => by
          subst e
          exact (List.nodup_append.1 hnd).2.2 i hi i (List.mem_cons_self ..) rfl
        have hp : pairOk ops cs certs i j = true := (List.pairwise_append.1 hpw).2.2 i hi j (List.mem_cons_self ..)
        unfold pairOk at hp
        rw [Bool.and_eq_true, Bool.or_eq_true] at hp
        have hnaf : isAfter (opAt ops j) i = false := by
          cases hq : isAfter (opAt ops j) i with
          | false => rfl
          | true => have := h4 i hq; rw [h6] at this; cases this
        refine ⟨h5, hne, hnaf, by simpa using hp.1, ?_⟩
        rcases hp.2 with hp | hp
        · rw [Bool.and_eq_true, Bool.or_eq_true] at hp
          refine ⟨hp.1, ?_⟩
          rcases hp.2 with q | q
          · rw [Bool.or_eq_true] at q
            exact q.elim (fun q => .inl (Nat.eq_of_beq_eq_true q)) (fun q => .inr (.inl q))
          · rw [Bool.and_eq_true] at q
            exact .inr (.inr ⟨Nat.eq_of_beq_eq_true q.1, Nat.eq_of_beq_eq_true q.2⟩)
        · exfalso
          rw [List.any_eq_true] at hp
          obtain ⟨c, _, hc⟩ := hp
          rw [Bool.and_eq_true, Bool.and_eq_true] at hc
          obtain ⟨m, hm⟩ := pathB_reach hc.2
          cases m with
          | zero => unfold reach at hm; simp at hm; exact hne hm.symm
          | succ m =>
            unfold reach at hm
            rw [Bool.or_eq_true] at hm
            rcases hm with hm | hm
            · simp at hm; exact hne hm.symm
            · rw [h3] at hm
              simp only at hm
              rw [Array.any_eq_true'] at hm
              obtain ⟨e, he, hm⟩ := hm
              rw [Bool.and_eq_true] at hm
              have haf : isAfter (opAt ops j) e.on = true := by
                unfold isAfter; rw [Array.any_eq_true']; exact ⟨e, he, by rw [hm.1, Nat.beq_refl]; rfl⟩
              have := hclo.reach _ _ hm.2 (h4 e.on haf)
              rw [h6] at this; cases this) f w h
      have hperm : (pre ++ post).length = k := by simp at hl ⊢; omega
      have hnd' : (pre ++ post).Nodup := by
        refine hnd.sublist ?_
        exact List.Sublist.append_left (List.sublist_cons_self ..) pre
      have hpw' : (pre ++ post).Pairwise fun i j => pairOk ops cs certs i j = true := hpw.sublist (List.Sublist.append_left (List.sublist_cons_self ..) pre)
      have hmem' : ∀ i, i ∈ pre ++ post ↔ i < ops.length ∧ (listed.setIfInBounds j true).getD i false = false := fun i => by
        by_cases e : j = i
        · subst e
          rw [set_self (by omega)]
          constructor
          · intro hm
            exfalso
            have hd := List.nodup_append.1 hnd
            rcases List.mem_append.1 hm with q | q
            · exact hd.2.2 j q j (List.mem_cons_self ..) rfl
            · exact (List.nodup_cons.1 hd.2.1).1 q
          · intro q; cases q.2
        · rw [set_other e, ← hmem i]
          simp only [List.mem_append, List.mem_cons]
          constructor
          · rintro (q | q)
            · exact .inl q
            · exact .inr (.inr q)
          · rintro (q | q | q)
            · exact .inl q
            · exact absurd q.symm e
            · exact .inr q
      have next : ∀ (v : Value) (w' : World), R P n ops cs S Q (pre ++ post) (put f (opAt ops j).dst v) w' → wpAny P .any ops.toArray (lift n Q) k (listed.setIfInBounds j true) (a.put (opAt ops j).dst v) w' := fun v w' hR =>
        ih (pre ++ post) _ _ _ w' hperm (by simp [hsz]) (hclo.set hj) hmem' hnd' hpw' (ha.put (by
          cases hd : (opAt ops j).dst with
          | none => rfl
          | some d => have := ((opsOkR_at hok h2).1 d hd).2; simpa [inn, Nat.blt_eq] using this) v) hR
      unfold wpOp
      rw [h3]
      simp only
      rw [ha.yf]
      unfold R at hb
      rcases hb with ⟨q1, q2⟩ | ⟨q1, ⟨q2, v, q3, q4⟩ | ⟨q2, q3⟩⟩
      · rw [if_neg (by rw [q1]; decide)]; exact next _ _ q2
      · rw [if_pos q1]
        refine .inl (Out.wp (K := fun v' w' => v' = v ∧ w' = w) ha (.inl ⟨v, w, q3 w (.inr (.inr rfl)), rfl, rfl⟩) ?_)
        rintro v' w' ⟨rfl, rfl⟩
        exact next _ _ q4
      · rw [if_pos q1]
        exact .inl (Out.wp ha q3 fun v w' hk => next v w' hk.2)
theorem W.reordR {f : Nat → Value} {w : World} {id : Nat} (l : List Nat) (cs : List Nat) (S : World → World → Prop) (hS : ∀ w, S w w) (hT : ∀ a b c, S a b → S b c → S a c) (certs : List (Nat × Nat × List Nat)) (hm : P.follows .mixedOrders = true) (hok : opsOkR n ops = true) (hsel : Region.noSelect ops.toArray = true) (hp : permOk ops l = true) (hpp : pairsOk ops cs certs l = true)
    (h : ∀ w1, Below w.heap.size w w1 → w1.heap.size = w.heap.size → R P n ops cs S Q l f w1) : W P n (.region id ops.toArray true) Q f w := fun a ha => by
  refine wp_region_any hm ?_
  unfold permOk at hp
  rw [Bool.and_eq_true, Bool.and_eq_true, Bool.and_eq_true, List.all_eq_true, List.all_eq_true] at hp
  obtain ⟨⟨⟨p1, p2⟩, p3⟩, p4⟩ := hp
  have hlen := Nat.eq_of_beq_eq_true p1
  have p3' : l.Nodup := of_decide_eq_true p3
  have := R.anyR (P := P) (Q := Q) (certs := certs) hok hsel hS hT ops.length l (Array.replicate ops.length false) a f { w with drawn := w.drawn + 1 } hlen (by simp) (Clo.start _ _ _) (fun i => by
    have hg : ∀ i, (Array.replicate ops.length false).getD i false = false := fun i => getD_replicate_false _ _
    constructor
    · intro hi; exact ⟨by simpa [Nat.blt_eq] using p2 i hi, hg i⟩
    · intro hi
      obtain ⟨k, hk, hk2⟩ := List.any_eq_true.1 (p4 i (by simpa using hi.1))
      rw [Nat.eq_of_beq_eq_true hk2]; exact hk) p3' (pairsOk_pw hpp) ha (h { w with drawn := w.drawn + 1 } (Below.refl _ _).drew rfl)
  simpa using this
end
end Go.Proofs.Ytcbedgfikejkoaa.Fx
namespace Go.Proofs.Ytcbedgfikejkoaa
open Go.RowKit Rt
set_option linter.unusedVariables false
namespace Fx
def slA (s j c : Nat) (a : Option Addr) : Option Addr := if c = j then a else a.map (·.add (j * s))
theorem x_slA {P : Program} {f : Nat → Value} {w : World} {o : Oper} {T E : TypeId} {x lo : Operand} {a : Option Addr} {k c s j : Nat} (ho : o.op = .slice T x (some lo) none none) (hx : ev f x = .slice a k c) (hl : ev f lo = .int .i64 j)
    (hu : P.underlying T = some (.slice E)) (hs : (P.info? E).map (·.size) = some s) (h1 : j ≤ k) (h2 : k ≤ c) : Runs P f o w (.slice (slA s j c a) (k - j) (c - j)) :=
  x_sl (h := k) ho hx (by rw [if_neg (by rintro ⟨_, h⟩; cases h)]; exact congrArg some hl) (by rw [if_pos ⟨rfl, rfl⟩]; rfl) hu hs h1 h2
theorem Arr.sl {w : World} {a : Option Addr} {k c s j : Nat} {y : Nat → Value} (hA : Arr w a k s y) (h2 : k ≤ c) : Arr w (slA s j c a) (k - j) s (fun p => y (j * s + p)) := fun h0 => by
  have hj : j < k := by
    rcases Nat.lt_or_ge j k with h | h
    · exact h
    · rw [show k - j = 0 by omega] at h0; simp at h0
  obtain ⟨b, off, rfl, hcel⟩ := hA (by have := Nat.mul_le_mul_right s (show k - j ≤ k by omega); omega)
  unfold slA
  rw [if_neg (by omega)]
  refine ⟨b, off + j * s, by simp [addr_add], fun p hp => ?_⟩
  have hlt : j * s + p < k * s := by
    have e : (k - j) * s = k * s - j * s := Nat.sub_mul _ _ _
    have := Nat.mul_le_mul_right s (show j ≤ k by omega)
    omega
  have := hcel (j * s + p) hlt
  rw [show off + j * s + p = off + (j * s + p) by omega]; exact this
theorem Arr.to {w : World} {a : Option Addr} {n n' s : Nat} {x y : Nat → Value} (h : Arr w a n s x) (hn : n = n') (e : ∀ j, j < n' * s → x j = y j) : Arr w a n' s y := fun h0 => by
  subst hn
  obtain ⟨b, off, e1, hc⟩ := h h0
  exact ⟨b, off, e1, fun p hp => by rw [← e p hp]; exact hc p hp⟩
theorem getD_app {α : Type} {d : α} {l r : List α} {k : Nat} : (l ++ r).getD k d = if k < l.length then l.getD k d else r.getD (k - l.length) d := by
  rw [List.getD_eq_getElem?_getD, List.getD_eq_getElem?_getD, List.getD_eq_getElem?_getD]
  by_cases c : k < l.length
  · rw [if_pos c, List.getElem?_append_left c]
  rw [if_neg c, List.getElem?_append_right (by omega)]
theorem flat_app {α : Type} {d : α} {Y : α → Nat → Value} {s n : Nat} {l r : List α} (hs : 0 < s) (hn : n = l.length) : ∀ j, appX (flat s fun k => Y (l.getD k d)) (n * s) (flat s fun k => Y (r.getD k d)) j = flat s (fun k => Y ((l ++ r).getD k d)) j := fun j => by
  subst hn
  unfold appX flat
  show _ = Y ((l ++ r).getD (j / s) d) (j % s)
  rw [getD_app]
  by_cases c : j < l.length * s
  · rw [if_pos c, if_pos (Nat.div_lt_of_lt_mul (by rw [Nat.mul_comm]; exact c))]
  · have h1 : l.length ≤ j / s := (Nat.le_div_iff_mul_le hs).2 (by omega)
    rw [if_neg c, if_neg (by omega)]
    have e1 : j - l.length * s = j - s * l.length := by rw [Nat.mul_comm]
    rw [e1, Nat.sub_mul_div, Nat.sub_mul_mod (by rw [Nat.mul_comm]; omega)]
theorem flat_app1 {α : Type} {d : α} {Y : α → Nat → Value} {s n : Nat} {l : List α} {x : α} {z : Nat → Value} (hs : 0 < s) (hn : n = l.length) : ∀ j, j < (n + 1) * s → appX (flat s fun k => Y (l.getD k d)) (n * s) (ovr z (0 * s) s (Y x)) j = flat s (fun k => Y ((l ++ [x]).getD k d)) j := fun j hj => by
  rw [← flat_app hs hn]
  unfold appX
  by_cases c : j < n * s
  · rw [if_pos c, if_pos c]
  · rw [if_neg c, if_neg c]
    have h2 : j - n * s < s := by rw [Nat.add_mul] at hj; omega
    unfold ovr flat
    rw [if_pos ⟨by omega, by omega⟩, Nat.div_eq_of_lt h2, Nat.mod_eq_of_lt h2, Nat.zero_mul, Nat.sub_zero]; rfl
theorem flat_tail {α : Type} {d : α} {Y : α → Nat → Value} {s : Nat} {l : List α} (hs : 0 < s) (p : Nat) : flat s (fun k => Y (l.getD k d)) (1 * s + p) = flat s (fun k => Y (l.tail.getD k d)) p := by
  unfold flat
  have e : l.getD ((1 * s + p) / s) d = l.tail.getD (p / s) d := by
    rw [Nat.one_mul, Nat.add_div_left _ hs]; cases l <;> rfl
  rw [show (1 * s + p) % s = p % s by rw [Nat.one_mul, Nat.add_mod_left]]
  show Y (l.getD ((1 * s + p) / s) d) _ = _
  rw [e]
end Fx
namespace Rt
theorem tailN {w : World} {a : Option Addr} {n c : Nat} {l : List NdM} (h : Fx.Arr w a n 56 (ndsX l)) (hc : n ≤ c) : Fx.Arr w (Fx.slA 56 1 c a) (n - 1) 56 (ndsX l.tail) := (h.sl hc).to rfl fun p _ => Fx.flat_tail (Y := ndZ) (d := nd0) (by decide) p
theorem tailG {w : World} {a : Option Addr} {n c : Nat} {l : List GrM} (h : Fx.Arr w a n 5 (grsX l)) (hc : n ≤ c) : Fx.Arr w (Fx.slA 5 1 c a) (n - 1) 5 (grsX l.tail) := (h.sl hc).to rfl fun p _ => Fx.flat_tail (Y := grZ) (d := gr0) (by decide) p
theorem nds_app1 {n : Nat} {l : List NdM} {x : NdM} {z : Nat → Value} (hn : n = l.length) : ∀ j, j < (n + 1) * 56 → Fx.appX (ndsX l) (n * 56) (Fx.ovr z (0 * 56) 56 (ndZ x)) j = ndsX (l ++ [x]) j := Fx.flat_app1 (by decide) hn
theorem grs_app1 {n : Nat} {l : List GrM} {x : GrM} {z : Nat → Value} (hn : n = l.length) : ∀ j, j < (n + 1) * 5 → Fx.appX (grsX l) (n * 5) (Fx.ovr z (0 * 5) 5 (grZ x)) j = grsX (l ++ [x]) j := Fx.flat_app1 (by decide) hn
theorem nds_app {n : Nat} {l r : List NdM} (hn : n = l.length) : ∀ j, Fx.appX (ndsX l) (n * 56) (ndsX r) j = ndsX (l ++ r) j := Fx.flat_app (by decide) hn
theorem grs_app {n : Nat} {l r : List GrM} (hn : n = l.length) : ∀ j, Fx.appX (grsX l) (n * 5) (grsX r) j = grsX (l ++ r) j := Fx.flat_app (by decide) hn
theorem nds_one (l : List NdM) (j : Nat) : (ndsX l j).oneCell' = true := ndZ_one _ _
theorem grs_one (l : List GrM) (j : Nat) : (grsX l j).oneCell' = true := grZ_one _ _
theorem mN_lt {a b : List NdM} (ha : 0 < a.length) (hb : 0 < b.length) (h : (ndA a 0).id < (ndA b 0).id) : mergeN a b = (mergeN a.tail b).map (ndA a 0 :: ·) := by
  rcases a with _ | ⟨x, a⟩
  · cases ha
  rcases b with _ | ⟨y, b⟩
  · cases hb
  rw [mergeN]; exact if_pos h
theorem mN_gt {a b : List NdM} (ha : 0 < a.length) (hb : 0 < b.length) (h : (ndA b 0).id < (ndA a 0).id) : mergeN a b = (mergeN a b.tail).map (ndA b 0 :: ·) := by
  rcases a with _ | ⟨x, a⟩
  · cases ha
  rcases b with _ | ⟨y, b⟩
  · cases hb
  have h : y.id < x.id := h
  rw [mergeN, if_neg (by omega)]; exact if_pos h
theorem mN_no {a b : List NdM} (ha : 0 < a.length) (hb : 0 < b.length) (h1 : ¬ (ndA a 0).id < (ndA b 0).id) (h2 : ¬ (ndA b 0).id < (ndA a 0).id) (h : ¬ (ndA a 0).par = (ndA b 0).par) : mergeN a b = none := by
  rcases a with _ | ⟨x, a⟩
  · cases ha
  rcases b with _ | ⟨y, b⟩
  · cases hb
  rw [mergeN]; exact (if_neg h1).trans ((if_neg h2).trans (if_pos h))
theorem mN_yes {a b : List NdM} (ha : 0 < a.length) (hb : 0 < b.length) (h1 : ¬ (ndA a 0).id < (ndA b 0).id) (h2 : ¬ (ndA b 0).id < (ndA a 0).id) (h : (ndA a 0).par = (ndA b 0).par) : mergeN a b = (mergeN a.tail b.tail).map (ndJ (ndA a 0) (ndA b 0) :: ·) := by
  rcases a with _ | ⟨x, a⟩
  · cases ha
  rcases b with _ | ⟨y, b⟩
  · cases hb
  rw [mergeN]; exact (if_neg h1).trans ((if_neg h2).trans (if_neg (fun q => q h)))
theorem mN_end {a b : List NdM} (h : a = [] ∨ b = []) : mergeN a b = some (a ++ b) := by
  rcases a with _ | ⟨x, a⟩
  · rw [mergeN]; rfl
  rcases b with _ | ⟨y, b⟩
  · rw [mergeN, List.append_nil]
  rcases h with h | h <;> cases h
theorem mG_lt {a b : List GrM} (ha : 0 < a.length) (hb : 0 < b.length) (h : grLt (grA a 0) (grA b 0)) : mergeG a b = (mergeG a.tail b).map (grA a 0 :: ·) := by
  rcases a with _ | ⟨x, a⟩
  · cases ha
  rcases b with _ | ⟨y, b⟩
  · cases hb
  rw [mergeG]; exact if_pos h
theorem grLt_asym {x y : GrM} (h : grLt x y) : ¬ grLt y x := by unfold grLt at *; omega
theorem mG_gt {a b : List GrM} (ha : 0 < a.length) (hb : 0 < b.length) (h : grLt (grA b 0) (grA a 0)) : mergeG a b = (mergeG a b.tail).map (grA b 0 :: ·) := by
  rcases a with _ | ⟨x, a⟩
  · cases ha
  rcases b with _ | ⟨y, b⟩
  · cases hb
  have h : grLt y x := h
  rw [mergeG, if_neg (grLt_asym h)]; exact if_pos h
theorem mG_no {a b : List GrM} (ha : 0 < a.length) (hb : 0 < b.length) (h1 : ¬ grLt (grA a 0) (grA b 0)) (h2 : ¬ grLt (grA b 0) (grA a 0)) (h : GrBad (grA a 0) (grA b 0)) : mergeG a b = none := by
  rcases a with _ | ⟨x, a⟩
  · cases ha
  rcases b with _ | ⟨y, b⟩
  · cases hb
  rw [mergeG]; exact (if_neg h1).trans ((if_neg h2).trans (if_pos h))
theorem mG_yes {a b : List GrM} (ha : 0 < a.length) (hb : 0 < b.length) (h1 : ¬ grLt (grA a 0) (grA b 0)) (h2 : ¬ grLt (grA b 0) (grA a 0)) (h : ¬ GrBad (grA a 0) (grA b 0)) : mergeG a b = (mergeG a.tail b.tail).map (grJ (grA a 0) (grA b 0) :: ·) := by
  rcases a with _ | ⟨x, a⟩
  · cases ha
  rcases b with _ | ⟨y, b⟩
  · cases hb
  rw [mergeG]; exact (if_neg h1).trans ((if_neg h2).trans (if_neg h))
theorem mG_end {a b : List GrM} (h : a = [] ∨ b = []) : mergeG a b = some (a ++ b) := by
  rcases a with _ | ⟨x, a⟩
  · rw [mergeG]; rfl
  rcases b with _ | ⟨y, b⟩
  · rw [mergeG, List.append_nil]
  rcases h with h | h <;> cases h
theorem m_step {α : Type} {p q r : Option (List α)} {ol : List α} {x : α} (h : p = q.map (ol ++ ·)) (e : q = r.map (x :: ·)) : p = r.map ((ol ++ [x]) ++ ·) := by
  rw [h, e]; cases r <;> simp
theorem nonneg_tail {l : List GrM} (h : ∀ k, k < l.length → 0 ≤ (grA l k).b) : ∀ k, k < l.tail.length → 0 ≤ (grA l.tail k).b := fun k hk => by
  rcases l with _ | ⟨x, l⟩
  · cases hk
  · exact h (k + 1) (Nat.succ_lt_succ hk)
end Rt
set_option maxRecDepth 20000 in
theorem s_mergeN (aa ba : Option Addr) (cpa cpb : Nat) (la lb : List NdM) (w : World) (hl1 : la.length ≤ 1000000) (hl2 : lb.length ≤ 1000000) (ha : Fx.Arr w aa la.length 56 (ndsX la)) (hb : Fx.Arr w ba lb.length 56 (ndsX lb)) (ha2 : la.length ≤ cpa) (hb2 : lb.length ≤ cpb) :
    Calls Try.prog 21 #[.slice aa (la.length) (cpa), .slice ba (lb.length) (cpb), .func (.func 22) #[] #[], .func (.func 23) #[] #[]] w fun e w' => (mergeN la lb = none ∧ e = .returned (.tuple #[.slice none 0 0, .int .i64 9]) ∧ Below w.heap.size w w') ∨ (∃ l a' c', mergeN la lb = some l ∧ e = .returned (.tuple #[.slice a' l.length c', .int .i64 0]) ∧ Fx.Own w' w.heap.size 50 56 (.slice a' l.length c') l.length (ndsX l) ∧ Below w.heap.size w w') := by
 refine Fx.enter Try.func21 rfl (n := 78) rfl (by rfl) ?_
 refine Fx.Ws (Fx.Wl (Fx.Lv (.slice none 0 0) (Fx.x_assign rfl rfl) (Fx.Lv (.int .i64 (0)) (Fx.x_assign rfl rfl) (Fx.Ln (Fx.sN (Fx.Ws (Fx.W.block ?_)))))))
 have m1 : Fx.Own w w.heap.size 50 56 (.slice none (0) (0)) 0 (ndsX ([])) := Fx.Own.nil _ _ _ _ _
 refine Fx.W.loopE (fun kE f w_ => ∃ na : Nat, ∃ nb : Nat, ∃ ca : Nat, ∃ cb : Nat, ∃ aa1 : Option Addr, ∃ bb1 : Option Addr, ∃ ra : List NdM, ∃ rb : List NdM, ∃ ol : List NdM, ∃ n : Nat, ∃ ao : Option Addr, ∃ co : Nat, kE = na + nb ∧ Fx.Arr w aa1 na 56 (ndsX ra) ∧ Fx.Arr w bb1 nb 56 (ndsX rb) ∧ na = ra.length ∧ nb = rb.length ∧ na ≤ ca ∧ nb ≤ cb ∧ n = ol.length ∧ n + na + nb ≤ 2000000 ∧ mergeN la lb = (mergeN ra rb).map (ol ++ ·) ∧ f 0 = .slice aa1 (na) (ca) ∧ f 1 = .slice bb1 (nb) (cb) ∧ f 2 = .func (.func 22) #[] #[] ∧ f 3 = .func (.func 23) #[] #[] ∧ f 8 = .slice ao (n) (co) ∧ Fx.Own w_ w.heap.size 50 56 (.slice ao (n) (co)) n (ndsX ol) ∧ Below w.heap.size w w_) (la.length + lb.length) ⟨la.length, lb.length, cpa, cpb, aa, ba, la, lb, [], 0, none, 0, rfl, ha, hb, rfl, rfl, ha2, hb2, rfl, (by omega), (by cases mergeN la lb <;> rfl), (by rfl), (by rfl), (by rfl), (by rfl), (by rfl), m1, (Below.refl w.heap.size w)⟩ ?_
 rintro kE f1 w1 ⟨na, nb, ca, cb, aa1, bb1, ra, rb, ol, n, ao, co, hk, hA, hB, hra, hrb, hca, hcb, hn, hs, hj, h1, h2, h3, h4, h5, m2, b1⟩
 refine Fx.Ws (Fx.Ws (Fx.Wl (Fx.Lv (.slice aa1 (na) (ca)) (Fx.x_move rfl h1) (Fx.Lv (.int .i64 ((na : Int))) (Fx.x_len rfl rfl rfl (by kernel_rfl)) ?_))))
 by_cases c15 : 0 < (na : Int)
 ·refine Fx.Lv (.bool true) (Fx.x_gtrT rfl rfl rfl c15) (Fx.Lv (.bool true) (Fx.x_move rfl rfl) (Fx.Lv (.slice bb1 (nb) (cb)) (Fx.x_move rfl h2) (Fx.Lv (.int .i64 ((nb : Int))) (Fx.x_len rfl rfl rfl (by kernel_rfl)) ?_)))
  by_cases c19 : 0 < (nb : Int)
  ·refine Fx.Lv (.bool true) (Fx.x_gtrT rfl rfl rfl c19) (Fx.Lv (.bool true) (Fx.x_pickT rfl rfl rfl) (Fx.Ln (Fx.sN (Fx.Wc (b := true) rfl (fun _ => Fx.Wk (Fx.sN (Fx.W.block (Fx.Ws ?_)))) (fun h => nomatch h)))))
   -- region 2 draws
   refine Fx.W.quiet (fun v1 => Below w1.heap.size w1 v1) (by kernel_rfl) (by kernel_rfl) (Below.refl _ _).drew ?_
   refine Fx.Qv (.func (.func 22) #[] #[]) (fun v1 hv1 => Fx.x_move rfl h3) (Fx.Qv (.slice aa1 (na) (ca)) (fun v1 hv1 => Fx.x_move rfl h1) ?_)
   obtain ⟨bq1, oq1, eq1, m3z⟩ := hA (by omega)
   have lbq1z : bq1 < w.heap.size := m3z.lt (by omega)
   have m3 := m3z.below b1 lbq1z
   have lbq1 : bq1 < w1.heap.size := m3.lt (by omega)
   refine Fx.Qv (.pointer (some ⟨bq1, oq1, none⟩)) (fun v1 hv1 => Fx.x_indexS rfl (rfl.trans (congrArg (fun q => Value.slice q (na) (ca)) eq1)) rfl Try.underlying26 (s := 56) (by kernel_rfl) (by omega) (by omega) (by omega)) (Fx.Qv (.agg (Fx.varr 56 (ndZ (ndA ra 0)))) (fun v1 hv1 => Fx.x_loadA (x := ndsX ra) (y := ndZ (ndA ra 0)) rfl rfl (by kernel_rfl) (by kernel_rfl) (m3.below hv1 (m3.lt (by omega))) (i := 0) (by omega) (by omega) (fun jq hjq => Fx.flat_at (k := 0) (by omega) hjq)) (Fx.Qv (.slice bb1 (nb) (cb)) (fun v1 hv1 => Fx.x_move rfl h2) ?_))
   obtain ⟨bq2, oq2, eq2, m4z⟩ := hB (by omega)
   have lbq2z : bq2 < w.heap.size := m4z.lt (by omega)
   have m4 := m4z.below b1 lbq2z
   have lbq2 : bq2 < w1.heap.size := m4.lt (by omega)
   refine Fx.Qv (.pointer (some ⟨bq2, oq2, none⟩)) (fun v1 hv1 => Fx.x_indexS rfl (rfl.trans (congrArg (fun q => Value.slice q (nb) (cb)) eq2)) rfl Try.underlying26 (s := 56) (by kernel_rfl) (by omega) (by omega) (by omega)) (Fx.Qv (.agg (Fx.varr 56 (ndZ (ndA rb 0)))) (fun v1 hv1 => Fx.x_loadA (x := ndsX rb) (y := ndZ (ndA rb 0)) rfl rfl (by kernel_rfl) (by kernel_rfl) (m4.below hv1 (m4.lt (by omega))) (i := 0) (by omega) (by omega) (fun jq hjq => Fx.flat_at (k := 0) (by omega) hjq)) (Fx.Qt.call (v := .int .i64 (cmp3 (ndA ra 0).id (ndA rb 0).id)) (by rfl) (fun v1 hv1 => Fx.r_clo (args := [.agg (Fx.varr 56 (ndZ (ndA ra 0))), .agg (Fx.varr 56 (ndZ (ndA rb 0)))]) rfl rfl rfl (all := #[.agg (Fx.varr 56 (ndZ (ndA ra 0))), .agg (Fx.varr 56 (ndZ (ndA rb 0)))]) rfl Try.func22 rfl rfl) rfl (fun v1 hv1 => (s_byId (ndA ra 0) (ndA rb 0) _).mono fun e v2 h => ⟨h.1, bch hv1 h.2⟩) ?_))
   refine Fx.Qv (.int .i64 (cmp3 (ndA ra 0).id (ndA rb 0).id)) (fun v1 hv1 => Fx.x_assign rfl rfl) (Fx.Qt.nil ?_)
   intro wb1 hbwb1
   have s1 : Fx.Stp w1.heap.size w1 wb1 := Fx.Sb hbwb1
   have m5 := m2.stp s1 (m2.notNew (Nat.le_refl _))
   have m6 := m3.stp s1 (Nat.ne_of_lt (m3.lt (by omega)))
   have m7 := m4.stp s1 (Nat.ne_of_lt (m4.lt (by omega)))
   have b2 := s1.below b1 b1.size b1.size
   refine Fx.sN (Fx.W.block (Fx.Ws (Fx.Wl (Fx.Lv (.int .i64 (cmp3 (ndA ra 0).id (ndA rb 0).id)) (Fx.x_move rfl rfl) ?_))))
   by_cases c53 : (cmp3 (ndA ra 0).id (ndA rb 0).id) < 0
   ·refine Fx.Lv (.bool true) (Fx.x_lssT rfl rfl rfl c53) (Fx.Lv (.bool true) (Fx.x_assign rfl rfl) (Fx.Ln (Fx.sN (Fx.Wc (b := true) rfl (fun _ => ?_) (fun h => nomatch h)))))
    -- region 8 draws
    refine Fx.W.reordR [0, 1, 2, 6, 7, 3, 4, 5, 8, 9] [0, 0, 0, 4, 2, 2, 0, 0, 0, 0] (Fx.ChT [50]) Fx.ChT.refl Fx.ChT.trans (certs := [(4, 3, [3]), (5, 3, [4, 3]), (5, 4, [4]), (8, 4, [4]), (9, 4, [4]), (8, 5, [5]), (9, 5, [5])]) (by kernel_rfl) (by kernel_rfl) (by kernel_rfl) (by kernel_rfl) (by kernel_rfl) fun wt1 hbwt1 hzwt1 => ?_
    have s2 : Fx.Stp wb1.heap.size wb1 wt1 := Fx.Sb hbwt1
    have m8 := m5.stp s2 (m5.notNew (Nat.le_refl _))
    have m9 := m6.stp s2 (Nat.ne_of_lt (m6.lt (by omega)))
    have m10 := m7.stp s2 (Nat.ne_of_lt (m7.lt (by omega)))
    have b3 := s2.below b2 b2.size b2.size
    refine Fx.Rp (.slice ao (n) (co)) (fun v1 => Fx.x_move rfl h5) (Fx.Rp (.slice aa1 (na) (ca)) (fun v1 => Fx.x_move rfl h1) (Fx.Rp (.pointer (some ⟨bq1, oq1, none⟩)) (fun v1 => Fx.x_indexS rfl (rfl.trans (congrArg (fun q => Value.slice q (na) (ca)) eq1)) rfl Try.underlying26 (s := 56) (by kernel_rfl) (by omega) (by omega) (by omega)) (Fx.Rp (.slice aa1 (na) (ca)) (fun v1 => Fx.x_move rfl h1) (Fx.Rp (.slice (Fx.slA 56 1 ca aa1) (na - 1) (ca - 1)) (fun v1 => Fx.x_slA (j := 1) (s := 56) rfl rfl rfl Try.underlying26 (by kernel_rfl) (by omega) hca) (Fx.R.s (.agg (Fx.varr 56 (ndZ (ndA ra 0)))) (Fx.x_loadA (x := ndsX ra) (y := ndZ (ndA ra 0)) rfl rfl (by kernel_rfl) (by kernel_rfl) m9 (i := 0) (by omega) (by omega) (fun jq hjq => Fx.flat_at (k := 0) (by omega) hjq)) ?_)))))
    refine Fx.R.make (by rfl) ?_
    refine Fx.L.bslice (vs := [(0, .agg (Fx.varr 56 (ndZ (ndA ra 0))))]) (s := 56) (zc := fun i => (#[.int .u64 (0), .int .u64 (0), .int .i64 (0), .int .i64 (0), .int .i64 (0), .int .i64 (0), .int .i64 (0), .int .i64 (0), .int .i64 (0), .int .i64 (0), .int .i64 (0), .int .i64 (0), .int .i64 (0), .int .i64 (0), .int .i64 (0), .int .i64 (0), .int .i64 (0), .int .i64 (0), .int .i64 (0), .int .i64 (0), .int .i64 (0), .int .i64 (0), .int .i64 (0), .int .i64 (0), .int .i64 (0), .int .i64 (0), .int .i64 (0), .int .i64 (0), .int .i64 (0), .int .i64 (0), .int .i64 (0), .int .i64 (0), .int .i64 (0), .int .i64 (0), .int .i64 (0), .int .i64 (0), .int .i64 (0), .int .i64 (0), .int .i64 (0), .int .i64 (0), .int .i64 (0), .int .i64 (0), .int .i64 (0), .int .i64 (0), .int .i64 (0), .int .i64 (0), .int .i64 (0), .int .i64 (0), .int .i64 (0), .int .i64 (0), .int .i64 (0), .int .i64 (0), .int .i64 (0), .int .i64 (0), .int .i64 (0), .int .i64 (0)] : Array Value).getD i undef) (y := Fx.ovr (fun j => (#[.int .u64 (0), .int .u64 (0), .int .i64 (0), .int .i64 (0), .int .i64 (0), .int .i64 (0), .int .i64 (0), .int .i64 (0), .int .i64 (0), .int .i64 (0), .int .i64 (0), .int .i64 (0), .int .i64 (0), .int .i64 (0), .int .i64 (0), .int .i64 (0), .int .i64 (0), .int .i64 (0), .int .i64 (0), .int .i64 (0), .int .i64 (0), .int .i64 (0), .int .i64 (0), .int .i64 (0), .int .i64 (0), .int .i64 (0), .int .i64 (0), .int .i64 (0), .int .i64 (0), .int .i64 (0), .int .i64 (0), .int .i64 (0), .int .i64 (0), .int .i64 (0), .int .i64 (0), .int .i64 (0), .int .i64 (0), .int .i64 (0), .int .i64 (0), .int .i64 (0), .int .i64 (0), .int .i64 (0), .int .i64 (0), .int .i64 (0), .int .i64 (0), .int .i64 (0), .int .i64 (0), .int .i64 (0), .int .i64 (0), .int .i64 (0), .int .i64 (0), .int .i64 (0), .int .i64 (0), .int .i64 (0), .int .i64 (0), .int .i64 (0)] : Array Value).getD (j % 56) undef) (0 * 56) 56 (ndZ (ndA ra 0))) (by rfl) rfl rfl Try.underlying26 (by kernel_rfl) (by rfl) (by rfl) (by kernel_rfl) (by rw [Fx.fill_step (off := 0 * 56) (s := 56) (y := ndZ (ndA ra 0)) rfl (Fx.cells_agg _ _) (by rfl)]; rfl) rfl fun g1 w2 eg1 m11 s3 z1 => ?_
    have m12 := m8.stp s3 (m8.notNew (Nat.le_refl _))
    have b4 := s3.below b3 b3.size b3.size
    have lg1 : w.heap.size ≤ g1 := by rw [eg1]; exact b3.size
    have ng1m12 : (.slice ao (n) (co) : Value).ownBlock ≠ some g1 := by rw [eg1]; exact m8.notNew (Nat.le_refl _)
    have ng1m13 : bq1 ≠ g1 := by rw [eg1]; exact Nat.ne_of_lt (m9.lt (by omega))
    have ng1m14 : bq2 ≠ g1 := by rw [eg1]; exact Nat.ne_of_lt (m10.lt (by omega))
    have tg1 : g1 < w2.heap.size := m11.lt
    clear eg1
    refine Fx.Ln ⟨Fx.ChT.of_below s3.old, ?_⟩
    refine Fx.R.make (by rfl) ?_
    refine Fx.L.app (B := w.heap.size) (s := 56) (bytes := 448) (k := n) (m := 1) (v := .slice ao (n) (co)) (x := ndsX ol) (by rfl) rfl rfl rfl Try.underlying26 (by kernel_rfl) (by kernel_rfl) rfl rfl m12 m11.cel (fun j hj => by unfold Fx.ovr; rw [if_pos ⟨by omega, by omega⟩]; exact ndZ_one _ _) (by omega) (by omega) (by omega) b4.size fun g2 cap1 w3 ho1 hg1 hgv1 hlt1 => ?_
    have hct1 := Fx.ChT.of_grown hg1 m12
    have m15 : Fx.Own w3 w.heap.size 50 56 (.slice (some ⟨g2, 0, none⟩) (n + 1) cap1) (n + 1) (ndsX (ol ++ [(ndA ra 0)])) := (ho1.congr (nds_app1 (l := ol) (x := (ndA ra 0)) hn))
    have b5 : Below w.heap.size w w3 := Fx.Below.grow b4 hg1 b4.size (fun q hq => (m12.ge hq).1)
    refine Fx.Ln ⟨hct1, ?_⟩
    refine Fx.Rp (.slice (some ⟨g2, 0, none⟩) (n + 1) (cap1)) (fun v1 => Fx.x_assign rfl rfl) (Fx.Rp (.slice (Fx.slA 56 1 ca aa1) (na - 1) (ca - 1)) (fun v1 => Fx.x_assign rfl rfl) (Fx.R.nil (Fx.blkN (Fx.blkN ?_))))
    skip
    refine Fx.lpN ⟨na - 1 + nb, (by omega), na - 1, nb, ca - 1, cb, Fx.slA 56 1 ca aa1, bb1, ra.tail, rb, ol ++ [(ndA ra 0)], n + 1, (some ⟨g2, 0, none⟩), cap1, (by omega), (tailN hA hca), hB, (by rw [List.length_tail]; omega), hrb, (by omega), hcb, (by rw [List.length_append]; exact congrArg (· + 1) hn), (by omega), (m_step hj (mN_lt (by omega) (by omega) (cmp_neg.1 c53))), (by rfl), h2, h3, h4, (by rfl), m15, b5⟩ (by decide)
   refine Fx.Lv (.bool false) (Fx.x_lssF rfl rfl rfl c53) (Fx.Lv (.bool false) (Fx.x_assign rfl rfl) (Fx.Ln (Fx.sN (Fx.Wc (b := false) rfl (fun h => nomatch h) (fun _ => Fx.Ws (Fx.Wl (Fx.Lv (.int .i64 (cmp3 (ndA ra 0).id (ndA rb 0).id)) (Fx.x_move rfl rfl) ?_)))))))
   by_cases c64 : 0 < (cmp3 (ndA ra 0).id (ndA rb 0).id)
   ·refine Fx.Lv (.bool true) (Fx.x_gtrT rfl rfl rfl c64) (Fx.Lv (.bool true) (Fx.x_assign rfl rfl) (Fx.Ln (Fx.sN (Fx.Wc (b := true) rfl (fun _ => ?_) (fun h => nomatch h)))))
    -- region 10 draws
    refine Fx.W.reordR [0, 1, 2, 6, 7, 3, 4, 5, 8, 9] [0, 0, 0, 4, 2, 2, 0, 0, 0, 0] (Fx.ChT [50]) Fx.ChT.refl Fx.ChT.trans (certs := [(4, 3, [3]), (5, 3, [4, 3]), (5, 4, [4]), (8, 4, [4]), (9, 4, [4]), (8, 5, [5]), (9, 5, [5])]) (by kernel_rfl) (by kernel_rfl) (by kernel_rfl) (by kernel_rfl) (by kernel_rfl) fun wt2 hbwt2 hzwt2 => ?_
    have s4 : Fx.Stp wb1.heap.size wb1 wt2 := Fx.Sb hbwt2
    have m18 := m5.stp s4 (m5.notNew (Nat.le_refl _))
    have m19 := m6.stp s4 (Nat.ne_of_lt (m6.lt (by omega)))
    have m20 := m7.stp s4 (Nat.ne_of_lt (m7.lt (by omega)))
    have b6 := s4.below b2 b2.size b2.size
    refine Fx.Rp (.slice ao (n) (co)) (fun v1 => Fx.x_move rfl h5) (Fx.Rp (.slice bb1 (nb) (cb)) (fun v1 => Fx.x_move rfl h2) (Fx.Rp (.pointer (some ⟨bq2, oq2, none⟩)) (fun v1 => Fx.x_indexS rfl (rfl.trans (congrArg (fun q => Value.slice q (nb) (cb)) eq2)) rfl Try.underlying26 (s := 56) (by kernel_rfl) (by omega) (by omega) (by omega)) (Fx.Rp (.slice bb1 (nb) (cb)) (fun v1 => Fx.x_move rfl h2) (Fx.Rp (.slice (Fx.slA 56 1 cb bb1) (nb - 1) (cb - 1)) (fun v1 => Fx.x_slA (j := 1) (s := 56) rfl rfl rfl Try.underlying26 (by kernel_rfl) (by omega) hcb) (Fx.R.s (.agg (Fx.varr 56 (ndZ (ndA rb 0)))) (Fx.x_loadA (x := ndsX rb) (y := ndZ (ndA rb 0)) rfl rfl (by kernel_rfl) (by kernel_rfl) m20 (i := 0) (by omega) (by omega) (fun jq hjq => Fx.flat_at (k := 0) (by omega) hjq)) ?_)))))
    refine Fx.R.make (by rfl) ?_
    refine Fx.L.bslice (vs := [(0, .agg (Fx.varr 56 (ndZ (ndA rb 0))))]) (s := 56) (zc := fun i => (#[.int .u64 (0), .int .u64 (0), .int .i64 (0), .int .i64 (0), .int .i64 (0), .int .i64 (0), .int .i64 (0), .int .i64 (0), .int .i64 (0), .int .i64 (0), .int .i64 (0), .int .i64 (0), .int .i64 (0), .int .i64 (0), .int .i64 (0), .int .i64 (0), .int .i64 (0), .int .i64 (0), .int .i64 (0), .int .i64 (0), .int .i64 (0), .int .i64 (0), .int .i64 (0), .int .i64 (0), .int .i64 (0), .int .i64 (0), .int .i64 (0), .int .i64 (0), .int .i64 (0), .int .i64 (0), .int .i64 (0), .int .i64 (0), .int .i64 (0), .int .i64 (0), .int .i64 (0), .int .i64 (0), .int .i64 (0), .int .i64 (0), .int .i64 (0), .int .i64 (0), .int .i64 (0), .int .i64 (0), .int .i64 (0), .int .i64 (0), .int .i64 (0), .int .i64 (0), .int .i64 (0), .int .i64 (0), .int .i64 (0), .int .i64 (0), .int .i64 (0), .int .i64 (0), .int .i64 (0), .int .i64 (0), .int .i64 (0), .int .i64 (0)] : Array Value).getD i undef) (y := Fx.ovr (fun j => (#[.int .u64 (0), .int .u64 (0), .int .i64 (0), .int .i64 (0), .int .i64 (0), .int .i64 (0), .int .i64 (0), .int .i64 (0), .int .i64 (0), .int .i64 (0), .int .i64 (0), .int .i64 (0), .int .i64 (0), .int .i64 (0), .int .i64 (0), .int .i64 (0), .int .i64 (0), .int .i64 (0), .int .i64 (0), .int .i64 (0), .int .i64 (0), .int .i64 (0), .int .i64 (0), .int .i64 (0), .int .i64 (0), .int .i64 (0), .int .i64 (0), .int .i64 (0), .int .i64 (0), .int .i64 (0), .int .i64 (0), .int .i64 (0), .int .i64 (0), .int .i64 (0), .int .i64 (0), .int .i64 (0), .int .i64 (0), .int .i64 (0), .int .i64 (0), .int .i64 (0), .int .i64 (0), .int .i64 (0), .int .i64 (0), .int .i64 (0), .int .i64 (0), .int .i64 (0), .int .i64 (0), .int .i64 (0), .int .i64 (0), .int .i64 (0), .int .i64 (0), .int .i64 (0), .int .i64 (0), .int .i64 (0), .int .i64 (0), .int .i64 (0)] : Array Value).getD (j % 56) undef) (0 * 56) 56 (ndZ (ndA rb 0))) (by rfl) rfl rfl Try.underlying26 (by kernel_rfl) (by rfl) (by rfl) (by kernel_rfl) (by rw [Fx.fill_step (off := 0 * 56) (s := 56) (y := ndZ (ndA rb 0)) rfl (Fx.cells_agg _ _) (by rfl)]; rfl) rfl fun g3 w4 eg3 m21 s5 z2 => ?_
    have m22 := m18.stp s5 (m18.notNew (Nat.le_refl _))
    have b7 := s5.below b6 b6.size b6.size
    have lg3 : w.heap.size ≤ g3 := by rw [eg3]; exact b6.size
    have ng3m22 : (.slice ao (n) (co) : Value).ownBlock ≠ some g3 := by rw [eg3]; exact m18.notNew (Nat.le_refl _)
    have ng3m23 : bq1 ≠ g3 := by rw [eg3]; exact Nat.ne_of_lt (m19.lt (by omega))
    have ng3m24 : bq2 ≠ g3 := by rw [eg3]; exact Nat.ne_of_lt (m20.lt (by omega))
    have tg3 : g3 < w4.heap.size := m21.lt
    clear eg3
    refine Fx.Ln ⟨Fx.ChT.of_below s5.old, ?_⟩
    refine Fx.R.make (by rfl) ?_
    refine Fx.L.app (B := w.heap.size) (s := 56) (bytes := 448) (k := n) (m := 1) (v := .slice ao (n) (co)) (x := ndsX ol) (by rfl) rfl rfl rfl Try.underlying26 (by kernel_rfl) (by kernel_rfl) rfl rfl m22 m21.cel (fun j hj => by unfold Fx.ovr; rw [if_pos ⟨by omega, by omega⟩]; exact ndZ_one _ _) (by omega) (by omega) (by omega) b7.size fun g4 cap2 w5 ho2 hg2 hgv2 hlt2 => ?_
    have hct2 := Fx.ChT.of_grown hg2 m22
    have m25 : Fx.Own w5 w.heap.size 50 56 (.slice (some ⟨g4, 0, none⟩) (n + 1) cap2) (n + 1) (ndsX (ol ++ [(ndA rb 0)])) := (ho2.congr (nds_app1 (l := ol) (x := (ndA rb 0)) hn))
    have b8 : Below w.heap.size w w5 := Fx.Below.grow b7 hg2 b7.size (fun q hq => (m22.ge hq).1)
    refine Fx.Ln ⟨hct2, ?_⟩
    refine Fx.Rp (.slice (some ⟨g4, 0, none⟩) (n + 1) (cap2)) (fun v1 => Fx.x_assign rfl rfl) (Fx.Rp (.slice (Fx.slA 56 1 cb bb1) (nb - 1) (cb - 1)) (fun v1 => Fx.x_assign rfl rfl) (Fx.R.nil (Fx.blkN (Fx.blkN ?_))))
    skip
    refine Fx.lpN ⟨na + (nb - 1), (by omega), na, nb - 1, ca, cb - 1, aa1, Fx.slA 56 1 cb bb1, ra, rb.tail, ol ++ [(ndA rb 0)], n + 1, (some ⟨g4, 0, none⟩), cap2, (by omega), hA, (tailN hB hcb), hra, (by rw [List.length_tail]; omega), hca, (by omega), (by rw [List.length_append]; exact congrArg (· + 1) hn), (by omega), (m_step hj (mN_gt (by omega) (by omega) (cmp_gt.1 c64))), h1, (by rfl), h3, h4, (by rfl), m25, b8⟩ (by decide)
   refine Fx.Lv (.bool false) (Fx.x_gtrF rfl rfl rfl c64) (Fx.Lv (.bool false) (Fx.x_assign rfl rfl) (Fx.Ln (Fx.sN (Fx.Wc (b := false) rfl (fun h => nomatch h) (fun _ => Fx.Ws ?_)))))
   have n53 : ¬ (ndA ra 0).id < (ndA rb 0).id := fun h => c53 (cmp_neg.2 h)
   have n64 : ¬ (ndA rb 0).id < (ndA ra 0).id := fun h => c64 (cmp_gt.2 h)
   -- region 3 draws
   refine Fx.W.one (T := 50) (T' := 50) (a := .tmp 11) (v := .tmp 38) (m := 56) (z := fun i => (#[.int .u64 (0), .int .u64 (0), .int .i64 (0), .int .i64 (0), .int .i64 (0), .int .i64 (0), .int .i64 (0), .int .i64 (0), .int .i64 (0), .int .i64 (0), .int .i64 (0), .int .i64 (0), .int .i64 (0), .int .i64 (0), .int .i64 (0), .int .i64 (0), .int .i64 (0), .int .i64 (0), .int .i64 (0), .int .i64 (0), .int .i64 (0), .int .i64 (0), .int .i64 (0), .int .i64 (0), .int .i64 (0), .int .i64 (0), .int .i64 (0), .int .i64 (0), .int .i64 (0), .int .i64 (0), .int .i64 (0), .int .i64 (0), .int .i64 (0), .int .i64 (0), .int .i64 (0), .int .i64 (0), .int .i64 (0), .int .i64 (0), .int .i64 (0), .int .i64 (0), .int .i64 (0), .int .i64 (0), .int .i64 (0), .int .i64 (0), .int .i64 (0), .int .i64 (0), .int .i64 (0), .int .i64 (0), .int .i64 (0), .int .i64 (0), .int .i64 (0), .int .i64 (0), .int .i64 (0), .int .i64 (0), .int .i64 (0), .int .i64 (0)] : Array Value).getD i undef) (y := ndZ (if (ndA ra 0).par = (ndA rb 0).par then ndJ (ndA ra 0) (ndA rb 0) else (ndA ra 0))) (u := .agg (Fx.varr 56 (ndZ (if (ndA ra 0).par = (ndA rb 0).par then ndJ (ndA ra 0) (ndA rb 0) else (ndA ra 0))))) 11 12 (List.replicate 14 (0, 2, [], [])) #[.func (.func 23) #[] #[], .slice aa1 (na) (ca), .pointer (some ⟨bq1, oq1, none⟩), .agg (Fx.varr 56 (ndZ (ndA ra 0))), .slice bb1 (nb) (cb), .pointer (some ⟨bq2, oq2, none⟩), .agg (Fx.varr 56 (ndZ (ndA rb 0))), .tuple #[.agg (Fx.varr 56 (ndZ (if (ndA ra 0).par = (ndA rb 0).par then ndJ (ndA ra 0) (ndA rb 0) else (ndA ra 0)))), .int .i64 (if (ndA ra 0).par = (ndA rb 0).par then (0 : Int) else 9)], .tuple #[.agg (Fx.varr 56 (ndZ (if (ndA ra 0).par = (ndA rb 0).par then ndJ (ndA ra 0) (ndA rb 0) else (ndA ra 0)))), .int .i64 (if (ndA ra 0).par = (ndA rb 0).par then (0 : Int) else 9)], .agg (Fx.varr 56 (ndZ (if (ndA ra 0).par = (ndA rb 0).par then ndJ (ndA ra 0) (ndA rb 0) else (ndA ra 0)))), .int .i64 (if (ndA ra 0).par = (ndA rb 0).par then (0 : Int) else 9), undef, undef, .int .i64 (if (ndA ra 0).par = (ndA rb 0).par then (0 : Int) else 9)] (by kernel_rfl) (by kernel_rfl) (by kernel_rfl) (by kernel_rfl) (by kernel_rfl) (by kernel_rfl) rfl (by kernel_rfl) rfl rfl (by kernel_rfl) (fun g5 => (show Fx.ev _ (.tmp 11) = .pointer (some ⟨g5, 0, none⟩) from by kernel_rfl)) (fun g5 => (show Fx.ev _ (.tmp 38) = .agg (Fx.varr 56 (ndZ (if (ndA ra 0).par = (ndA rb 0).par then ndJ (ndA ra 0) (ndA rb 0) else (ndA ra 0)))) from by kernel_rfl)) (Fx.cells_agg _ _) (fun j _ => ndZ_one _ j) (by kernel_rfl) (fun g5 => ?_) ?_
   ·refine ⟨?_, ?_, ?_, ?_, ?_, ?_, ?_, ?_, ?_, ?_, ?_, ?_, ?_, ?_, trivial⟩
    ·exact .inr (.inr (Fx.qb_yes (v := .func (.func 23) #[] #[]) (by kernel_rfl) (by kernel_rfl) (Fx.qbV fun v1 hv1 => Fx.x_move rfl ((Fx.fOne_out (by kernel_rfl)).trans h4))))
    ·exact .inr (.inr (Fx.qb_yes (v := .slice aa1 (na) (ca)) (by kernel_rfl) (by kernel_rfl) (Fx.qbV fun v1 hv1 => Fx.x_move rfl ((Fx.fOne_out (by kernel_rfl)).trans h1))))
    ·exact .inr (.inr (Fx.qb_yes (v := .pointer (some ⟨bq1, oq1, none⟩)) (by kernel_rfl) (by kernel_rfl) (Fx.qbV fun v1 hv1 => Fx.x_indexS rfl ((show Fx.ev _ (.tmp 31) = .slice aa1 (na) (ca) from by kernel_rfl).trans (congrArg (fun q => Value.slice q (na) (ca)) eq1)) (show Fx.ev _ (.const (.int .i64 (0))) = .int .i64 (0) from by kernel_rfl) Try.underlying26 (s := 56) (by kernel_rfl) (by omega) (by omega) (by omega))))
    ·exact .inr (.inr (Fx.qb_yes (v := .agg (Fx.varr 56 (ndZ (ndA ra 0)))) (by kernel_rfl) (by kernel_rfl) (Fx.qbV fun v1 hv1 => Fx.x_loadA (x := ndsX ra) (y := ndZ (ndA ra 0)) rfl (show Fx.ev _ (.tmp 32) = .pointer (some ⟨bq1, oq1, none⟩) from by kernel_rfl) (by kernel_rfl) (by kernel_rfl) (m6.below hv1 (m6.lt (by omega))) (i := 0) (by omega) (by omega) (fun jq hjq => Fx.flat_at (k := 0) (by omega) hjq))))
    ·exact .inr (.inr (Fx.qb_yes (v := .slice bb1 (nb) (cb)) (by kernel_rfl) (by kernel_rfl) (Fx.qbV fun v1 hv1 => Fx.x_move rfl ((Fx.fOne_out (by kernel_rfl)).trans h2))))
    ·exact .inr (.inr (Fx.qb_yes (v := .pointer (some ⟨bq2, oq2, none⟩)) (by kernel_rfl) (by kernel_rfl) (Fx.qbV fun v1 hv1 => Fx.x_indexS rfl ((show Fx.ev _ (.tmp 34) = .slice bb1 (nb) (cb) from by kernel_rfl).trans (congrArg (fun q => Value.slice q (nb) (cb)) eq2)) (show Fx.ev _ (.const (.int .i64 (0))) = .int .i64 (0) from by kernel_rfl) Try.underlying26 (s := 56) (by kernel_rfl) (by omega) (by omega) (by omega))))
    ·exact .inr (.inr (Fx.qb_yes (v := .agg (Fx.varr 56 (ndZ (ndA rb 0)))) (by kernel_rfl) (by kernel_rfl) (Fx.qbV fun v1 hv1 => Fx.x_loadA (x := ndsX rb) (y := ndZ (ndA rb 0)) rfl (show Fx.ev _ (.tmp 35) = .pointer (some ⟨bq2, oq2, none⟩) from by kernel_rfl) (by kernel_rfl) (by kernel_rfl) (m7.below hv1 (m7.lt (by omega))) (i := 0) (by omega) (by omega) (fun jq hjq => Fx.flat_at (k := 0) (by omega) hjq))))
    ·exact .inr (.inr (Fx.qb_yes (v := .tuple #[.agg (Fx.varr 56 (ndZ (if (ndA ra 0).par = (ndA rb 0).par then ndJ (ndA ra 0) (ndA rb 0) else (ndA ra 0)))), .int .i64 (if (ndA ra 0).par = (ndA rb 0).par then (0 : Int) else 9)]) (by kernel_rfl) (by kernel_rfl) (Fx.qbC (fun v1 hv1 => Fx.r_clo (args := [.agg (Fx.varr 56 (ndZ (ndA ra 0))), .agg (Fx.varr 56 (ndZ (ndA rb 0)))]) rfl (show Fx.ev _ (.tmp 30) = .func (.func 23) #[] #[] from by kernel_rfl) (Fx.args2 (show Fx.ev _ (.tmp 33) = .agg (Fx.varr 56 (ndZ (ndA ra 0))) from by kernel_rfl) (show Fx.ev _ (.tmp 36) = .agg (Fx.varr 56 (ndZ (ndA rb 0))) from by kernel_rfl)) (all := #[.agg (Fx.varr 56 (ndZ (ndA ra 0))), .agg (Fx.varr 56 (ndZ (ndA rb 0)))]) rfl Try.func23 rfl rfl) (fun v1 hv1 => (s_node (ndA ra 0) (ndA rb 0) _).mono fun e v2 h => ⟨h.1, h.2⟩))))
    ·exact .inr (.inr (Fx.qb_yes (v := .tuple #[.agg (Fx.varr 56 (ndZ (if (ndA ra 0).par = (ndA rb 0).par then ndJ (ndA ra 0) (ndA rb 0) else (ndA ra 0)))), .int .i64 (if (ndA ra 0).par = (ndA rb 0).par then (0 : Int) else 9)]) (by kernel_rfl) (by kernel_rfl) (Fx.qbV fun v1 hv1 => Fx.x_move rfl (show Fx.ev _ (.tmp 37) = .tuple #[.agg (Fx.varr 56 (ndZ (if (ndA ra 0).par = (ndA rb 0).par then ndJ (ndA ra 0) (ndA rb 0) else (ndA ra 0)))), .int .i64 (if (ndA ra 0).par = (ndA rb 0).par then (0 : Int) else 9)] from by kernel_rfl))))
    ·exact .inr (.inr (Fx.qb_yes (v := .agg (Fx.varr 56 (ndZ (if (ndA ra 0).par = (ndA rb 0).par then ndJ (ndA ra 0) (ndA rb 0) else (ndA ra 0))))) (by kernel_rfl) (by kernel_rfl) (Fx.qbV fun v1 hv1 => Fx.x_extract rfl (show Fx.ev _ (.tmp 29) = .tuple #[.agg (Fx.varr 56 (ndZ (if (ndA ra 0).par = (ndA rb 0).par then ndJ (ndA ra 0) (ndA rb 0) else (ndA ra 0)))), .int .i64 (if (ndA ra 0).par = (ndA rb 0).par then (0 : Int) else 9)] from by kernel_rfl) rfl)))
    ·exact .inr (.inr (Fx.qb_yes (v := .int .i64 (if (ndA ra 0).par = (ndA rb 0).par then (0 : Int) else 9)) (by kernel_rfl) (by kernel_rfl) (Fx.qbV fun v1 hv1 => Fx.x_extract rfl (show Fx.ev _ (.tmp 29) = .tuple #[.agg (Fx.varr 56 (ndZ (if (ndA ra 0).par = (ndA rb 0).par then ndJ (ndA ra 0) (ndA rb 0) else (ndA ra 0)))), .int .i64 (if (ndA ra 0).par = (ndA rb 0).par then (0 : Int) else 9)] from by kernel_rfl) rfl)))
    ·exact .inl rfl
    ·exact .inr (.inl rfl)
    exact .inr (.inr (Fx.qb_yes (v := .int .i64 (if (ndA ra 0).par = (ndA rb 0).par then (0 : Int) else 9)) (by kernel_rfl) (by kernel_rfl) (Fx.qbV fun v1 hv1 => Fx.x_assign rfl (show Fx.ev _ (.tmp 39) = .int .i64 (if (ndA ra 0).par = (ndA rb 0).par then (0 : Int) else 9) from by kernel_rfl))))
   rintro g5 w6 f2 hf1 lg5 m28 hb1
   have s6 := Fx.Sb hb1
   have ng5m6 : bq1 ≠ g5 := Nat.ne_of_lt (Nat.lt_of_lt_of_le (m6.lt (by omega)) lg5)
   have ng5m7 : bq2 ≠ g5 := Nat.ne_of_lt (Nat.lt_of_lt_of_le (m7.lt (by omega)) lg5)
   have ng5m5 : (.slice ao (n) (co) : Value).ownBlock ≠ some g5 := fun e => by have := (m5.ge e).2; omega
   have m29 := m5.stp s6 (m5.notNew (Nat.le_refl _))
   have m30 := m6.stp s6 (Nat.ne_of_lt (m6.lt (by omega)))
   have m31 := m7.stp s6 (Nat.ne_of_lt (m7.lt (by omega)))
   have b9 := s6.below b2 b2.size b2.size
   have lg5 : w.heap.size ≤ g5 := Nat.le_trans b2.size lg5
   have tg5 : g5 < w6.heap.size := m28.lt
   have q1 : f2 0 = .slice aa1 (na) (ca) := by rw [hf1]; exact (Fx.fOne_out (by kernel_rfl)).trans h1
   have q2 : f2 1 = .slice bb1 (nb) (cb) := by rw [hf1]; exact (Fx.fOne_out (by kernel_rfl)).trans h2
   have q3 : f2 2 = .func (.func 22) #[] #[] := by rw [hf1]; exact (Fx.fOne_out (by kernel_rfl)).trans h3
   have q4 : f2 3 = .func (.func 23) #[] #[] := by rw [hf1]; exact (Fx.fOne_out (by kernel_rfl)).trans h4
   have q5 : f2 8 = .slice ao (n) (co) := by rw [hf1]; exact (Fx.fOne_out (by kernel_rfl)).trans h5
   have q9 : f2 16 = .bool true := by rw [hf1]; kernel_rfl
   have q40 : f2 11 = .pointer (some ⟨g5, 0, none⟩) := by rw [hf1]; kernel_rfl
   have q41 : f2 12 = .int .i64 (if (ndA ra 0).par = (ndA rb 0).par then (0 : Int) else 9) := by rw [hf1]; kernel_rfl
   clear hf1
   refine Fx.sN (Fx.Ws (Fx.Ws (Fx.Wl (Fx.Lv (.int .i64 (if (ndA ra 0).par = (ndA rb 0).par then (0 : Int) else 9)) (Fx.x_move rfl q41) ?_))))
   by_cases c41 : (if (ndA ra 0).par = (ndA rb 0).par then (0 : Int) else 9) = 0
   ·refine Fx.Lv (.bool false) (Fx.x_neqF rfl rfl rfl c41) (Fx.Ln (Fx.sN (Fx.Wc (b := false) rfl (fun h => nomatch h) (fun _ => Fx.Wk (Fx.sN ?_)))))
    have c40p : (ndA ra 0).par = (ndA rb 0).par := Classical.byContradiction fun h => by rw [if_neg h] at c41; exact absurd c41 (by decide)
    have m32 : Fx.Blk w6 g5 56 (ndZ (ndJ (ndA ra 0) (ndA rb 0))) 50 := by have q9 := m28; rw [if_pos c40p] at q9; exact q9
    -- region 6 draws
    refine Fx.W.reordR [0, 4, 5, 6, 7, 1, 2, 3, 8, 9, 10] [0, 4, 2, 2, 0, 0, 0, 0, 0, 0, 0] (Fx.ChT [50]) Fx.ChT.refl Fx.ChT.trans (certs := [(2, 1, [1]), (3, 1, [2, 1]), (3, 2, [2]), (8, 2, [2]), (9, 2, [2]), (10, 2, [2]), (8, 3, [3]), (9, 3, [3]), (10, 3, [3])]) (by kernel_rfl) (by kernel_rfl) (by kernel_rfl) (by kernel_rfl) (by kernel_rfl) fun wt3 hbwt3 hzwt3 => ?_
    have s7 : Fx.Stp w6.heap.size w6 wt3 := Fx.Sb hbwt3
    have m33 := m29.stp s7 (m29.notNew (Nat.le_refl _))
    have m34 := m30.stp s7 (Nat.ne_of_lt (m30.lt (by omega)))
    have m35 := m31.stp s7 (Nat.ne_of_lt (m31.lt (by omega)))
    have m36 := m32.stp s7 (Nat.ne_of_lt (m32.lt))
    have b10 := s7.below b9 b9.size b9.size
    refine Fx.Rp (.slice ao (n) (co)) (fun v1 => Fx.x_move rfl q5) (Fx.Rp (.slice aa1 (na) (ca)) (fun v1 => Fx.x_move rfl q1) (Fx.Rp (.slice (Fx.slA 56 1 ca aa1) (na - 1) (ca - 1)) (fun v1 => Fx.x_slA (j := 1) (s := 56) rfl rfl rfl Try.underlying26 (by kernel_rfl) (by omega) hca) (Fx.Rp (.slice bb1 (nb) (cb)) (fun v1 => Fx.x_move rfl q2) (Fx.Rp (.slice (Fx.slA 56 1 cb bb1) (nb - 1) (cb - 1)) (fun v1 => Fx.x_slA (j := 1) (s := 56) rfl rfl rfl Try.underlying26 (by kernel_rfl) (by omega) hcb) (Fx.R.s (.agg (Fx.varr 56 (ndZ (ndJ (ndA ra 0) (ndA rb 0))))) (Fx.x_loadA (x := ndZ (ndJ (ndA ra 0) (ndA rb 0))) (y := ndZ (ndJ (ndA ra 0) (ndA rb 0))) rfl q40 (by kernel_rfl) (by kernel_rfl) m36.cel (i := 0) (by omega) (by omega) (fun j _ => by rw [Nat.zero_add])) ?_)))))
    refine Fx.R.make (by rfl) ?_
    refine Fx.L.bslice (vs := [(0, .agg (Fx.varr 56 (ndZ (ndJ (ndA ra 0) (ndA rb 0)))))]) (s := 56) (zc := fun i => (#[.int .u64 (0), .int .u64 (0), .int .i64 (0), .int .i64 (0), .int .i64 (0), .int .i64 (0), .int .i64 (0), .int .i64 (0), .int .i64 (0), .int .i64 (0), .int .i64 (0), .int .i64 (0), .int .i64 (0), .int .i64 (0), .int .i64 (0), .int .i64 (0), .int .i64 (0), .int .i64 (0), .int .i64 (0), .int .i64 (0), .int .i64 (0), .int .i64 (0), .int .i64 (0), .int .i64 (0), .int .i64 (0), .int .i64 (0), .int .i64 (0), .int .i64 (0), .int .i64 (0), .int .i64 (0), .int .i64 (0), .int .i64 (0), .int .i64 (0), .int .i64 (0), .int .i64 (0), .int .i64 (0), .int .i64 (0), .int .i64 (0), .int .i64 (0), .int .i64 (0), .int .i64 (0), .int .i64 (0), .int .i64 (0), .int .i64 (0), .int .i64 (0), .int .i64 (0), .int .i64 (0), .int .i64 (0), .int .i64 (0), .int .i64 (0), .int .i64 (0), .int .i64 (0), .int .i64 (0), .int .i64 (0), .int .i64 (0), .int .i64 (0)] : Array Value).getD i undef) (y := Fx.ovr (fun j => (#[.int .u64 (0), .int .u64 (0), .int .i64 (0), .int .i64 (0), .int .i64 (0), .int .i64 (0), .int .i64 (0), .int .i64 (0), .int .i64 (0), .int .i64 (0), .int .i64 (0), .int .i64 (0), .int .i64 (0), .int .i64 (0), .int .i64 (0), .int .i64 (0), .int .i64 (0), .int .i64 (0), .int .i64 (0), .int .i64 (0), .int .i64 (0), .int .i64 (0), .int .i64 (0), .int .i64 (0), .int .i64 (0), .int .i64 (0), .int .i64 (0), .int .i64 (0), .int .i64 (0), .int .i64 (0), .int .i64 (0), .int .i64 (0), .int .i64 (0), .int .i64 (0), .int .i64 (0), .int .i64 (0), .int .i64 (0), .int .i64 (0), .int .i64 (0), .int .i64 (0), .int .i64 (0), .int .i64 (0), .int .i64 (0), .int .i64 (0), .int .i64 (0), .int .i64 (0), .int .i64 (0), .int .i64 (0), .int .i64 (0), .int .i64 (0), .int .i64 (0), .int .i64 (0), .int .i64 (0), .int .i64 (0), .int .i64 (0), .int .i64 (0)] : Array Value).getD (j % 56) undef) (0 * 56) 56 (ndZ (ndJ (ndA ra 0) (ndA rb 0)))) (by rfl) rfl rfl Try.underlying26 (by kernel_rfl) (by rfl) (by rfl) (by kernel_rfl) (by rw [Fx.fill_step (off := 0 * 56) (s := 56) (y := ndZ (ndJ (ndA ra 0) (ndA rb 0))) rfl (Fx.cells_agg _ _) (by rfl)]; rfl) rfl fun g6 w7 eg6 m37 s8 z3 => ?_
    have m38 := m33.stp s8 (m33.notNew (Nat.le_refl _))
    have m41 := m36.stp s8 (Nat.ne_of_lt (m36.lt))
    have b11 := s8.below b10 b10.size b10.size
    have lg6 : w.heap.size ≤ g6 := by rw [eg6]; exact b10.size
    have ng6m38 : (.slice ao (n) (co) : Value).ownBlock ≠ some g6 := by rw [eg6]; exact m33.notNew (Nat.le_refl _)
    have ng6m39 : bq1 ≠ g6 := by rw [eg6]; exact Nat.ne_of_lt (m34.lt (by omega))
    have ng6m40 : bq2 ≠ g6 := by rw [eg6]; exact Nat.ne_of_lt (m35.lt (by omega))
    have ng6m41 : g5 ≠ g6 := by rw [eg6]; exact Nat.ne_of_lt (m36.lt)
    have tg6 : g6 < w7.heap.size := m37.lt
    clear eg6
    refine Fx.Ln ⟨Fx.ChT.of_below s8.old, ?_⟩
    refine Fx.R.make (by rfl) ?_
    refine Fx.L.app (B := w.heap.size) (s := 56) (bytes := 448) (k := n) (m := 1) (v := .slice ao (n) (co)) (x := ndsX ol) (by rfl) rfl rfl rfl Try.underlying26 (by kernel_rfl) (by kernel_rfl) rfl rfl m38 m37.cel (fun j hj => by unfold Fx.ovr; rw [if_pos ⟨by omega, by omega⟩]; exact ndZ_one _ _) (by omega) (by omega) (by omega) b11.size fun g7 cap3 w8 ho3 hg3 hgv3 hlt3 => ?_
    have hct3 := Fx.ChT.of_grown hg3 m38
    have ng7m45 : g5 ≠ g7 := fun e => hgv3.elim (fun e2 => ng5m5 (by rw [e]; exact e2)) (fun e2 => by have := m41.lt; omega)
    have m42 : Fx.Own w8 w.heap.size 50 56 (.slice (some ⟨g7, 0, none⟩) (n + 1) cap3) (n + 1) (ndsX (ol ++ [(ndJ (ndA ra 0) (ndA rb 0))])) := (ho3.congr (nds_app1 (l := ol) (x := (ndJ (ndA ra 0) (ndA rb 0))) hn))
    have b12 : Below w.heap.size w w8 := Fx.Below.grow b11 hg3 b11.size (fun q hq => (m38.ge hq).1)
    refine Fx.Ln ⟨hct3, ?_⟩
    refine Fx.Rp (.slice (some ⟨g7, 0, none⟩) (n + 1) (cap3)) (fun v1 => Fx.x_assign rfl rfl) (Fx.Rp (.slice (Fx.slA 56 1 ca aa1) (na - 1) (ca - 1)) (fun v1 => Fx.x_assign rfl rfl) (Fx.Rp (.slice (Fx.slA 56 1 cb bb1) (nb - 1) (cb - 1)) (fun v1 => Fx.x_assign rfl rfl) (Fx.R.nil (Fx.blkN (Fx.blkN ?_)))))
    skip
    refine Fx.lpN ⟨na - 1 + (nb - 1), (by omega), na - 1, nb - 1, ca - 1, cb - 1, Fx.slA 56 1 ca aa1, Fx.slA 56 1 cb bb1, ra.tail, rb.tail, ol ++ [ndJ (ndA ra 0) (ndA rb 0)], n + 1, (some ⟨g7, 0, none⟩), cap3, (by omega), (tailN hA hca), (tailN hB hcb), (by rw [List.length_tail]; omega), (by rw [List.length_tail]; omega), (by omega), (by omega), (by rw [List.length_append]; exact congrArg (· + 1) hn), (by omega), (m_step hj (mN_yes (by omega) (by omega) n53 n64 c40p)), (by rfl), (by rfl), q3, q4, (by rfl), m42, b12⟩ (by decide)
   refine Fx.Lv (.bool true) (Fx.x_neqT rfl rfl rfl c41) (Fx.Ln (Fx.sN (Fx.Wc (b := true) rfl (fun _ => Fx.Ws ?_) (fun h => nomatch h))))
   have c40p : ¬ (ndA ra 0).par = (ndA rb 0).par := fun h => c41 (if_pos h)
   refine Fx.Wl (Fx.Lv (.int .i64 (if (ndA ra 0).par = (ndA rb 0).par then (0 : Int) else 9)) (Fx.x_move rfl q41) (Fx.Lv (.slice none 0 0) (Fx.x_assign rfl rfl) (Fx.Lv (.int .i64 (if (ndA ra 0).par = (ndA rb 0).par then (0 : Int) else 9)) (Fx.x_assign rfl rfl) (Fx.Ln (Fx.sN (Fx.Wr (Fx.sR (Fx.blkR (Fx.blkR (Fx.lpR (Fx.blkR (Fx.sR (⟨.tuple #[.slice none 0 0, .int .i64 (if (ndA ra 0).par = (ndA rb 0).par then (0 : Int) else 9)], Fx.retV2 Try.results21 (by exact rfl) (by exact rfl), ?_⟩)))))))))))))
   exact .inl ⟨by rw [hj, mN_no (by omega) (by omega) n53 n64 c40p]; rfl, by rw [if_neg c40p], b9⟩
  refine Fx.Lv (.bool false) (Fx.x_gtrF rfl rfl rfl c19) (Fx.Lv (.bool false) (Fx.x_pickT rfl rfl rfl) (Fx.Ln (Fx.sN (Fx.Wc (b := false) rfl (fun h => nomatch h) (fun _ => Fx.W.exit (Fx.seqX (Fx.lpX (Fx.blkX (Fx.sN (Fx.Ws (Fx.Wl (Fx.Lv (.slice ao (n) (co)) (Fx.x_move rfl h5) (Fx.Lv (.slice aa1 (na) (ca)) (Fx.x_move rfl h1) (Fx.L.appAny (B := w.heap.size) (s := 56) (bytes := 448) (k := n) (m := na) (v := .slice ao (n) (co)) (x := ndsX ol) (by rfl) rfl rfl rfl Try.underlying26 (by kernel_rfl) (by kernel_rfl) rfl rfl m2 (hA.up b1 rfl) (fun j _ => nds_one _ j) (by omega) (by omega) b1.size fun vv1 w9 ho4 hg4 hgv4 => ?_))))))))))))))
  obtain ⟨a1, cap4, rfl⟩ := ho4.val
  have m46 : Fx.Own w9 w.heap.size 50 56 (.slice a1 (n + na) (cap4)) (n + na) (ndsX (ol ++ ra)) := (ho4.congr (fun j _ => nds_app (l := ol) (r := ra) hn j))
  have b13 : Below w.heap.size w w9 := Fx.Below.grow b1 hg4 b1.size (fun q hq => (m2.ge hq).1)
  refine Fx.Lv (.slice bb1 (nb) (cb)) (Fx.x_move rfl h2) (Fx.L.appAny (B := w.heap.size) (s := 56) (bytes := 448) (k := n + na) (m := nb) (v := .slice a1 (n + na) (cap4)) (x := ndsX (ol ++ ra)) (by rfl) rfl rfl rfl Try.underlying26 (by kernel_rfl) (by kernel_rfl) rfl rfl m46 (hB.up b13 rfl) (fun j _ => nds_one _ j) (by omega) (by omega) b13.size fun vv2 w10 ho5 hg5 hgv5 => ?_)
  obtain ⟨a2, cap5, rfl⟩ := ho5.val
  have m47 : Fx.Own w10 w.heap.size 50 56 (.slice a2 (n + na + nb) (cap5)) (n + na + nb) (ndsX (ol ++ ra ++ rb)) := (ho5.congr (fun j _ => nds_app (l := (ol ++ ra)) (r := rb) (by rw [List.length_append, ← hn, ← hra]) j))
  have b14 : Below w.heap.size w w10 := Fx.Below.grow b13 hg5 b13.size (fun q hq => (m46.ge hq).1)
  refine Fx.Lv (.slice a2 (n + na + nb) (cap5)) (Fx.x_assign rfl rfl) (Fx.Lv (.int .i64 (0)) (Fx.x_assign rfl rfl) (Fx.Ln (Fx.sN (Fx.Wr (⟨.tuple #[.slice a2 (n + na + nb) (cap5), .int .i64 (0)], Fx.retV2 Try.results21 (by exact rfl) (by exact rfl), ?_⟩)))))
  have e9 : mergeN la lb = some (ol ++ ra ++ rb) := by rw [hj, mN_end (by first | exact .inl (List.eq_nil_of_length_eq_zero (by omega)) | exact .inr (List.eq_nil_of_length_eq_zero (by omega)))]; simp
  have l9 : (ol ++ ra ++ rb).length = n + na + nb := by simp only [List.length_append]; omega
  exact .inr ⟨_, a2, cap5, e9, by rw [l9], by rw [l9]; exact m47, b14⟩
 refine Fx.Lv (.bool false) (Fx.x_gtrF rfl rfl rfl c15) (Fx.Lv (.bool false) (Fx.x_move rfl rfl) (Fx.Lk (by rfl) rfl (Fx.Lk (by rfl) rfl (Fx.Lk (by rfl) rfl (Fx.Lv (.bool false) (Fx.x_pickF rfl rfl rfl) (Fx.Ln (Fx.sN (Fx.Wc (b := false) rfl (fun h => nomatch h) (fun _ => Fx.W.exit (Fx.seqX (Fx.lpX (Fx.blkX (Fx.sN (Fx.Ws (Fx.Wl (Fx.Lv (.slice ao (n) (co)) (Fx.x_move rfl h5) (Fx.Lv (.slice aa1 (na) (ca)) (Fx.x_move rfl h1) (Fx.L.appAny (B := w.heap.size) (s := 56) (bytes := 448) (k := n) (m := na) (v := .slice ao (n) (co)) (x := ndsX ol) (by rfl) rfl rfl rfl Try.underlying26 (by kernel_rfl) (by kernel_rfl) rfl rfl m2 (hA.up b1 rfl) (fun j _ => nds_one _ j) (by omega) (by omega) b1.size fun vv3 w11 ho6 hg6 hgv6 => ?_))))))))))))))))))
 obtain ⟨a3, cap6, rfl⟩ := ho6.val
 have m48 : Fx.Own w11 w.heap.size 50 56 (.slice a3 (n + na) (cap6)) (n + na) (ndsX (ol ++ ra)) := (ho6.congr (fun j _ => nds_app (l := ol) (r := ra) hn j))
 have b15 : Below w.heap.size w w11 := Fx.Below.grow b1 hg6 b1.size (fun q hq => (m2.ge hq).1)
 refine Fx.Lv (.slice bb1 (nb) (cb)) (Fx.x_move rfl h2) (Fx.L.appAny (B := w.heap.size) (s := 56) (bytes := 448) (k := n + na) (m := nb) (v := .slice a3 (n + na) (cap6)) (x := ndsX (ol ++ ra)) (by rfl) rfl rfl rfl Try.underlying26 (by kernel_rfl) (by kernel_rfl) rfl rfl m48 (hB.up b15 rfl) (fun j _ => nds_one _ j) (by omega) (by omega) b15.size fun vv4 w12 ho7 hg7 hgv7 => ?_)
 obtain ⟨a4, cap7, rfl⟩ := ho7.val
 have m49 : Fx.Own w12 w.heap.size 50 56 (.slice a4 (n + na + nb) (cap7)) (n + na + nb) (ndsX (ol ++ ra ++ rb)) := (ho7.congr (fun j _ => nds_app (l := (ol ++ ra)) (r := rb) (by rw [List.length_append, ← hn, ← hra]) j))
 have b16 : Below w.heap.size w w12 := Fx.Below.grow b15 hg7 b15.size (fun q hq => (m48.ge hq).1)
 refine Fx.Lv (.slice a4 (n + na + nb) (cap7)) (Fx.x_assign rfl rfl) (Fx.Lv (.int .i64 (0)) (Fx.x_assign rfl rfl) (Fx.Ln (Fx.sN (Fx.Wr (⟨.tuple #[.slice a4 (n + na + nb) (cap7), .int .i64 (0)], Fx.retV2 Try.results21 (by exact rfl) (by exact rfl), ?_⟩)))))
 have e9 : mergeN la lb = some (ol ++ ra ++ rb) := by rw [hj, mN_end (by first | exact .inl (List.eq_nil_of_length_eq_zero (by omega)) | exact .inr (List.eq_nil_of_length_eq_zero (by omega)))]; simp
 have l9 : (ol ++ ra ++ rb).length = n + na + nb := by simp only [List.length_append]; omega
 exact .inr ⟨_, a4, cap7, e9, by rw [l9], by rw [l9]; exact m49, b16⟩
set_option maxRecDepth 20000 in
theorem s_mergeG (aa ba : Option Addr) (cpa cpb : Nat) (la lb : List GrM) (w : World) (hl1 : la.length ≤ 1000000) (hl2 : lb.length ≤ 1000000) (ha : Fx.Arr w aa la.length 5 (grsX la)) (hb : Fx.Arr w ba lb.length 5 (grsX lb)) (ha2 : la.length ≤ cpa) (hb2 : lb.length ≤ cpb) (hpla : ∀ k, k < la.length → 0 ≤ (grA la k).b) (hplb : ∀ k, k < lb.length → 0 ≤ (grA lb k).b) :
    Calls Try.prog 24 #[.slice aa (la.length) (cpa), .slice ba (lb.length) (cpb), .func (.func 25) #[] #[], .func (.func 26) #[] #[]] w fun e w' => (mergeG la lb = none ∧ e = .returned (.tuple #[.slice none 0 0, .int .i64 14]) ∧ Below w.heap.size w w') ∨ (∃ l a' c', mergeG la lb = some l ∧ e = .returned (.tuple #[.slice a' l.length c', .int .i64 0]) ∧ Fx.Own w' w.heap.size 59 5 (.slice a' l.length c') l.length (grsX l) ∧ Below w.heap.size w w') := by
 refine Fx.enter Try.func24 rfl (n := 78) rfl (by rfl) ?_
 refine Fx.Ws (Fx.Wl (Fx.Lv (.slice none 0 0) (Fx.x_assign rfl rfl) (Fx.Lv (.int .i64 (0)) (Fx.x_assign rfl rfl) (Fx.Ln (Fx.sN (Fx.Ws (Fx.W.block ?_)))))))
 have m1 : Fx.Own w w.heap.size 59 5 (.slice none (0) (0)) 0 (grsX ([])) := Fx.Own.nil _ _ _ _ _
 refine Fx.W.loopE (fun kE f w_ => ∃ na : Nat, ∃ nb : Nat, ∃ ca : Nat, ∃ cb : Nat, ∃ aa1 : Option Addr, ∃ bb1 : Option Addr, ∃ ra : List GrM, ∃ rb : List GrM, ∃ ol : List GrM, ∃ n : Nat, ∃ ao : Option Addr, ∃ co : Nat, kE = na + nb ∧ Fx.Arr w aa1 na 5 (grsX ra) ∧ Fx.Arr w bb1 nb 5 (grsX rb) ∧ na = ra.length ∧ nb = rb.length ∧ na ≤ ca ∧ nb ≤ cb ∧ n = ol.length ∧ n + na + nb ≤ 2000000 ∧ mergeG la lb = (mergeG ra rb).map (ol ++ ·) ∧ (∀ k, k < ra.length → 0 ≤ (grA ra k).b) ∧ (∀ k, k < rb.length → 0 ≤ (grA rb k).b) ∧ f 0 = .slice aa1 (na) (ca) ∧ f 1 = .slice bb1 (nb) (cb) ∧ f 2 = .func (.func 25) #[] #[] ∧ f 3 = .func (.func 26) #[] #[] ∧ f 8 = .slice ao (n) (co) ∧ Fx.Own w_ w.heap.size 59 5 (.slice ao (n) (co)) n (grsX ol) ∧ Below w.heap.size w w_) (la.length + lb.length) ⟨la.length, lb.length, cpa, cpb, aa, ba, la, lb, [], 0, none, 0, rfl, ha, hb, rfl, rfl, ha2, hb2, rfl, (by omega), (by cases mergeG la lb <;> rfl), hpla, hplb, (by rfl), (by rfl), (by rfl), (by rfl), (by rfl), m1, (Below.refl w.heap.size w)⟩ ?_
 rintro kE f1 w1 ⟨na, nb, ca, cb, aa1, bb1, ra, rb, ol, n, ao, co, hk, hA, hB, hra, hrb, hca, hcb, hn, hs, hj, hpa, hpb, h1, h2, h3, h4, h5, m2, b1⟩
 refine Fx.Ws (Fx.Ws (Fx.Wl (Fx.Lv (.slice aa1 (na) (ca)) (Fx.x_move rfl h1) (Fx.Lv (.int .i64 ((na : Int))) (Fx.x_len rfl rfl rfl (by kernel_rfl)) ?_))))
 by_cases c15 : 0 < (na : Int)
 ·refine Fx.Lv (.bool true) (Fx.x_gtrT rfl rfl rfl c15) (Fx.Lv (.bool true) (Fx.x_move rfl rfl) (Fx.Lv (.slice bb1 (nb) (cb)) (Fx.x_move rfl h2) (Fx.Lv (.int .i64 ((nb : Int))) (Fx.x_len rfl rfl rfl (by kernel_rfl)) ?_)))
  by_cases c19 : 0 < (nb : Int)
  ·refine Fx.Lv (.bool true) (Fx.x_gtrT rfl rfl rfl c19) (Fx.Lv (.bool true) (Fx.x_pickT rfl rfl rfl) (Fx.Ln (Fx.sN (Fx.Wc (b := true) rfl (fun _ => Fx.Wk (Fx.sN (Fx.W.block (Fx.Ws ?_)))) (fun h => nomatch h)))))
   -- region 2 draws
   refine Fx.W.quiet (fun v1 => Below w1.heap.size w1 v1) (by kernel_rfl) (by kernel_rfl) (Below.refl _ _).drew ?_
   refine Fx.Qv (.func (.func 25) #[] #[]) (fun v1 hv1 => Fx.x_move rfl h3) (Fx.Qv (.slice aa1 (na) (ca)) (fun v1 hv1 => Fx.x_move rfl h1) ?_)
   obtain ⟨bq1, oq1, eq1, m3z⟩ := hA (by omega)
   have lbq1z : bq1 < w.heap.size := m3z.lt (by omega)
   have m3 := m3z.below b1 lbq1z
   have lbq1 : bq1 < w1.heap.size := m3.lt (by omega)
   refine Fx.Qv (.pointer (some ⟨bq1, oq1, none⟩)) (fun v1 hv1 => Fx.x_indexS rfl (rfl.trans (congrArg (fun q => Value.slice q (na) (ca)) eq1)) rfl Try.underlying27 (s := 5) (by kernel_rfl) (by omega) (by omega) (by omega)) (Fx.Qv (.agg (Fx.varr 5 (grZ (grA ra 0)))) (fun v1 hv1 => Fx.x_loadA (x := grsX ra) (y := grZ (grA ra 0)) rfl rfl (by kernel_rfl) (by kernel_rfl) (m3.below hv1 (m3.lt (by omega))) (i := 0) (by omega) (by omega) (fun jq hjq => Fx.flat_at (k := 0) (by omega) hjq)) (Fx.Qv (.slice bb1 (nb) (cb)) (fun v1 hv1 => Fx.x_move rfl h2) ?_))
   obtain ⟨bq2, oq2, eq2, m4z⟩ := hB (by omega)
   have lbq2z : bq2 < w.heap.size := m4z.lt (by omega)
   have m4 := m4z.below b1 lbq2z
   have lbq2 : bq2 < w1.heap.size := m4.lt (by omega)
   refine Fx.Qv (.pointer (some ⟨bq2, oq2, none⟩)) (fun v1 hv1 => Fx.x_indexS rfl (rfl.trans (congrArg (fun q => Value.slice q (nb) (cb)) eq2)) rfl Try.underlying27 (s := 5) (by kernel_rfl) (by omega) (by omega) (by omega)) (Fx.Qv (.agg (Fx.varr 5 (grZ (grA rb 0)))) (fun v1 hv1 => Fx.x_loadA (x := grsX rb) (y := grZ (grA rb 0)) rfl rfl (by kernel_rfl) (by kernel_rfl) (m4.below hv1 (m4.lt (by omega))) (i := 0) (by omega) (by omega) (fun jq hjq => Fx.flat_at (k := 0) (by omega) hjq)) (Fx.Qt.call (v := .int .i64 (cmpG (grA ra 0) (grA rb 0))) (by rfl) (fun v1 hv1 => Fx.r_clo (args := [.agg (Fx.varr 5 (grZ (grA ra 0))), .agg (Fx.varr 5 (grZ (grA rb 0)))]) rfl rfl rfl (all := #[.agg (Fx.varr 5 (grZ (grA ra 0))), .agg (Fx.varr 5 (grZ (grA rb 0)))]) rfl Try.func25 rfl rfl) rfl (fun v1 hv1 => (s_byReq (grA ra 0) (grA rb 0) _).mono fun e v2 h => ⟨h.1, bch hv1 h.2⟩) ?_))
   refine Fx.Qv (.int .i64 (cmpG (grA ra 0) (grA rb 0))) (fun v1 hv1 => Fx.x_assign rfl rfl) (Fx.Qt.nil ?_)
   intro wb1 hbwb1
   have s1 : Fx.Stp w1.heap.size w1 wb1 := Fx.Sb hbwb1
   have m5 := m2.stp s1 (m2.notNew (Nat.le_refl _))
   have m6 := m3.stp s1 (Nat.ne_of_lt (m3.lt (by omega)))
   have m7 := m4.stp s1 (Nat.ne_of_lt (m4.lt (by omega)))
   have b2 := s1.below b1 b1.size b1.size
   refine Fx.sN (Fx.W.block (Fx.Ws (Fx.Wl (Fx.Lv (.int .i64 (cmpG (grA ra 0) (grA rb 0))) (Fx.x_move rfl rfl) ?_))))
   by_cases c53 : (cmpG (grA ra 0) (grA rb 0)) < 0
   ·refine Fx.Lv (.bool true) (Fx.x_lssT rfl rfl rfl c53) (Fx.Lv (.bool true) (Fx.x_assign rfl rfl) (Fx.Ln (Fx.sN (Fx.Wc (b := true) rfl (fun _ => ?_) (fun h => nomatch h)))))
    -- region 8 draws
    refine Fx.W.reordR [0, 1, 2, 6, 7, 3, 4, 5, 8, 9] [0, 0, 0, 4, 2, 2, 0, 0, 0, 0] (Fx.ChT [59]) Fx.ChT.refl Fx.ChT.trans (certs := [(4, 3, [3]), (5, 3, [4, 3]), (5, 4, [4]), (8, 4, [4]), (9, 4, [4]), (8, 5, [5]), (9, 5, [5])]) (by kernel_rfl) (by kernel_rfl) (by kernel_rfl) (by kernel_rfl) (by kernel_rfl) fun wt1 hbwt1 hzwt1 => ?_
    have s2 : Fx.Stp wb1.heap.size wb1 wt1 := Fx.Sb hbwt1
    have m8 := m5.stp s2 (m5.notNew (Nat.le_refl _))
    have m9 := m6.stp s2 (Nat.ne_of_lt (m6.lt (by omega)))
    have m10 := m7.stp s2 (Nat.ne_of_lt (m7.lt (by omega)))
    have b3 := s2.below b2 b2.size b2.size
    refine Fx.Rp (.slice ao (n) (co)) (fun v1 => Fx.x_move rfl h5) (Fx.Rp (.slice aa1 (na) (ca)) (fun v1 => Fx.x_move rfl h1) (Fx.Rp (.pointer (some ⟨bq1, oq1, none⟩)) (fun v1 => Fx.x_indexS rfl (rfl.trans (congrArg (fun q => Value.slice q (na) (ca)) eq1)) rfl Try.underlying27 (s := 5) (by kernel_rfl) (by omega) (by omega) (by omega)) (Fx.Rp (.slice aa1 (na) (ca)) (fun v1 => Fx.x_move rfl h1) (Fx.Rp (.slice (Fx.slA 5 1 ca aa1) (na - 1) (ca - 1)) (fun v1 => Fx.x_slA (j := 1) (s := 5) rfl rfl rfl Try.underlying27 (by kernel_rfl) (by omega) hca) (Fx.R.s (.agg (Fx.varr 5 (grZ (grA ra 0)))) (Fx.x_loadA (x := grsX ra) (y := grZ (grA ra 0)) rfl rfl (by kernel_rfl) (by kernel_rfl) m9 (i := 0) (by omega) (by omega) (fun jq hjq => Fx.flat_at (k := 0) (by omega) hjq)) ?_)))))
    refine Fx.R.make (by rfl) ?_
    refine Fx.L.bslice (vs := [(0, .agg (Fx.varr 5 (grZ (grA ra 0))))]) (s := 5) (zc := fun i => (#[.int .i64 (0), .int .u64 (0), .int .u64 (0), .int .i64 (0), .int .u64 (0)] : Array Value).getD i undef) (y := Fx.ovr (fun j => (#[.int .i64 (0), .int .u64 (0), .int .u64 (0), .int .i64 (0), .int .u64 (0)] : Array Value).getD (j % 5) undef) (0 * 5) 5 (grZ (grA ra 0))) (by rfl) rfl rfl Try.underlying27 (by kernel_rfl) (by rfl) (by rfl) (by kernel_rfl) (by rw [Fx.fill_step (off := 0 * 5) (s := 5) (y := grZ (grA ra 0)) rfl (Fx.cells_agg _ _) (by rfl)]; rfl) rfl fun g1 w2 eg1 m11 s3 z1 => ?_
    have m12 := m8.stp s3 (m8.notNew (Nat.le_refl _))
    have b4 := s3.below b3 b3.size b3.size
    have lg1 : w.heap.size ≤ g1 := by rw [eg1]; exact b3.size
    have ng1m12 : (.slice ao (n) (co) : Value).ownBlock ≠ some g1 := by rw [eg1]; exact m8.notNew (Nat.le_refl _)
    have ng1m13 : bq1 ≠ g1 := by rw [eg1]; exact Nat.ne_of_lt (m9.lt (by omega))
    have ng1m14 : bq2 ≠ g1 := by rw [eg1]; exact Nat.ne_of_lt (m10.lt (by omega))
    have tg1 : g1 < w2.heap.size := m11.lt
    clear eg1
    refine Fx.Ln ⟨Fx.ChT.of_below s3.old, ?_⟩
    refine Fx.R.make (by rfl) ?_
    refine Fx.L.app (B := w.heap.size) (s := 5) (bytes := 40) (k := n) (m := 1) (v := .slice ao (n) (co)) (x := grsX ol) (by rfl) rfl rfl rfl Try.underlying27 (by kernel_rfl) (by kernel_rfl) rfl rfl m12 m11.cel (fun j hj => by unfold Fx.ovr; rw [if_pos ⟨by omega, by omega⟩]; exact grZ_one _ _) (by omega) (by omega) (by omega) b4.size fun g2 cap1 w3 ho1 hg1 hgv1 hlt1 => ?_
    have hct1 := Fx.ChT.of_grown hg1 m12
    have m15 : Fx.Own w3 w.heap.size 59 5 (.slice (some ⟨g2, 0, none⟩) (n + 1) cap1) (n + 1) (grsX (ol ++ [(grA ra 0)])) := (ho1.congr (grs_app1 (l := ol) (x := (grA ra 0)) hn))
    have b5 : Below w.heap.size w w3 := Fx.Below.grow b4 hg1 b4.size (fun q hq => (m12.ge hq).1)
    refine Fx.Ln ⟨hct1, ?_⟩
    refine Fx.Rp (.slice (some ⟨g2, 0, none⟩) (n + 1) (cap1)) (fun v1 => Fx.x_assign rfl rfl) (Fx.Rp (.slice (Fx.slA 5 1 ca aa1) (na - 1) (ca - 1)) (fun v1 => Fx.x_assign rfl rfl) (Fx.R.nil (Fx.blkN (Fx.blkN ?_))))
    skip
    refine Fx.lpN ⟨na - 1 + nb, (by omega), na - 1, nb, ca - 1, cb, Fx.slA 5 1 ca aa1, bb1, ra.tail, rb, ol ++ [(grA ra 0)], n + 1, (some ⟨g2, 0, none⟩), cap1, (by omega), (tailG hA hca), hB, (by rw [List.length_tail]; omega), hrb, (by omega), hcb, (by rw [List.length_append]; exact congrArg (· + 1) hn), (by omega), (m_step hj (mG_lt (by omega) (by omega) (cmpG_neg.1 c53))), (nonneg_tail hpa), hpb, (by rfl), h2, h3, h4, (by rfl), m15, b5⟩ (by decide)
   refine Fx.Lv (.bool false) (Fx.x_lssF rfl rfl rfl c53) (Fx.Lv (.bool false) (Fx.x_assign rfl rfl) (Fx.Ln (Fx.sN (Fx.Wc (b := false) rfl (fun h => nomatch h) (fun _ => Fx.Ws (Fx.Wl (Fx.Lv (.int .i64 (cmpG (grA ra 0) (grA rb 0))) (Fx.x_move rfl rfl) ?_)))))))
   by_cases c64 : 0 < (cmpG (grA ra 0) (grA rb 0))
   ·refine Fx.Lv (.bool true) (Fx.x_gtrT rfl rfl rfl c64) (Fx.Lv (.bool true) (Fx.x_assign rfl rfl) (Fx.Ln (Fx.sN (Fx.Wc (b := true) rfl (fun _ => ?_) (fun h => nomatch h)))))
    -- region 10 draws
    refine Fx.W.reordR [0, 1, 2, 6, 7, 3, 4, 5, 8, 9] [0, 0, 0, 4, 2, 2, 0, 0, 0, 0] (Fx.ChT [59]) Fx.ChT.refl Fx.ChT.trans (certs := [(4, 3, [3]), (5, 3, [4, 3]), (5, 4, [4]), (8, 4, [4]), (9, 4, [4]), (8, 5, [5]), (9, 5, [5])]) (by kernel_rfl) (by kernel_rfl) (by kernel_rfl) (by kernel_rfl) (by kernel_rfl) fun wt2 hbwt2 hzwt2 => ?_
    have s4 : Fx.Stp wb1.heap.size wb1 wt2 := Fx.Sb hbwt2
    have m18 := m5.stp s4 (m5.notNew (Nat.le_refl _))
    have m19 := m6.stp s4 (Nat.ne_of_lt (m6.lt (by omega)))
    have m20 := m7.stp s4 (Nat.ne_of_lt (m7.lt (by omega)))
    have b6 := s4.below b2 b2.size b2.size
    refine Fx.Rp (.slice ao (n) (co)) (fun v1 => Fx.x_move rfl h5) (Fx.Rp (.slice bb1 (nb) (cb)) (fun v1 => Fx.x_move rfl h2) (Fx.Rp (.pointer (some ⟨bq2, oq2, none⟩)) (fun v1 => Fx.x_indexS rfl (rfl.trans (congrArg (fun q => Value.slice q (nb) (cb)) eq2)) rfl Try.underlying27 (s := 5) (by kernel_rfl) (by omega) (by omega) (by omega)) (Fx.Rp (.slice bb1 (nb) (cb)) (fun v1 => Fx.x_move rfl h2) (Fx.Rp (.slice (Fx.slA 5 1 cb bb1) (nb - 1) (cb - 1)) (fun v1 => Fx.x_slA (j := 1) (s := 5) rfl rfl rfl Try.underlying27 (by kernel_rfl) (by omega) hcb) (Fx.R.s (.agg (Fx.varr 5 (grZ (grA rb 0)))) (Fx.x_loadA (x := grsX rb) (y := grZ (grA rb 0)) rfl rfl (by kernel_rfl) (by kernel_rfl) m20 (i := 0) (by omega) (by omega) (fun jq hjq => Fx.flat_at (k := 0) (by omega) hjq)) ?_)))))
    refine Fx.R.make (by rfl) ?_
    refine Fx.L.bslice (vs := [(0, .agg (Fx.varr 5 (grZ (grA rb 0))))]) (s := 5) (zc := fun i => (#[.int .i64 (0), .int .u64 (0), .int .u64 (0), .int .i64 (0), .int .u64 (0)] : Array Value).getD i undef) (y := Fx.ovr (fun j => (#[.int .i64 (0), .int .u64 (0), .int .u64 (0), .int .i64 (0), .int .u64 (0)] : Array Value).getD (j % 5) undef) (0 * 5) 5 (grZ (grA rb 0))) (by rfl) rfl rfl Try.underlying27 (by kernel_rfl) (by rfl) (by rfl) (by kernel_rfl) (by rw [Fx.fill_step (off := 0 * 5) (s := 5) (y := grZ (grA rb 0)) rfl (Fx.cells_agg _ _) (by rfl)]; rfl) rfl fun g3 w4 eg3 m21 s5 z2 => ?_
    have m22 := m18.stp s5 (m18.notNew (Nat.le_refl _))
    have b7 := s5.below b6 b6.size b6.size
    have lg3 : w.heap.size ≤ g3 := by rw [eg3]; exact b6.size
    have ng3m22 : (.slice ao (n) (co) : Value).ownBlock ≠ some g3 := by rw [eg3]; exact m18.notNew (Nat.le_refl _)
    have ng3m23 : bq1 ≠ g3 := by rw [eg3]; exact Nat.ne_of_lt (m19.lt (by omega))
    have ng3m24 : bq2 ≠ g3 := by rw [eg3]; exact Nat.ne_of_lt (m20.lt (by omega))
    have tg3 : g3 < w4.heap.size := m21.lt
    clear eg3
    refine Fx.Ln ⟨Fx.ChT.of_below s5.old, ?_⟩
    refine Fx.R.make (by rfl) ?_
    refine Fx.L.app (B := w.heap.size) (s := 5) (bytes := 40) (k := n) (m := 1) (v := .slice ao (n) (co)) (x := grsX ol) (by rfl) rfl rfl rfl Try.underlying27 (by kernel_rfl) (by kernel_rfl) rfl rfl m22 m21.cel (fun j hj => by unfold Fx.ovr; rw [if_pos ⟨by omega, by omega⟩]; exact grZ_one _ _) (by omega) (by omega) (by omega) b7.size fun g4 cap2 w5 ho2 hg2 hgv2 hlt2 => ?_
    have hct2 := Fx.ChT.of_grown hg2 m22
    have m25 : Fx.Own w5 w.heap.size 59 5 (.slice (some ⟨g4, 0, none⟩) (n + 1) cap2) (n + 1) (grsX (ol ++ [(grA rb 0)])) := (ho2.congr (grs_app1 (l := ol) (x := (grA rb 0)) hn))
    have b8 : Below w.heap.size w w5 := Fx.Below.grow b7 hg2 b7.size (fun q hq => (m22.ge hq).1)
    refine Fx.Ln ⟨hct2, ?_⟩
    refine Fx.Rp (.slice (some ⟨g4, 0, none⟩) (n + 1) (cap2)) (fun v1 => Fx.x_assign rfl rfl) (Fx.Rp (.slice (Fx.slA 5 1 cb bb1) (nb - 1) (cb - 1)) (fun v1 => Fx.x_assign rfl rfl) (Fx.R.nil (Fx.blkN (Fx.blkN ?_))))
    skip
    refine Fx.lpN ⟨na + (nb - 1), (by omega), na, nb - 1, ca, cb - 1, aa1, Fx.slA 5 1 cb bb1, ra, rb.tail, ol ++ [(grA rb 0)], n + 1, (some ⟨g4, 0, none⟩), cap2, (by omega), hA, (tailG hB hcb), hra, (by rw [List.length_tail]; omega), hca, (by omega), (by rw [List.length_append]; exact congrArg (· + 1) hn), (by omega), (m_step hj (mG_gt (by omega) (by omega) (cmpG_gt.1 c64))), hpa, (nonneg_tail hpb), h1, (by rfl), h3, h4, (by rfl), m25, b8⟩ (by decide)
   refine Fx.Lv (.bool false) (Fx.x_gtrF rfl rfl rfl c64) (Fx.Lv (.bool false) (Fx.x_assign rfl rfl) (Fx.Ln (Fx.sN (Fx.Wc (b := false) rfl (fun h => nomatch h) (fun _ => Fx.Ws ?_)))))
   have n53 : ¬ grLt (grA ra 0) (grA rb 0) := fun h => c53 (cmpG_neg.2 h)
   have n64 : ¬ grLt (grA rb 0) (grA ra 0) := fun h => c64 (cmpG_gt.2 h)
   -- region 3 draws
   refine Fx.W.one (T := 59) (T' := 59) (a := .tmp 11) (v := .tmp 38) (m := 5) (z := fun i => (#[.int .i64 (0), .int .u64 (0), .int .u64 (0), .int .i64 (0), .int .u64 (0)] : Array Value).getD i undef) (y := grZ (if GrBad (grA ra 0) (grA rb 0) then (grA ra 0) else grJ (grA ra 0) (grA rb 0))) (u := .agg (Fx.varr 5 (grZ (if GrBad (grA ra 0) (grA rb 0) then (grA ra 0) else grJ (grA ra 0) (grA rb 0))))) 11 12 (List.replicate 14 (0, 2, [], [])) #[.func (.func 26) #[] #[], .slice aa1 (na) (ca), .pointer (some ⟨bq1, oq1, none⟩), .agg (Fx.varr 5 (grZ (grA ra 0))), .slice bb1 (nb) (cb), .pointer (some ⟨bq2, oq2, none⟩), .agg (Fx.varr 5 (grZ (grA rb 0))), .tuple #[.agg (Fx.varr 5 (grZ (if GrBad (grA ra 0) (grA rb 0) then (grA ra 0) else grJ (grA ra 0) (grA rb 0)))), .int .i64 (if GrBad (grA ra 0) (grA rb 0) then (14 : Int) else 0)], .tuple #[.agg (Fx.varr 5 (grZ (if GrBad (grA ra 0) (grA rb 0) then (grA ra 0) else grJ (grA ra 0) (grA rb 0)))), .int .i64 (if GrBad (grA ra 0) (grA rb 0) then (14 : Int) else 0)], .agg (Fx.varr 5 (grZ (if GrBad (grA ra 0) (grA rb 0) then (grA ra 0) else grJ (grA ra 0) (grA rb 0)))), .int .i64 (if GrBad (grA ra 0) (grA rb 0) then (14 : Int) else 0), undef, undef, .int .i64 (if GrBad (grA ra 0) (grA rb 0) then (14 : Int) else 0)] (by kernel_rfl) (by kernel_rfl) (by kernel_rfl) (by kernel_rfl) (by kernel_rfl) (by kernel_rfl) rfl (by kernel_rfl) rfl rfl (by kernel_rfl) (fun g5 => (show Fx.ev _ (.tmp 11) = .pointer (some ⟨g5, 0, none⟩) from by kernel_rfl)) (fun g5 => (show Fx.ev _ (.tmp 38) = .agg (Fx.varr 5 (grZ (if GrBad (grA ra 0) (grA rb 0) then (grA ra 0) else grJ (grA ra 0) (grA rb 0)))) from by kernel_rfl)) (Fx.cells_agg _ _) (fun j _ => grZ_one _ j) (by kernel_rfl) (fun g5 => ?_) ?_
   ·refine ⟨?_, ?_, ?_, ?_, ?_, ?_, ?_, ?_, ?_, ?_, ?_, ?_, ?_, ?_, trivial⟩
    ·exact .inr (.inr (Fx.qb_yes (v := .func (.func 26) #[] #[]) (by kernel_rfl) (by kernel_rfl) (Fx.qbV fun v1 hv1 => Fx.x_move rfl ((Fx.fOne_out (by kernel_rfl)).trans h4))))
    ·exact .inr (.inr (Fx.qb_yes (v := .slice aa1 (na) (ca)) (by kernel_rfl) (by kernel_rfl) (Fx.qbV fun v1 hv1 => Fx.x_move rfl ((Fx.fOne_out (by kernel_rfl)).trans h1))))
    ·exact .inr (.inr (Fx.qb_yes (v := .pointer (some ⟨bq1, oq1, none⟩)) (by kernel_rfl) (by kernel_rfl) (Fx.qbV fun v1 hv1 => Fx.x_indexS rfl ((show Fx.ev _ (.tmp 31) = .slice aa1 (na) (ca) from by kernel_rfl).trans (congrArg (fun q => Value.slice q (na) (ca)) eq1)) (show Fx.ev _ (.const (.int .i64 (0))) = .int .i64 (0) from by kernel_rfl) Try.underlying27 (s := 5) (by kernel_rfl) (by omega) (by omega) (by omega))))
    ·exact .inr (.inr (Fx.qb_yes (v := .agg (Fx.varr 5 (grZ (grA ra 0)))) (by kernel_rfl) (by kernel_rfl) (Fx.qbV fun v1 hv1 => Fx.x_loadA (x := grsX ra) (y := grZ (grA ra 0)) rfl (show Fx.ev _ (.tmp 32) = .pointer (some ⟨bq1, oq1, none⟩) from by kernel_rfl) (by kernel_rfl) (by kernel_rfl) (m6.below hv1 (m6.lt (by omega))) (i := 0) (by omega) (by omega) (fun jq hjq => Fx.flat_at (k := 0) (by omega) hjq))))
    ·exact .inr (.inr (Fx.qb_yes (v := .slice bb1 (nb) (cb)) (by kernel_rfl) (by kernel_rfl) (Fx.qbV fun v1 hv1 => Fx.x_move rfl ((Fx.fOne_out (by kernel_rfl)).trans h2))))
    ·exact .inr (.inr (Fx.qb_yes (v := .pointer (some ⟨bq2, oq2, none⟩)) (by kernel_rfl) (by kernel_rfl) (Fx.qbV fun v1 hv1 => Fx.x_indexS rfl ((show Fx.ev _ (.tmp 34) = .slice bb1 (nb) (cb) from by kernel_rfl).trans (congrArg (fun q => Value.slice q (nb) (cb)) eq2)) (show Fx.ev _ (.const (.int .i64 (0))) = .int .i64 (0) from by kernel_rfl) Try.underlying27 (s := 5) (by kernel_rfl) (by omega) (by omega) (by omega))))
    ·exact .inr (.inr (Fx.qb_yes (v := .agg (Fx.varr 5 (grZ (grA rb 0)))) (by kernel_rfl) (by kernel_rfl) (Fx.qbV fun v1 hv1 => Fx.x_loadA (x := grsX rb) (y := grZ (grA rb 0)) rfl (show Fx.ev _ (.tmp 35) = .pointer (some ⟨bq2, oq2, none⟩) from by kernel_rfl) (by kernel_rfl) (by kernel_rfl) (m7.below hv1 (m7.lt (by omega))) (i := 0) (by omega) (by omega) (fun jq hjq => Fx.flat_at (k := 0) (by omega) hjq))))
    ·exact .inr (.inr (Fx.qb_yes (v := .tuple #[.agg (Fx.varr 5 (grZ (if GrBad (grA ra 0) (grA rb 0) then (grA ra 0) else grJ (grA ra 0) (grA rb 0)))), .int .i64 (if GrBad (grA ra 0) (grA rb 0) then (14 : Int) else 0)]) (by kernel_rfl) (by kernel_rfl) (Fx.qbC (fun v1 hv1 => Fx.r_clo (args := [.agg (Fx.varr 5 (grZ (grA ra 0))), .agg (Fx.varr 5 (grZ (grA rb 0)))]) rfl (show Fx.ev _ (.tmp 30) = .func (.func 26) #[] #[] from by kernel_rfl) (Fx.args2 (show Fx.ev _ (.tmp 33) = .agg (Fx.varr 5 (grZ (grA ra 0))) from by kernel_rfl) (show Fx.ev _ (.tmp 36) = .agg (Fx.varr 5 (grZ (grA rb 0))) from by kernel_rfl)) (all := #[.agg (Fx.varr 5 (grZ (grA ra 0))), .agg (Fx.varr 5 (grZ (grA rb 0)))]) rfl Try.func26 rfl rfl) (fun v1 hv1 => (s_grant (grA ra 0) (grA rb 0) _ (hpa 0 (by omega)) (hpb 0 (by omega))).mono fun e v2 h => ⟨h.1, h.2⟩))))
    ·exact .inr (.inr (Fx.qb_yes (v := .tuple #[.agg (Fx.varr 5 (grZ (if GrBad (grA ra 0) (grA rb 0) then (grA ra 0) else grJ (grA ra 0) (grA rb 0)))), .int .i64 (if GrBad (grA ra 0) (grA rb 0) then (14 : Int) else 0)]) (by kernel_rfl) (by kernel_rfl) (Fx.qbV fun v1 hv1 => Fx.x_move rfl (show Fx.ev _ (.tmp 37) = .tuple #[.agg (Fx.varr 5 (grZ (if GrBad (grA ra 0) (grA rb 0) then (grA ra 0) else grJ (grA ra 0) (grA rb 0)))), .int .i64 (if GrBad (grA ra 0) (grA rb 0) then (14 : Int) else 0)] from by kernel_rfl))))
    ·exact .inr (.inr (Fx.qb_yes (v := .agg (Fx.varr 5 (grZ (if GrBad (grA ra 0) (grA rb 0) then (grA ra 0) else grJ (grA ra 0) (grA rb 0))))) (by kernel_rfl) (by kernel_rfl) (Fx.qbV fun v1 hv1 => Fx.x_extract rfl (show Fx.ev _ (.tmp 29) = .tuple #[.agg (Fx.varr 5 (grZ (if GrBad (grA ra 0) (grA rb 0) then (grA ra 0) else grJ (grA ra 0) (grA rb 0)))), .int .i64 (if GrBad (grA ra 0) (grA rb 0) then (14 : Int) else 0)] from by kernel_rfl) rfl)))
    ·exact .inr (.inr (Fx.qb_yes (v := .int .i64 (if GrBad (grA ra 0) (grA rb 0) then (14 : Int) else 0)) (by kernel_rfl) (by kernel_rfl) (Fx.qbV fun v1 hv1 => Fx.x_extract rfl (show Fx.ev _ (.tmp 29) = .tuple #[.agg (Fx.varr 5 (grZ (if GrBad (grA ra 0) (grA rb 0) then (grA ra 0) else grJ (grA ra 0) (grA rb 0)))), .int .i64 (if GrBad (grA ra 0) (grA rb 0) then (14 : Int) else 0)] from by kernel_rfl) rfl)))
    ·exact .inl rfl
    ·exact .inr (.inl rfl)
    exact .inr (.inr (Fx.qb_yes (v := .int .i64 (if GrBad (grA ra 0) (grA rb 0) then (14 : Int) else 0)) (by kernel_rfl) (by kernel_rfl) (Fx.qbV fun v1 hv1 => Fx.x_assign rfl (show Fx.ev _ (.tmp 39) = .int .i64 (if GrBad (grA ra 0) (grA rb 0) then (14 : Int) else 0) from by kernel_rfl))))
   rintro g5 w6 f2 hf1 lg5 m28 hb1
   have s6 := Fx.Sb hb1
   have ng5m6 : bq1 ≠ g5 := Nat.ne_of_lt (Nat.lt_of_lt_of_le (m6.lt (by omega)) lg5)
   have ng5m7 : bq2 ≠ g5 := Nat.ne_of_lt (Nat.lt_of_lt_of_le (m7.lt (by omega)) lg5)
   have ng5m5 : (.slice ao (n) (co) : Value).ownBlock ≠ some g5 := fun e => by have := (m5.ge e).2; omega
   have m29 := m5.stp s6 (m5.notNew (Nat.le_refl _))
   have m30 := m6.stp s6 (Nat.ne_of_lt (m6.lt (by omega)))
   have m31 := m7.stp s6 (Nat.ne_of_lt (m7.lt (by omega)))
   have b9 := s6.below b2 b2.size b2.size
   have lg5 : w.heap.size ≤ g5 := Nat.le_trans b2.size lg5
   have tg5 : g5 < w6.heap.size := m28.lt
   have q1 : f2 0 = .slice aa1 (na) (ca) := by rw [hf1]; exact (Fx.fOne_out (by kernel_rfl)).trans h1
   have q2 : f2 1 = .slice bb1 (nb) (cb) := by rw [hf1]; exact (Fx.fOne_out (by kernel_rfl)).trans h2
   have q3 : f2 2 = .func (.func 25) #[] #[] := by rw [hf1]; exact (Fx.fOne_out (by kernel_rfl)).trans h3
   have q4 : f2 3 = .func (.func 26) #[] #[] := by rw [hf1]; exact (Fx.fOne_out (by kernel_rfl)).trans h4
   have q5 : f2 8 = .slice ao (n) (co) := by rw [hf1]; exact (Fx.fOne_out (by kernel_rfl)).trans h5
   have q9 : f2 16 = .bool true := by rw [hf1]; kernel_rfl
   have q40 : f2 11 = .pointer (some ⟨g5, 0, none⟩) := by rw [hf1]; kernel_rfl
   have q41 : f2 12 = .int .i64 (if GrBad (grA ra 0) (grA rb 0) then (14 : Int) else 0) := by rw [hf1]; kernel_rfl
   clear hf1
   refine Fx.sN (Fx.Ws (Fx.Ws (Fx.Wl (Fx.Lv (.int .i64 (if GrBad (grA ra 0) (grA rb 0) then (14 : Int) else 0)) (Fx.x_move rfl q41) ?_))))
   by_cases c41 : (if GrBad (grA ra 0) (grA rb 0) then (14 : Int) else 0) = 0
   ·refine Fx.Lv (.bool false) (Fx.x_neqF rfl rfl rfl c41) (Fx.Ln (Fx.sN (Fx.Wc (b := false) rfl (fun h => nomatch h) (fun _ => Fx.Wk (Fx.sN ?_)))))
    have c40p : ¬ GrBad (grA ra 0) (grA rb 0) := fun h => by rw [if_pos h] at c41; exact absurd c41 (by decide)
    have m32 : Fx.Blk w6 g5 5 (grZ (grJ (grA ra 0) (grA rb 0))) 59 := by have q9 := m28; rw [if_neg c40p] at q9; exact q9
    -- region 6 draws
    refine Fx.W.reordR [0, 4, 5, 6, 7, 1, 2, 3, 8, 9, 10] [0, 4, 2, 2, 0, 0, 0, 0, 0, 0, 0] (Fx.ChT [59]) Fx.ChT.refl Fx.ChT.trans (certs := [(2, 1, [1]), (3, 1, [2, 1]), (3, 2, [2]), (8, 2, [2]), (9, 2, [2]), (10, 2, [2]), (8, 3, [3]), (9, 3, [3]), (10, 3, [3])]) (by kernel_rfl) (by kernel_rfl) (by kernel_rfl) (by kernel_rfl) (by kernel_rfl) fun wt3 hbwt3 hzwt3 => ?_
    have s7 : Fx.Stp w6.heap.size w6 wt3 := Fx.Sb hbwt3
    have m33 := m29.stp s7 (m29.notNew (Nat.le_refl _))
    have m34 := m30.stp s7 (Nat.ne_of_lt (m30.lt (by omega)))
    have m35 := m31.stp s7 (Nat.ne_of_lt (m31.lt (by omega)))
    have m36 := m32.stp s7 (Nat.ne_of_lt (m32.lt))
    have b10 := s7.below b9 b9.size b9.size
    refine Fx.Rp (.slice ao (n) (co)) (fun v1 => Fx.x_move rfl q5) (Fx.Rp (.slice aa1 (na) (ca)) (fun v1 => Fx.x_move rfl q1) (Fx.Rp (.slice (Fx.slA 5 1 ca aa1) (na - 1) (ca - 1)) (fun v1 => Fx.x_slA (j := 1) (s := 5) rfl rfl rfl Try.underlying27 (by kernel_rfl) (by omega) hca) (Fx.Rp (.slice bb1 (nb) (cb)) (fun v1 => Fx.x_move rfl q2) (Fx.Rp (.slice (Fx.slA 5 1 cb bb1) (nb - 1) (cb - 1)) (fun v1 => Fx.x_slA (j := 1) (s := 5) rfl rfl rfl Try.underlying27 (by kernel_rfl) (by omega) hcb) (Fx.R.s (.agg (Fx.varr 5 (grZ (grJ (grA ra 0) (grA rb 0))))) (Fx.x_loadA (x := grZ (grJ (grA ra 0) (grA rb 0))) (y := grZ (grJ (grA ra 0) (grA rb 0))) rfl q40 (by kernel_rfl) (by kernel_rfl) m36.cel (i := 0) (by omega) (by omega) (fun j _ => by rw [Nat.zero_add])) ?_)))))
    refine Fx.R.make (by rfl) ?_
    refine Fx.L.bslice (vs := [(0, .agg (Fx.varr 5 (grZ (grJ (grA ra 0) (grA rb 0)))))]) (s := 5) (zc := fun i => (#[.int .i64 (0), .int .u64 (0), .int .u64 (0), .int .i64 (0), .int .u64 (0)] : Array Value).getD i undef) (y := Fx.ovr (fun j => (#[.int .i64 (0), .int .u64 (0), .int .u64 (0), .int .i64 (0), .int .u64 (0)] : Array Value).getD (j % 5) undef) (0 * 5) 5 (grZ (grJ (grA ra 0) (grA rb 0)))) (by rfl) rfl rfl Try.underlying27 (by kernel_rfl) (by rfl) (by rfl) (by kernel_rfl) (by rw [Fx.fill_step (off := 0 * 5) (s := 5) (y := grZ (grJ (grA ra 0) (grA rb 0))) rfl (Fx.cells_agg _ _) (by rfl)]; rfl) rfl fun g6 w7 eg6 m37 s8 z3 => ?_
    have m38 := m33.stp s8 (m33.notNew (Nat.le_refl _))
    have m41 := m36.stp s8 (Nat.ne_of_lt (m36.lt))
    have b11 := s8.below b10 b10.size b10.size
    have lg6 : w.heap.size ≤ g6 := by rw [eg6]; exact b10.size
    have ng6m38 : (.slice ao (n) (co) : Value).ownBlock ≠ some g6 := by rw [eg6]; exact m33.notNew (Nat.le_refl _)
    have ng6m39 : bq1 ≠ g6 := by rw [eg6]; exact Nat.ne_of_lt (m34.lt (by omega))
    have ng6m40 : bq2 ≠ g6 := by rw [eg6]; exact Nat.ne_of_lt (m35.lt (by omega))
    have ng6m41 : g5 ≠ g6 := by rw [eg6]; exact Nat.ne_of_lt (m36.lt)
    have tg6 : g6 < w7.heap.size := m37.lt
    clear eg6
    refine Fx.Ln ⟨Fx.ChT.of_below s8.old, ?_⟩
    refine Fx.R.make (by rfl) ?_
    refine Fx.L.app (B := w.heap.size) (s := 5) (bytes := 40) (k := n) (m := 1) (v := .slice ao (n) (co)) (x := grsX ol) (by rfl) rfl rfl rfl Try.underlying27 (by kernel_rfl) (by kernel_rfl) rfl rfl m38 m37.cel (fun j hj => by unfold Fx.ovr; rw [if_pos ⟨by omega, by omega⟩]; exact grZ_one _ _) (by omega) (by omega) (by omega) b11.size fun g7 cap3 w8 ho3 hg3 hgv3 hlt3 => ?_
    have hct3 := Fx.ChT.of_grown hg3 m38
    have ng7m45 : g5 ≠ g7 := fun e => hgv3.elim (fun e2 => ng5m5 (by rw [e]; exact e2)) (fun e2 => by have := m41.lt; omega)
    have m42 : Fx.Own w8 w.heap.size 59 5 (.slice (some ⟨g7, 0, none⟩) (n + 1) cap3) (n + 1) (grsX (ol ++ [(grJ (grA ra 0) (grA rb 0))])) := (ho3.congr (grs_app1 (l := ol) (x := (grJ (grA ra 0) (grA rb 0))) hn))
    have b12 : Below w.heap.size w w8 := Fx.Below.grow b11 hg3 b11.size (fun q hq => (m38.ge hq).1)
    refine Fx.Ln ⟨hct3, ?_⟩
    refine Fx.Rp (.slice (some ⟨g7, 0, none⟩) (n + 1) (cap3)) (fun v1 => Fx.x_assign rfl rfl) (Fx.Rp (.slice (Fx.slA 5 1 ca aa1) (na - 1) (ca - 1)) (fun v1 => Fx.x_assign rfl rfl) (Fx.Rp (.slice (Fx.slA 5 1 cb bb1) (nb - 1) (cb - 1)) (fun v1 => Fx.x_assign rfl rfl) (Fx.R.nil (Fx.blkN (Fx.blkN ?_)))))
    skip
    refine Fx.lpN ⟨na - 1 + (nb - 1), (by omega), na - 1, nb - 1, ca - 1, cb - 1, Fx.slA 5 1 ca aa1, Fx.slA 5 1 cb bb1, ra.tail, rb.tail, ol ++ [grJ (grA ra 0) (grA rb 0)], n + 1, (some ⟨g7, 0, none⟩), cap3, (by omega), (tailG hA hca), (tailG hB hcb), (by rw [List.length_tail]; omega), (by rw [List.length_tail]; omega), (by omega), (by omega), (by rw [List.length_append]; exact congrArg (· + 1) hn), (by omega), (m_step hj (mG_yes (by omega) (by omega) n53 n64 c40p)), (nonneg_tail hpa), (nonneg_tail hpb), (by rfl), (by rfl), q3, q4, (by rfl), m42, b12⟩ (by decide)
   refine Fx.Lv (.bool true) (Fx.x_neqT rfl rfl rfl c41) (Fx.Ln (Fx.sN (Fx.Wc (b := true) rfl (fun _ => Fx.Ws ?_) (fun h => nomatch h))))
   have c40p : GrBad (grA ra 0) (grA rb 0) := Classical.byContradiction fun h => c41 (if_neg h)
   refine Fx.Wl (Fx.Lv (.int .i64 (if GrBad (grA ra 0) (grA rb 0) then (14 : Int) else 0)) (Fx.x_move rfl q41) (Fx.Lv (.slice none 0 0) (Fx.x_assign rfl rfl) (Fx.Lv (.int .i64 (if GrBad (grA ra 0) (grA rb 0) then (14 : Int) else 0)) (Fx.x_assign rfl rfl) (Fx.Ln (Fx.sN (Fx.Wr (Fx.sR (Fx.blkR (Fx.blkR (Fx.lpR (Fx.blkR (Fx.sR (⟨.tuple #[.slice none 0 0, .int .i64 (if GrBad (grA ra 0) (grA rb 0) then (14 : Int) else 0)], Fx.retV2 Try.results24 (by exact rfl) (by exact rfl), ?_⟩)))))))))))))
   exact .inl ⟨by rw [hj, mG_no (by omega) (by omega) n53 n64 c40p]; rfl, by rw [if_pos c40p], b9⟩
  refine Fx.Lv (.bool false) (Fx.x_gtrF rfl rfl rfl c19) (Fx.Lv (.bool false) (Fx.x_pickT rfl rfl rfl) (Fx.Ln (Fx.sN (Fx.Wc (b := false) rfl (fun h => nomatch h) (fun _ => Fx.W.exit (Fx.seqX (Fx.lpX (Fx.blkX (Fx.sN (Fx.Ws (Fx.Wl (Fx.Lv (.slice ao (n) (co)) (Fx.x_move rfl h5) (Fx.Lv (.slice aa1 (na) (ca)) (Fx.x_move rfl h1) (Fx.L.appAny (B := w.heap.size) (s := 5) (bytes := 40) (k := n) (m := na) (v := .slice ao (n) (co)) (x := grsX ol) (by rfl) rfl rfl rfl Try.underlying27 (by kernel_rfl) (by kernel_rfl) rfl rfl m2 (hA.up b1 rfl) (fun j _ => grs_one _ j) (by omega) (by omega) b1.size fun vv1 w9 ho4 hg4 hgv4 => ?_))))))))))))))
  obtain ⟨a1, cap4, rfl⟩ := ho4.val
  have m46 : Fx.Own w9 w.heap.size 59 5 (.slice a1 (n + na) (cap4)) (n + na) (grsX (ol ++ ra)) := (ho4.congr (fun j _ => grs_app (l := ol) (r := ra) hn j))
  have b13 : Below w.heap.size w w9 := Fx.Below.grow b1 hg4 b1.size (fun q hq => (m2.ge hq).1)
  refine Fx.Lv (.slice bb1 (nb) (cb)) (Fx.x_move rfl h2) (Fx.L.appAny (B := w.heap.size) (s := 5) (bytes := 40) (k := n + na) (m := nb) (v := .slice a1 (n + na) (cap4)) (x := grsX (ol ++ ra)) (by rfl) rfl rfl rfl Try.underlying27 (by kernel_rfl) (by kernel_rfl) rfl rfl m46 (hB.up b13 rfl) (fun j _ => grs_one _ j) (by omega) (by omega) b13.size fun vv2 w10 ho5 hg5 hgv5 => ?_)
  obtain ⟨a2, cap5, rfl⟩ := ho5.val
  have m47 : Fx.Own w10 w.heap.size 59 5 (.slice a2 (n + na + nb) (cap5)) (n + na + nb) (grsX (ol ++ ra ++ rb)) := (ho5.congr (fun j _ => grs_app (l := (ol ++ ra)) (r := rb) (by rw [List.length_append, ← hn, ← hra]) j))
  have b14 : Below w.heap.size w w10 := Fx.Below.grow b13 hg5 b13.size (fun q hq => (m46.ge hq).1)
  refine Fx.Lv (.slice a2 (n + na + nb) (cap5)) (Fx.x_assign rfl rfl) (Fx.Lv (.int .i64 (0)) (Fx.x_assign rfl rfl) (Fx.Ln (Fx.sN (Fx.Wr (⟨.tuple #[.slice a2 (n + na + nb) (cap5), .int .i64 (0)], Fx.retV2 Try.results24 (by exact rfl) (by exact rfl), ?_⟩)))))
  have e9 : mergeG la lb = some (ol ++ ra ++ rb) := by rw [hj, mG_end (by first | exact .inl (List.eq_nil_of_length_eq_zero (by omega)) | exact .inr (List.eq_nil_of_length_eq_zero (by omega)))]; simp
  have l9 : (ol ++ ra ++ rb).length = n + na + nb := by simp only [List.length_append]; omega
  exact .inr ⟨_, a2, cap5, e9, by rw [l9], by rw [l9]; exact m47, b14⟩
 refine Fx.Lv (.bool false) (Fx.x_gtrF rfl rfl rfl c15) (Fx.Lv (.bool false) (Fx.x_move rfl rfl) (Fx.Lk (by rfl) rfl (Fx.Lk (by rfl) rfl (Fx.Lk (by rfl) rfl (Fx.Lv (.bool false) (Fx.x_pickF rfl rfl rfl) (Fx.Ln (Fx.sN (Fx.Wc (b := false) rfl (fun h => nomatch h) (fun _ => Fx.W.exit (Fx.seqX (Fx.lpX (Fx.blkX (Fx.sN (Fx.Ws (Fx.Wl (Fx.Lv (.slice ao (n) (co)) (Fx.x_move rfl h5) (Fx.Lv (.slice aa1 (na) (ca)) (Fx.x_move rfl h1) (Fx.L.appAny (B := w.heap.size) (s := 5) (bytes := 40) (k := n) (m := na) (v := .slice ao (n) (co)) (x := grsX ol) (by rfl) rfl rfl rfl Try.underlying27 (by kernel_rfl) (by kernel_rfl) rfl rfl m2 (hA.up b1 rfl) (fun j _ => grs_one _ j) (by omega) (by omega) b1.size fun vv3 w11 ho6 hg6 hgv6 => ?_))))))))))))))))))
 obtain ⟨a3, cap6, rfl⟩ := ho6.val
 have m48 : Fx.Own w11 w.heap.size 59 5 (.slice a3 (n + na) (cap6)) (n + na) (grsX (ol ++ ra)) := (ho6.congr (fun j _ => grs_app (l := ol) (r := ra) hn j))
 have b15 : Below w.heap.size w w11 := Fx.Below.grow b1 hg6 b1.size (fun q hq => (m2.ge hq).1)
 refine Fx.Lv (.slice bb1 (nb) (cb)) (Fx.x_move rfl h2) (Fx.L.appAny (B := w.heap.size) (s := 5) (bytes := 40) (k := n + na) (m := nb) (v := .slice a3 (n + na) (cap6)) (x := grsX (ol ++ ra)) (by rfl) rfl rfl rfl Try.underlying27 (by kernel_rfl) (by kernel_rfl) rfl rfl m48 (hB.up b15 rfl) (fun j _ => grs_one _ j) (by omega) (by omega) b15.size fun vv4 w12 ho7 hg7 hgv7 => ?_)
 obtain ⟨a4, cap7, rfl⟩ := ho7.val
 have m49 : Fx.Own w12 w.heap.size 59 5 (.slice a4 (n + na + nb) (cap7)) (n + na + nb) (grsX (ol ++ ra ++ rb)) := (ho7.congr (fun j _ => grs_app (l := (ol ++ ra)) (r := rb) (by rw [List.length_append, ← hn, ← hra]) j))
 have b16 : Below w.heap.size w w12 := Fx.Below.grow b15 hg7 b15.size (fun q hq => (m48.ge hq).1)
 refine Fx.Lv (.slice a4 (n + na + nb) (cap7)) (Fx.x_assign rfl rfl) (Fx.Lv (.int .i64 (0)) (Fx.x_assign rfl rfl) (Fx.Ln (Fx.sN (Fx.Wr (⟨.tuple #[.slice a4 (n + na + nb) (cap7), .int .i64 (0)], Fx.retV2 Try.results24 (by exact rfl) (by exact rfl), ?_⟩)))))
 have e9 : mergeG la lb = some (ol ++ ra ++ rb) := by rw [hj, mG_end (by first | exact .inl (List.eq_nil_of_length_eq_zero (by omega)) | exact .inr (List.eq_nil_of_length_eq_zero (by omega)))]; simp
 have l9 : (ol ++ ra ++ rb).length = n + na + nb := by simp only [List.length_append]; omega
 exact .inr ⟨_, a4, cap7, e9, by rw [l9], by rw [l9]; exact m49, b16⟩
end Go.Proofs.Ytcbedgfikejkoaa
namespace Go.Proofs.Ytcbedgfikejkoaa
open Go.RowKit Rt
open Fx (x_move x_assign x_field x_load1 x_pickF x_pickT x_nil x_conv x_indexS x_index x_leqF x_loadA x_len x_gtrF x_build x_eqlF x_eqlT Lv sN Ln Ws Qv Wl Rp Wc Qs Wr Sb Lk Wk rC rV sR)
set_option linter.unusedVariables false
namespace Fx
theorem Own.le {w : World} {B : Nat} {E : TypeId} {s n c : Nat} {a : Option Addr} {x : Nat → Value} (h : Own w B E s (.slice a n c) n x) : n ≤ c := by
  rcases h.2 with ⟨e, e2⟩ | ⟨g, cap, cur, e, hb, hg, hle, _⟩
  · injection e with _ e1 e3; omega
  injection e with _ e1 e3; omega
end Fx
namespace Rt
structure NdR (x : NdM) : Prop where
  id : U64r x.id
  par : U64r x.par
  R : ∀ p, p < 54 → I64r (x.R p)
structure GrR (x : GrM) : Prop where
  o : I64r x.o
  r : U64r x.r
  n : U64r x.n
  a : I64r x.a
  b : U64r x.b
structure SnR (m : SnM) : Prop where
  k : Kr m.known
  n : ∀ x ∈ m.ns, NdR x
  g : ∀ x ∈ m.gs, GrR x
theorem ndA_mem {l : List NdM} {k : Nat} (h : k < l.length) : ndA l k ∈ l := by
  unfold ndA; rw [List.getD_eq_getElem?_getD, List.getElem?_eq_getElem h]; exact List.getElem_mem h
theorem grA_mem {l : List GrM} {k : Nat} (h : k < l.length) : grA l k ∈ l := by
  unfold grA; rw [List.getD_eq_getElem?_getD, List.getElem?_eq_getElem h]; exact List.getElem_mem h
structure StW (w : World) (m : SnM) (na : Option Addr) (nc : Nat) (ga : Option Addr) (gc : Nat) : Prop where
  r : SnR m
  l1 : m.ns.length ≤ 1000000
  l2 : m.gs.length ≤ 1000000
  n : Fx.Arr w na m.ns.length 56 (ndsX m.ns)
  g : Fx.Arr w ga m.gs.length 5 (grsX m.gs)
  c1 : m.ns.length ≤ nc
  c2 : m.gs.length ≤ gc
theorem StW.up {w w' : World} {m : SnM} {na ga : Option Addr} {nc gc : Nat} (h : StW w m na nc ga gc) (hb : Below w.heap.size w w') : StW w' m na nc ga gc := ⟨h.r, h.l1, h.l2, h.n.up hb rfl, h.g.up hb rfl, h.c1, h.c2⟩
theorem StW.b0 {w : World} {m : SnM} {na ga : Option Addr} {nc gc : Nat} (h : StW w m na nc ga gc) : ∀ k, k < m.gs.length → 0 ≤ (grA m.gs k).b := fun k hk => (h.r.g _ (grA_mem hk)).b.1
theorem sn0_r : SnR sn0 := ⟨fun _ _ => ⟨Int.le_refl 0, show (0 : Int) ≤ 18446744073709551615 by decide⟩, fun x hx => (nomatch hx), fun x hx => (nomatch hx)⟩
theorem mx_u {a b : Int} (ha : U64r a) (hb : U64r b) : U64r (mxI a b) := by unfold mxI; split <;> assumption
theorem mx_i {a b : Int} (ha : I64r a) (hb : I64r b) : I64r (mxI a b) := by unfold mxI; split <;> assumption
theorem mergeN_r {a b l : List NdM} (ha : ∀ x ∈ a, NdR x) (hb : ∀ x ∈ b, NdR x) (h : mergeN a b = some l) : ∀ x ∈ l, NdR x := by
  induction a, b using mergeN.induct generalizing l with
  | case1 b => rw [mergeN] at h; cases h; exact hb
  | case2 x a => rw [mergeN] at h; cases h; exact ha
  | case3 x a y b c ih =>
    rw [mergeN, if_pos c] at h; obtain ⟨q, hq, rfl⟩ := Option.map_eq_some_iff.1 h
    intro z hz; rcases List.mem_cons.1 hz with rfl | hz
    · exact ha _ (List.mem_cons_self ..)
    · exact ih (fun x hx => ha x (List.mem_cons_of_mem _ hx)) hb hq z hz
  | case4 x a y b c c2 ih =>
    rw [mergeN, if_neg c, if_pos c2] at h; obtain ⟨q, hq, rfl⟩ := Option.map_eq_some_iff.1 h
    intro z hz; rcases List.mem_cons.1 hz with rfl | hz
    · exact hb _ (List.mem_cons_self ..)
    · exact ih ha (fun x hx => hb x (List.mem_cons_of_mem _ hx)) hq z hz
  | case5 x a y b c c2 c3 => rw [mergeN, if_neg c, if_neg c2, if_pos c3] at h; cases h
  | case6 x a y b c c2 c3 ih =>
    rw [mergeN, if_neg c, if_neg c2, if_neg c3] at h; obtain ⟨q, hq, rfl⟩ := Option.map_eq_some_iff.1 h
    have hx := ha _ (List.mem_cons_self ..); have hy := hb _ (List.mem_cons_self ..)
    intro z hz; rcases List.mem_cons.1 hz with rfl | hz
    · exact ⟨hx.id, hx.par, fun p hp => mx_i (hx.R p hp) (hy.R p hp)⟩
    · exact ih (fun x hx => ha x (List.mem_cons_of_mem _ hx)) (fun x hx => hb x (List.mem_cons_of_mem _ hx)) hq z hz
theorem mergeG_r {a b l : List GrM} (ha : ∀ x ∈ a, GrR x) (hb : ∀ x ∈ b, GrR x) (h : mergeG a b = some l) : ∀ x ∈ l, GrR x := by
  induction a, b using mergeG.induct generalizing l with
  | case1 b => rw [mergeG] at h; cases h; exact hb
  | case2 x a => rw [mergeG] at h; cases h; exact ha
  | case3 x a y b c ih =>
    rw [mergeG, if_pos c] at h; obtain ⟨q, hq, rfl⟩ := Option.map_eq_some_iff.1 h
    intro z hz; rcases List.mem_cons.1 hz with rfl | hz
    · exact ha _ (List.mem_cons_self ..)
    · exact ih (fun x hx => ha x (List.mem_cons_of_mem _ hx)) hb hq z hz
  | case4 x a y b c c2 ih =>
    rw [mergeG, if_neg c, if_pos c2] at h; obtain ⟨q, hq, rfl⟩ := Option.map_eq_some_iff.1 h
    intro z hz; rcases List.mem_cons.1 hz with rfl | hz
    · exact hb _ (List.mem_cons_self ..)
    · exact ih ha (fun x hx => hb x (List.mem_cons_of_mem _ hx)) hq z hz
  | case5 x a y b c c2 c3 => rw [mergeG, if_neg c, if_neg c2, if_pos c3] at h; cases h
  | case6 x a y b c c2 c3 ih =>
    rw [mergeG, if_neg c, if_neg c2, if_neg c3] at h; obtain ⟨q, hq, rfl⟩ := Option.map_eq_some_iff.1 h
    have hx := ha _ (List.mem_cons_self ..); have hy := hb _ (List.mem_cons_self ..)
    intro z hz; rcases List.mem_cons.1 hz with rfl | hz
    · exact ⟨hx.o, hx.r, hx.n, hx.a, mx_u hx.b hy.b⟩
    · exact ih (fun x hx => ha x (List.mem_cons_of_mem _ hx)) (fun x hx => hb x (List.mem_cons_of_mem _ hx)) hq z hz
theorem mergeN_len {a b l : List NdM} (h : mergeN a b = some l) : l.length ≤ a.length + b.length := by
  induction a, b using mergeN.induct generalizing l with
  | case1 b => rw [mergeN] at h; cases h; simp
  | case2 x a => rw [mergeN] at h; cases h; simp
  | case3 x a y b c ih => rw [mergeN, if_pos c] at h; obtain ⟨q, hq, rfl⟩ := Option.map_eq_some_iff.1 h; have := ih hq; simp at this ⊢; omega
  | case4 x a y b c c2 ih => rw [mergeN, if_neg c, if_pos c2] at h; obtain ⟨q, hq, rfl⟩ := Option.map_eq_some_iff.1 h; have := ih hq; simp at this ⊢; omega
  | case5 x a y b c c2 c3 => rw [mergeN, if_neg c, if_neg c2, if_pos c3] at h; cases h
  | case6 x a y b c c2 c3 ih => rw [mergeN, if_neg c, if_neg c2, if_neg c3] at h; obtain ⟨q, hq, rfl⟩ := Option.map_eq_some_iff.1 h; have := ih hq; simp at this ⊢; omega
theorem mergeG_len {a b l : List GrM} (h : mergeG a b = some l) : l.length ≤ a.length + b.length := by
  induction a, b using mergeG.induct generalizing l with
  | case1 b => rw [mergeG] at h; cases h; simp
  | case2 x a => rw [mergeG] at h; cases h; simp
  | case3 x a y b c ih => rw [mergeG, if_pos c] at h; obtain ⟨q, hq, rfl⟩ := Option.map_eq_some_iff.1 h; have := ih hq; simp at this ⊢; omega
  | case4 x a y b c c2 ih => rw [mergeG, if_neg c, if_pos c2] at h; obtain ⟨q, hq, rfl⟩ := Option.map_eq_some_iff.1 h; have := ih hq; simp at this ⊢; omega
  | case5 x a y b c c2 c3 => rw [mergeG, if_neg c, if_neg c2, if_pos c3] at h; cases h
  | case6 x a y b c c2 c3 ih => rw [mergeG, if_neg c, if_neg c2, if_neg c3] at h; obtain ⟨q, hq, rfl⟩ := Option.map_eq_some_iff.1 h; have := ih hq; simp at this ⊢; omega
def mz : StM := ⟨fun _ => false, fun _ => false, fun _ => 0, none, 0, 0, none, 0, 0⟩
def orF (x y : Nat → Bool) (i : Nat) : Nat → Bool := fun q => if q < i then x q || y q else false
def JM (a b : SnM) (i : Nat) : StM := ⟨orF a.inn b.inn i, orF a.left b.left i, fun p => mx6 (a.known p) (b.known p), none, 0, 0, none, 0, 0⟩
theorem stY_cong {m k : StM} (h1 : ∀ q, q < 6 → m.inn q = k.inn q) (h2 : ∀ q, q < 6 → m.left q = k.left q) (h3 : ∀ q, q < 6 → m.known q = k.known q) (h4 : Value.slice m.na m.nn m.nc = .slice k.na k.nn k.nc) (h5 : Value.slice m.ga m.gn m.gc = .slice k.ga k.gn k.gc) : ∀ j, j < 20 → stY m j = stY k j := fun j hj => by
  unfold stY
  by_cases c1 : j < 6
  · rw [if_pos c1, if_pos c1, h1 j c1]
  · rw [if_neg c1, if_neg c1]
    by_cases c2 : j < 12
    · rw [if_pos c2, if_pos c2, h2 _ (by omega)]
    · rw [if_neg c2, if_neg c2]
      by_cases c3 : j < 18
      · rw [if_pos c3, if_pos c3, h3 _ (by omega)]
      · rw [if_neg c3, if_neg c3, h4, h5]
theorem J_known {a b : SnM} : ∀ j, j < 20 → Fx.ovr (stY mz) 12 6 (Fx.rv .u64 fun p => mx6 (a.known p) (b.known p)) j = stY (JM a b 0) j := fun j hj => by
  unfold Fx.ovr
  by_cases c : 12 ≤ j ∧ j < 12 + 6
  · rw [if_pos c]; exact (stY_known (p := j - 12) (q := j) (JM a b 0) (by omega) (by omega)).symm
  · rw [if_neg c]; unfold stY JM orF mz
    by_cases c1 : j < 6
    · rw [if_pos c1, if_pos c1]; rfl
    · rw [if_neg c1, if_neg c1]
      by_cases c2 : j < 12
      · rw [if_pos c2, if_pos c2]; rfl
      · have h18 : ¬ j < 18 := by omega
        rw [if_neg c2, if_neg c2, if_neg h18, if_neg h18]
def JM1 (a b : SnM) (i : Nat) : StM := { JM a b i with inn := orF a.inn b.inn (i + 1) }
theorem orF_set {x y : Nat → Bool} {i q : Nat} {v : Bool} (hv : v = (x i || y i)) : (if q = i then v else orF x y i q) = orF x y (i + 1) q := by
  unfold orF
  by_cases e : q = i
  · rw [if_pos e, if_pos (by omega), e, hv]
  rw [if_neg e]
  by_cases c : q < i
  · rw [if_pos c, if_pos (by omega)]
  rw [if_neg c, if_neg (by omega)]
theorem J_in {a b : SnM} {i : Nat} {v : Bool} (hi : i < 6) (hv : v = (a.inn i || b.inn i)) : ∀ j, j < 20 → Fx.updV (stY (JM a b i)) i (.bool v) j = stY (JM1 a b i) j := fun j hj => by
  unfold Fx.updV
  by_cases c1 : j < 6
  · rw [stY_in _ c1, stY_in _ c1]; show _ = Value.bool (orF a.inn b.inn (i + 1) j); rw [← orF_set hv]; show _ = Value.bool (if j = i then v else orF a.inn b.inn i j); split <;> rfl
  · rw [if_neg (by omega)]; unfold stY; rw [if_neg c1, if_neg c1]; rfl
theorem J_left {a b : SnM} {i p : Nat} {v : Bool} (hi : i < 6) (hp : p = 6 + i) (hv : v = (a.left i || b.left i)) : ∀ j, j < 20 → Fx.updV (stY (JM1 a b i)) p (.bool v) j = stY (JM a b (i + 1)) j := fun j hj => by
  subst hp
  unfold Fx.updV
  by_cases c1 : j < 6
  · rw [if_neg (by omega), stY_in _ c1, stY_in _ c1]; rfl
  · by_cases c2 : j < 12
    · rw [stY_left (p := j - 6) (JM1 a b i) (by omega) (by omega), stY_left (p := j - 6) (JM a b (i + 1)) (by omega) (by omega)]
      show _ = Value.bool (orF a.left b.left (i + 1) (j - 6)); rw [← orF_set hv]
      by_cases e : j = 6 + i
      · rw [if_pos e, if_pos (by omega)]
      · rw [if_neg e, if_neg (by omega)]; rfl
    · rw [if_neg (by omega)]; unfold stY; rw [if_neg c1, if_neg c1, if_neg c2, if_neg c2]; rfl
def JM2 (a b : SnM) (na : Option Addr) (nn nc : Nat) : StM := { JM a b 6 with na := na, nn := nn, nc := nc }
def JM3 (a b : SnM) (na : Option Addr) (nn nc : Nat) (ga : Option Addr) (gn gc : Nat) : StM := { JM2 a b na nn nc with ga := ga, gn := gn, gc := gc }
theorem J_ns {a b : SnM} {na : Option Addr} {nn nc : Nat} : ∀ j, j < 20 → Fx.updV (stY (JM a b 6)) 18 (.slice na nn nc) j = stY (JM2 a b na nn nc) j := fun j hj => by
  unfold Fx.updV
  by_cases e : j = 18
  · subst e; rfl
  · rw [if_neg e]; unfold stY; simp only [e, if_false]; rfl
theorem J_gs {a b : SnM} {na ga : Option Addr} {nn nc gn gc : Nat} : ∀ j, j < 20 → Fx.updV (stY (JM2 a b na nn nc)) 19 (.slice ga gn gc) j = stY (JM3 a b na nn nc ga gn gc) j := fun j hj => by
  unfold Fx.updV
  by_cases e : j = 19
  · subst e; rfl
  · rw [if_neg e]; unfold stY
    by_cases c : j < 18
    · by_cases c1 : j < 6
      · rw [if_pos c1, if_pos c1]; rfl
      · by_cases c2 : j < 12
        · rw [if_neg c1, if_neg c1, if_pos c2, if_pos c2]; rfl
        · rw [if_neg c1, if_neg c1, if_neg c2, if_neg c2, if_pos c, if_pos c]; rfl
    · have : j = 18 := by omega
      subst this; rfl
theorem J_end {a b : SnM} {l : List NdM} {g : List GrM} {na ga : Option Addr} {nc gc : Nat} : ∀ j, j < 20 → stY (JM3 a b na l.length nc ga g.length gc) j = stY (stS (joinR a b l g) na nc ga gc) j :=
  stY_cong (fun q hq => if_pos hq) (fun q hq => if_pos hq) (fun _ _ => rfl) rfl rfl
theorem joinR_r {a b : SnM} {l : List NdM} {g : List GrM} (ha : SnR a) (hb : SnR b) (h1 : mergeN a.ns b.ns = some l) (h2 : mergeG a.gs b.gs = some g) : SnR (joinR a b l g) := ⟨fun i hi => mx_u (ha.k i hi) (hb.k i hi), mergeN_r ha.n hb.n h1, mergeG_r ha.g hb.g h2⟩
theorem jS_arg {a b : SnM} (h : mayS a = false ∨ mayS b = false) : joinS a b = (sn0, 1) := by
  unfold joinS; rw [if_pos]; rcases h with h | h
  · exact .inl fun q => by rw [mayS_y q] at h; cases h
  exact .inr fun q => by rw [mayS_y q] at h; cases h
theorem jS_n {a b : SnM} (h1 : mayS a = true) (h2 : mayS b = true) (h : mergeN a.ns b.ns = none) : joinS a b = (sn0, 9) := by
  unfold joinS; rw [if_neg (fun q => q.elim (fun q => q (mayS_iff.1 h1)) (fun q => q (mayS_iff.1 h2))), h]
theorem jS_g {a b : SnM} {l : List NdM} (h1 : mayS a = true) (h2 : mayS b = true) (h : mergeN a.ns b.ns = some l) (h3 : mergeG a.gs b.gs = none) : joinS a b = (sn0, 14) := by
  unfold joinS; rw [if_neg (fun q => q.elim (fun q => q (mayS_iff.1 h1)) (fun q => q (mayS_iff.1 h2))), h, h3]
theorem jS_m {a b : SnM} {l : List NdM} {g : List GrM} (h1 : mayS a = true) (h2 : mayS b = true) (h : mergeN a.ns b.ns = some l) (h3 : mergeG a.gs b.gs = some g) (h4 : mayS (joinR a b l g) = false) : joinS a b = (sn0, 6) := by
  unfold joinS; rw [if_neg (fun q => q.elim (fun q => q (mayS_iff.1 h1)) (fun q => q (mayS_iff.1 h2))), h, h3]; exact if_neg fun q => by rw [mayS_y q] at h4; cases h4
theorem jS_y {a b : SnM} {l : List NdM} {g : List GrM} (h1 : mayS a = true) (h2 : mayS b = true) (h : mergeN a.ns b.ns = some l) (h3 : mergeG a.gs b.gs = some g) (h4 : mayS (joinR a b l g) = true) : joinS a b = (joinR a b l g, 0) := by
  unfold joinS; rw [if_neg (fun q => q.elim (fun q => q (mayS_iff.1 h1)) (fun q => q (mayS_iff.1 h2))), h, h3]; exact if_pos (mayS_iff.1 h4)
theorem joinS_r {a b : SnM} (ha : SnR a) (hb : SnR b) : SnR (joinS a b).1 := by
  unfold joinS
  split
  · exact sn0_r
  split
  · exact sn0_r
  split
  · exact sn0_r
  split
  · exact joinR_r ha hb (by assumption) (by assumption)
  exact sn0_r
end Rt
set_option maxRecDepth 20000 in
theorem s_join (a b : SnM) (ana : Option Addr) (anc : Nat) (aga : Option Addr) (agc : Nat) (bna : Option Addr) (bnc : Nat) (bga : Option Addr) (bgc : Nat) (w : World) (ha : StW w a ana anc aga agc) (hb : StW w b bna bnc bga bgc) :
    Calls Try.prog 8 #[.agg (Fx.varr 20 (stY (stS a ana anc aga agc))), .agg (Fx.varr 20 (stY (stS b bna bnc bga bgc)))] w fun e w' => ∃ na nc ga gc, e = .returned (.tuple #[.agg (Fx.varr 20 (stY (stS (joinS a b).1 na nc ga gc))), .int .i64 (joinS a b).2]) ∧ Fx.Own w' w.heap.size 50 56 (.slice na (joinS a b).1.ns.length nc) (joinS a b).1.ns.length (ndsX (joinS a b).1.ns) ∧ Fx.Own w' w.heap.size 59 5 (.slice ga (joinS a b).1.gs.length gc) (joinS a b).1.gs.length (grsX (joinS a b).1.gs) ∧ Below w.heap.size w w' := by
 refine Fx.enter Try.func8 rfl (n := 84) rfl (by rfl) ?_
 refine Ws (Wl (Fx.L.box (m := 20) (y := stY (stS a ana anc aga agc)) (by rfl) rfl rfl (Fx.cells_agg _ _) rfl fun g1 w1 eg1 m1 s1 z1 => ?_))
 have b1 := s1.below (Below.refl w.heap.size w) (Below.refl w.heap.size w).size (Below.refl w.heap.size w).size
 have lg1 : w.heap.size ≤ g1 := by rw [eg1]; exact (Below.refl w.heap.size w).size
 have tg1 : g1 < w1.heap.size := m1.lt
 clear eg1
 refine Fx.L.box (m := 20) (y := stY (stS b bna bnc bga bgc)) (by rfl) rfl rfl (Fx.cells_agg _ _) rfl fun g2 w2 eg2 m2 s2 z2 => ?_
 have m3 := m1.stp s2 (Nat.ne_of_lt (m1.lt))
 have b2 := s2.below b1 b1.size b1.size
 have lg2 : w.heap.size ≤ g2 := by rw [eg2]; exact b1.size
 have ng2m3 : g1 ≠ g2 := by rw [eg2]; exact Nat.ne_of_lt (m1.lt)
 have tg2 : g2 < w2.heap.size := m2.lt
 clear eg2
 refine Fx.L.new (m := 20) (y := fun i => (#[.bool false, .bool false, .bool false, .bool false, .bool false, .bool false, .bool false, .bool false, .bool false, .bool false, .bool false, .bool false, .int .u64 (0), .int .u64 (0), .int .u64 (0), .int .u64 (0), .int .u64 (0), .int .u64 (0), .slice none 0 0, .slice none 0 0] : Array Value).getD i undef) (by rfl) rfl (by kernel_rfl) rfl fun g3 w3 eg3 m4 s3 z3 => ?_
 have m5 := m3.stp s3 (Nat.ne_of_lt (m3.lt))
 have m6 := m2.stp s3 (Nat.ne_of_lt (m2.lt))
 have b3 := s3.below b2 b2.size b2.size
 have lg3 : w.heap.size ≤ g3 := by rw [eg3]; exact b2.size
 have ng3m5 : g1 ≠ g3 := by rw [eg3]; exact Nat.ne_of_lt (m3.lt)
 have ng3m6 : g2 ≠ g3 := by rw [eg3]; exact Nat.ne_of_lt (m2.lt)
 have tg3 : g3 < w3.heap.size := m4.lt
 clear eg3
 refine Lv (.int .i64 (0)) (x_assign rfl rfl) (Ln (sN (Ws (Ws ?_))))
 have m7 : Fx.Blk w3 g3 20 (stY mz) 29 := m4.congr (fun j hj => match j, hj with | 0, _ => rfl | 1, _ => rfl | 2, _ => rfl | 3, _ => rfl | 4, _ => rfl | 5, _ => rfl | 6, _ => rfl | 7, _ => rfl | 8, _ => rfl | 9, _ => rfl | 10, _ => rfl | 11, _ => rfl | 12, _ => rfl | 13, _ => rfl | 14, _ => rfl | 15, _ => rfl | 16, _ => rfl | 17, _ => rfl | 18, _ => rfl | 19, _ => rfl | j + 20, h => absurd h (by omega))
 refine Wl (Lv (.agg (Fx.varr 20 (stY (stS a ana anc aga agc)))) (x_loadA (x := stY (stS a ana anc aga agc)) (y := stY (stS a ana anc aga agc)) rfl rfl (by kernel_rfl) (by kernel_rfl) m5.cel (i := 0) (by omega) (by omega) (fun j _ => by rw [Nat.zero_add])) ?_)
 by_cases c8 : (mayS a) = true
 ·refine Fx.L.call (by rfl) (rC (args := [.agg (Fx.varr 20 (stY (stS a ana anc aga agc)))]) rfl rfl Try.func12 rfl rfl) rfl ((s_may a ana anc aga agc _ ha.r.k ha.l1 ha.l2 (ha.up b3).n (ha.up b3).g).mono ?_)
  rintro e w4 ⟨he, hb1⟩
  refine ⟨.bool true, by rw [he, c8], ?_⟩
  clear he
  have s4 := Sb hb1
  have m8 := m5.stp s4 (Nat.ne_of_lt (m5.lt))
  have m9 := m6.stp s4 (Nat.ne_of_lt (m6.lt))
  have m10 := m7.stp s4 (Nat.ne_of_lt (m7.lt))
  have b4 := s4.below b3 b3.size b3.size
  refine Lv (.bool false) (Fx.x_notF rfl rfl) (Lv (.bool false) (x_move rfl rfl) (Lv (.agg (Fx.varr 20 (stY (stS b bna bnc bga bgc)))) (x_loadA (x := stY (stS b bna bnc bga bgc)) (y := stY (stS b bna bnc bga bgc)) rfl rfl (by kernel_rfl) (by kernel_rfl) m9.cel (i := 0) (by omega) (by omega) (fun j _ => by rw [Nat.zero_add])) ?_))
  by_cases c12 : (mayS b) = true
  ·refine Fx.L.call (by rfl) (rC (args := [.agg (Fx.varr 20 (stY (stS b bna bnc bga bgc)))]) rfl rfl Try.func12 rfl rfl) rfl ((s_may b bna bnc bga bgc _ hb.r.k hb.l1 hb.l2 (hb.up b4).n (hb.up b4).g).mono ?_)
   rintro e w5 ⟨he, hb2⟩
   refine ⟨.bool true, by rw [he, c12], ?_⟩
   clear he
   have s5 := Sb hb2
   have m11 := m8.stp s5 (Nat.ne_of_lt (m8.lt))
   have m12 := m9.stp s5 (Nat.ne_of_lt (m9.lt))
   have m13 := m10.stp s5 (Nat.ne_of_lt (m10.lt))
   have b5 := s5.below b4 b4.size b4.size
   refine Lv (.bool false) (Fx.x_notF rfl rfl) (Lv (.bool false) (x_pickF rfl rfl rfl) (Ln (sN (Wc (b := false) rfl (fun h => nomatch h) (fun _ => Wk (sN (Ws (Wl (Lv (.pointer (some ⟨g1, 12, none⟩)) (x_field rfl rfl Try.underlying29 rfl (s := 6) (by kernel_rfl) rfl (by show _ + 12 = _; omega)) (Lv (.agg (Fx.varr 6 (Fx.rv .u64 a.known))) (x_loadA (x := stY (stS a ana anc aga agc)) (y := Fx.rv .u64 a.known) rfl rfl (by kernel_rfl) (by kernel_rfl) m11.cel (i := 12) (by omega) (by omega) (fun j hj => stY_known (p := j) _ hj (by omega))) (Lv (.pointer (some ⟨g2, 12, none⟩)) (x_field rfl rfl Try.underlying29 rfl (s := 6) (by kernel_rfl) rfl (by show _ + 12 = _; omega)) (Lv (.agg (Fx.varr 6 (Fx.rv .u64 b.known))) (x_loadA (x := stY (stS b bna bnc bga bgc)) (y := Fx.rv .u64 b.known) rfl rfl (by kernel_rfl) (by kernel_rfl) m12.cel (i := 12) (by omega) (by omega) (fun j hj => stY_known (p := j) _ hj (by omega))) (Fx.L.bslice (vs := [(0, .agg (Fx.varr 6 (Fx.rv .u64 a.known))), (1, .agg (Fx.varr 6 (Fx.rv .u64 b.known)))]) (s := 6) (zc := Fx.rv .u64 (fun _ => 0)) (y := Fx.ovr (Fx.ovr (fun j => (Fx.rv .u64 (fun _ => 0)) (j % 6)) (0 * 6) 6 (Fx.rv .u64 a.known)) (1 * 6) 6 (Fx.rv .u64 b.known)) (by rfl) rfl rfl Try.underlying102 (by kernel_rfl) (by rfl) (by rfl) (by kernel_rfl) (by rw [Fx.fill_step (off := 0 * 6) (s := 6) (y := Fx.rv .u64 a.known) rfl (Fx.cells_agg _ _) (by rfl)]; rw [Fx.fill_step (off := 1 * 6) (s := 6) (y := Fx.rv .u64 b.known) rfl (Fx.cells_agg _ _) (by rfl)]; rfl) rfl fun g4 w6 eg4 m14 s6 z4 => ?_)))))))))))))
   have m15 := m11.stp s6 (Nat.ne_of_lt (m11.lt))
   have m16 := m12.stp s6 (Nat.ne_of_lt (m12.lt))
   have m17 := m13.stp s6 (Nat.ne_of_lt (m13.lt))
   have b6 := s6.below b5 b5.size b5.size
   have lg4 : w.heap.size ≤ g4 := by rw [eg4]; exact b5.size
   have ng4m15 : g1 ≠ g4 := by rw [eg4]; exact Nat.ne_of_lt (m11.lt)
   have ng4m16 : g2 ≠ g4 := by rw [eg4]; exact Nat.ne_of_lt (m12.lt)
   have ng4m17 : g3 ≠ g4 := by rw [eg4]; exact Nat.ne_of_lt (m13.lt)
   have tg4 : g4 < w6.heap.size := m14.lt
   clear eg4
   refine Fx.L.call (by rfl) (rC (args := [.slice (some ⟨g4, 0, none⟩) (2) (2)]) rfl rfl Try.func20 rfl rfl) rfl ((g_join2 a.known b.known m14 (V2_cells _ _ _)).mono ?_)
   rintro e w7 ⟨he, hb3⟩
   refine ⟨.agg (Fx.varr 6 (Fx.rv .u64 (fun p => mx6 (a.known p) (b.known p)))), by rw [he], ?_⟩
   clear he
   have s7 := Sb hb3
   have m18 := m15.stp s7 (Nat.ne_of_lt (m15.lt))
   have m19 := m16.stp s7 (Nat.ne_of_lt (m16.lt))
   have m20 := m17.stp s7 (Nat.ne_of_lt (m17.lt))
   have b7 := s7.below b6 b6.size b6.size
   refine Lv (.pointer (some ⟨g3, 12, none⟩)) (x_field rfl rfl Try.underlying29 rfl (s := 6) (by kernel_rfl) rfl (by show _ + 12 = _; omega)) (Fx.L.storeA (x := stY mz) (y := Fx.rv .u64 (fun p => mx6 (a.known p) (b.known p))) (by rfl) rfl rfl rfl rfl (fun _ _ => rfl) (by kernel_rfl) m20 (i := 12) (by omega) fun w8 m22 s8 z5 => ?_)
   have m23 : Fx.Blk w8 g3 20 (stY (JM a b 0)) 29 := m22.congr J_known
   have m24 := m18.stp s8 (by omega)
   have m25 := m19.stp s8 (by omega)
   have b8 := s8.below b7 b7.size (by omega)
   refine Ln (sN (Ws (Ws (Wl (Lv (.int .i64 (0)) (x_move rfl rfl) (Ln (sN (Fx.W.block (Fx.W.loop (fun f w_ => ∃ i : Nat, i ≤ 6 ∧ f 2 = .pointer (some ⟨g1, 0, none⟩) ∧ f 3 = .pointer (some ⟨g2, 0, none⟩) ∧ f 4 = .pointer (some ⟨g3, 0, none⟩) ∧ f 23 = .int .i64 ((i : Int)) ∧ Fx.Blk w_ g1 20 (stY (stS a ana anc aga agc)) 29 ∧ Fx.Blk w_ g2 20 (stY (stS b bna bnc bga bgc)) 29 ∧ Fx.Blk w_ g3 20 (stY (JM a b i)) 29 ∧ Below w.heap.size w w_) (fun f _ => (6 - (intOf (f 23)).toNat)) ⟨0, by omega, (by rfl), (by rfl), (by rfl), (by first | rfl | exact congrArg (Value.int .i64) (by omega)), m24, m25, m23, b8⟩ ?_)))))))))
   rintro f1 w9 ⟨i, hi, h1, h2, h3, h4, m27, m28, m29, b9⟩
   refine Ws (Wl ?_)
   by_cases c24 : (i : Int) < 6
   ·refine Lv (.bool true) (Fx.x_lssT rfl h4 rfl c24) (Ln (sN (Ws (Wc (b := true) rfl (fun _ => Wk (sN (Ws (Fx.W.block (Ws (Wl (Lv (.int .i64 ((i : Int))) (x_move rfl h4) ?_))))))) (fun h => nomatch h)))))
    refine Lv (.int .i64 ((i : Int))) (x_assign rfl rfl) (Ln (sN ?_))
    -- region 7 draws
    refine Fx.W.reord [0, 1, 2, 3, 4, 12, 13, 14, 22, 25, 5, 6, 7, 8, 9, 10, 11, 23, 15, 16, 17, 18, 19, 20, 21, 24, 26, 27] [0, 0, 0, 0, 0, 4, 0, 0, 0, 0, 4, 0, 0, 0, 0, 4, 0, 0, 0, 0, 1, 0, 0, 0, 2, 0, 0, 2] (Fx.Chg (fun q => q = g3)) (Fx.Chg.refl _) Fx.Chg.trans (certs := [(24, 5, [5]), (27, 5, [5]), (24, 10, [10]), (27, 10, [10]), (24, 15, [16, 15]), (27, 15, [15]), (26, 24, [24]), (27, 24, [24])]) (by kernel_rfl) (by kernel_rfl) (by kernel_rfl) (by kernel_rfl) (by kernel_rfl) fun wt1 hbwt1 hzwt1 => ?_
    have s9 : Fx.Stp w9.heap.size w9 wt1 := Sb hbwt1
    have m30 := m27.stp s9 (Nat.ne_of_lt (m27.lt))
    have m31 := m28.stp s9 (Nat.ne_of_lt (m28.lt))
    have m32 := m29.stp s9 (Nat.ne_of_lt (m29.lt))
    have b10 := s9.below b9 b9.size b9.size
    refine Rp (.int .i64 ((i : Int))) (fun v1 => x_move rfl rfl) (Rp (.int .i64 ((i : Int))) (fun v1 => x_move rfl rfl) (Rp (.int .i64 ((i : Int))) (fun v1 => x_move rfl rfl) (Rp (.pointer (some ⟨g1, 0, none⟩)) (fun v1 => x_field rfl h1 Try.underlying29 rfl (s := 6) (by kernel_rfl) rfl rfl) (Rp (.pointer (some ⟨g1, i, none⟩)) (fun v1 => x_index rfl rfl rfl Try.underlying22 (s := 1) (by kernel_rfl) (by omega) (by omega) (by omega)) (Rp (.int .i64 ((i : Int))) (fun v1 => x_move rfl rfl) (Rp (.pointer (some ⟨g1, 6, none⟩)) (fun v1 => x_field rfl h1 Try.underlying29 rfl (s := 6) (by kernel_rfl) rfl (by show _ + 6 = _; omega)) (Rp (.pointer (some ⟨g1, i + 6, none⟩)) (fun v1 => x_index rfl rfl rfl Try.underlying22 (s := 1) (by kernel_rfl) (by omega) (by omega) (by omega)) (Rp (.pointer (some ⟨g3, 0, none⟩)) (fun v1 => x_field rfl h3 Try.underlying29 rfl (s := 6) (by kernel_rfl) rfl rfl) (Rp (.pointer (some ⟨g3, 6, none⟩)) (fun v1 => x_field rfl h3 Try.underlying29 rfl (s := 6) (by kernel_rfl) rfl (by show _ + 6 = _; omega)) ?_)))))))))
    by_cases c31 : (a.inn i) = true
    ·refine Fx.R.s (.bool true) (x_load1 (x := stY (stS a ana anc aga agc)) rfl rfl (by kernel_rfl) m30.cel (i := i) (by omega) (by omega) ((stY_in _ (by omega)).trans (congrArg Value.bool c31))) ?_
     refine Rp (.bool true) (fun v1 => x_move rfl rfl) (Fx.R.skip (by rfl) (Fx.R.skip (by rfl) (Fx.R.skip (by rfl) (Fx.R.skip (by rfl) (Rp (.bool true) (fun v1 => x_pickT rfl rfl rfl) (Rp (.pointer (some ⟨g3, i, none⟩)) (fun v1 => x_index rfl rfl rfl Try.underlying22 (s := 1) (by kernel_rfl) (by omega) (by omega) (by omega)) ?_))))))
     by_cases c41 : (a.left i) = true
     ·refine Fx.R.s (.bool true) (x_load1 (x := stY (stS a ana anc aga agc)) rfl rfl (by kernel_rfl) m30.cel (i := i + 6) (by omega) (by omega) ((stY_left _ (by omega) (by omega)).trans (congrArg Value.bool c41))) ?_
      refine Rp (.bool true) (fun v1 => x_move rfl rfl) (Fx.R.skip (by rfl) (Fx.R.skip (by rfl) (Fx.R.skip (by rfl) (Fx.R.skip (by rfl) (Rp (.bool true) (fun v1 => x_pickT rfl rfl rfl) (Fx.R.make (by rfl) ?_))))))
      refine Fx.L.store1 (x := stY (JM a b i)) (u := .bool true) (by rfl) rfl rfl rfl rfl (by rfl) (by kernel_rfl) m32 (i := i) (by omega) fun w10 m33 s10 z6 => ?_
      have m34 : Fx.Blk w10 g3 20 (stY (JM1 a b i)) 29 := m33.congr (J_in (by omega) (by rw [c31]; rfl))
      have m35 := m30.stp s10 (by omega)
      have m36 := m31.stp s10 (by omega)
      have b11 := s10.below b10 b10.size (by omega)
      refine Ln ⟨Fx.Chg.of_stp s10, ?_⟩
      refine Rp (.pointer (some ⟨g3, i + 6, none⟩)) (fun v1 => x_index rfl rfl rfl Try.underlying22 (s := 1) (by kernel_rfl) (by omega) (by omega) (by omega)) (Fx.R.make (by rfl) ?_)
      refine Fx.L.store1 (x := stY (JM1 a b i)) (u := .bool true) (by rfl) rfl rfl rfl rfl (by rfl) (by kernel_rfl) m34 (i := i + 6) (by omega) fun w11 m37 s11 z7 => ?_
      have m38 : Fx.Blk w11 g3 20 (stY (JM a b (i + 1))) 29 := m37.congr (J_left (by omega) (by omega) (by rw [c41]; rfl))
      have m39 := m35.stp s11 (by omega)
      have m40 := m36.stp s11 (by omega)
      have b12 := s11.below b11 b11.size (by omega)
      refine Ln ⟨Fx.Chg.of_stp s11, ?_⟩
      refine Fx.R.nil (Fx.blkN (sN (Wl (Lv (.int .i64 ((i : Int) + 1)) (Fx.x_add rfl h4 rfl (Fx.i64e (by omega) (by omega))) ?_))))
      refine Lv (.int .i64 ((i : Int) + 1)) (x_move rfl rfl) (Ln (Fx.lpN ⟨i + 1, by omega, h1, h2, h3, (by first | rfl | exact congrArg (Value.int .i64) (by omega)), m39, m40, m38, b12⟩ ?_))
      show (6 - (intOf ((.int .i64 ((i : Int) + 1)))).toNat) < _
      simp only [h4, intOf]; omega
     rw [Bool.not_eq_true] at c41
     refine Fx.R.s (.bool false) (x_load1 (x := stY (stS a ana anc aga agc)) rfl rfl (by kernel_rfl) m30.cel (i := i + 6) (by omega) (by omega) ((stY_left _ (by omega) (by omega)).trans (congrArg Value.bool c41))) ?_
     refine Rp (.bool false) (fun v1 => x_move rfl rfl) (Rp (.int .i64 ((i : Int))) (fun v1 => x_move rfl rfl) (Rp (.pointer (some ⟨g2, 6, none⟩)) (fun v1 => x_field rfl h2 Try.underlying29 rfl (s := 6) (by kernel_rfl) rfl (by show _ + 6 = _; omega)) (Rp (.pointer (some ⟨g2, i + 6, none⟩)) (fun v1 => x_index rfl rfl rfl Try.underlying22 (s := 1) (by kernel_rfl) (by omega) (by omega) (by omega)) ?_)))
     by_cases c46 : (b.left i) = true
     ·refine Fx.R.read (v := .bool true) (by rfl) (by rfl) (Fx.Chg.refl _ _) (fun v1 hv1 => x_load1 (x := stY (stS b bna bnc bga bgc)) rfl rfl (by kernel_rfl) (m31.chg hv1 (show ¬ (g2 = g3) by omega)).cel (i := i + 6) (by omega) (by omega) ((stY_left _ (by omega) (by omega)).trans (congrArg Value.bool c46))) ?_
      refine Rp (.bool true) (fun v1 => x_pickF rfl rfl rfl) (Fx.R.make (by rfl) ?_)
      refine Fx.L.store1 (x := stY (JM a b i)) (u := .bool true) (by rfl) rfl rfl rfl rfl (by rfl) (by kernel_rfl) m32 (i := i) (by omega) fun w12 m41 s12 z8 => ?_
      have m42 : Fx.Blk w12 g3 20 (stY (JM1 a b i)) 29 := m41.congr (J_in (by omega) (by rw [c31]; rfl))
      have m43 := m30.stp s12 (by omega)
      have m44 := m31.stp s12 (by omega)
      have b13 := s12.below b10 b10.size (by omega)
      refine Ln ⟨Fx.Chg.of_stp s12, ?_⟩
      refine Rp (.pointer (some ⟨g3, i + 6, none⟩)) (fun v1 => x_index rfl rfl rfl Try.underlying22 (s := 1) (by kernel_rfl) (by omega) (by omega) (by omega)) (Fx.R.make (by rfl) ?_)
      refine Fx.L.store1 (x := stY (JM1 a b i)) (u := .bool true) (by rfl) rfl rfl rfl rfl (by rfl) (by kernel_rfl) m42 (i := i + 6) (by omega) fun w13 m45 s13 z9 => ?_
      have m46 : Fx.Blk w13 g3 20 (stY (JM a b (i + 1))) 29 := m45.congr (J_left (by omega) (by omega) (by rw [c41, c46]; rfl))
      have m47 := m43.stp s13 (by omega)
      have m48 := m44.stp s13 (by omega)
      have b14 := s13.below b13 b13.size (by omega)
      refine Ln ⟨Fx.Chg.of_stp s13, ?_⟩
      refine Fx.R.nil (Fx.blkN (sN (Wl (Lv (.int .i64 ((i : Int) + 1)) (Fx.x_add rfl h4 rfl (Fx.i64e (by omega) (by omega))) ?_))))
      refine Lv (.int .i64 ((i : Int) + 1)) (x_move rfl rfl) (Ln (Fx.lpN ⟨i + 1, by omega, h1, h2, h3, (by first | rfl | exact congrArg (Value.int .i64) (by omega)), m47, m48, m46, b14⟩ ?_))
      show (6 - (intOf ((.int .i64 ((i : Int) + 1)))).toNat) < _
      simp only [h4, intOf]; omega
     rw [Bool.not_eq_true] at c46
     refine Fx.R.read (v := .bool false) (by rfl) (by rfl) (Fx.Chg.refl _ _) (fun v1 hv1 => x_load1 (x := stY (stS b bna bnc bga bgc)) rfl rfl (by kernel_rfl) (m31.chg hv1 (show ¬ (g2 = g3) by omega)).cel (i := i + 6) (by omega) (by omega) ((stY_left _ (by omega) (by omega)).trans (congrArg Value.bool c46))) ?_
     refine Rp (.bool false) (fun v1 => x_pickF rfl rfl rfl) (Fx.R.make (by rfl) ?_)
     refine Fx.L.store1 (x := stY (JM a b i)) (u := .bool true) (by rfl) rfl rfl rfl rfl (by rfl) (by kernel_rfl) m32 (i := i) (by omega) fun w14 m49 s14 z10 => ?_
     have m50 : Fx.Blk w14 g3 20 (stY (JM1 a b i)) 29 := m49.congr (J_in (by omega) (by rw [c31]; rfl))
     have m51 := m30.stp s14 (by omega)
     have m52 := m31.stp s14 (by omega)
     have b15 := s14.below b10 b10.size (by omega)
     refine Ln ⟨Fx.Chg.of_stp s14, ?_⟩
     refine Rp (.pointer (some ⟨g3, i + 6, none⟩)) (fun v1 => x_index rfl rfl rfl Try.underlying22 (s := 1) (by kernel_rfl) (by omega) (by omega) (by omega)) (Fx.R.make (by rfl) ?_)
     refine Fx.L.store1 (x := stY (JM1 a b i)) (u := .bool false) (by rfl) rfl rfl rfl rfl (by rfl) (by kernel_rfl) m50 (i := i + 6) (by omega) fun w15 m53 s15 z11 => ?_
     have m54 : Fx.Blk w15 g3 20 (stY (JM a b (i + 1))) 29 := m53.congr (J_left (by omega) (by omega) (by rw [c41, c46]; rfl))
     have m55 := m51.stp s15 (by omega)
     have m56 := m52.stp s15 (by omega)
     have b16 := s15.below b15 b15.size (by omega)
     refine Ln ⟨Fx.Chg.of_stp s15, ?_⟩
     refine Fx.R.nil (Fx.blkN (sN (Wl (Lv (.int .i64 ((i : Int) + 1)) (Fx.x_add rfl h4 rfl (Fx.i64e (by omega) (by omega))) ?_))))
     refine Lv (.int .i64 ((i : Int) + 1)) (x_move rfl rfl) (Ln (Fx.lpN ⟨i + 1, by omega, h1, h2, h3, (by first | rfl | exact congrArg (Value.int .i64) (by omega)), m55, m56, m54, b16⟩ ?_))
     show (6 - (intOf ((.int .i64 ((i : Int) + 1)))).toNat) < _
     simp only [h4, intOf]; omega
    rw [Bool.not_eq_true] at c31
    refine Fx.R.s (.bool false) (x_load1 (x := stY (stS a ana anc aga agc)) rfl rfl (by kernel_rfl) m30.cel (i := i) (by omega) (by omega) ((stY_in _ (by omega)).trans (congrArg Value.bool c31))) ?_
    refine Rp (.bool false) (fun v1 => x_move rfl rfl) (Rp (.int .i64 ((i : Int))) (fun v1 => x_move rfl rfl) (Rp (.pointer (some ⟨g2, 0, none⟩)) (fun v1 => x_field rfl h2 Try.underlying29 rfl (s := 6) (by kernel_rfl) rfl rfl) (Rp (.pointer (some ⟨g2, i, none⟩)) (fun v1 => x_index rfl rfl rfl Try.underlying22 (s := 1) (by kernel_rfl) (by omega) (by omega) (by omega)) ?_)))
    by_cases c36 : (b.inn i) = true
    ·refine Fx.R.s (.bool true) (x_load1 (x := stY (stS b bna bnc bga bgc)) rfl rfl (by kernel_rfl) m31.cel (i := i) (by omega) (by omega) ((stY_in _ (by omega)).trans (congrArg Value.bool c36))) ?_
     refine Rp (.bool true) (fun v1 => x_pickF rfl rfl rfl) (Rp (.pointer (some ⟨g3, i, none⟩)) (fun v1 => x_index rfl rfl rfl Try.underlying22 (s := 1) (by kernel_rfl) (by omega) (by omega) (by omega)) ?_)
     by_cases c41 : (a.left i) = true
     ·refine Fx.R.s (.bool true) (x_load1 (x := stY (stS a ana anc aga agc)) rfl rfl (by kernel_rfl) m30.cel (i := i + 6) (by omega) (by omega) ((stY_left _ (by omega) (by omega)).trans (congrArg Value.bool c41))) ?_
      refine Rp (.bool true) (fun v1 => x_move rfl rfl) (Fx.R.skip (by rfl) (Fx.R.skip (by rfl) (Fx.R.skip (by rfl) (Fx.R.skip (by rfl) (Rp (.bool true) (fun v1 => x_pickT rfl rfl rfl) (Fx.R.make (by rfl) ?_))))))
      refine Fx.L.store1 (x := stY (JM a b i)) (u := .bool true) (by rfl) rfl rfl rfl rfl (by rfl) (by kernel_rfl) m32 (i := i) (by omega) fun w16 m57 s16 z12 => ?_
      have m58 : Fx.Blk w16 g3 20 (stY (JM1 a b i)) 29 := m57.congr (J_in (by omega) (by rw [c31, c36]; rfl))
      have m59 := m30.stp s16 (by omega)
      have m60 := m31.stp s16 (by omega)
      have b17 := s16.below b10 b10.size (by omega)
      refine Ln ⟨Fx.Chg.of_stp s16, ?_⟩
      refine Rp (.pointer (some ⟨g3, i + 6, none⟩)) (fun v1 => x_index rfl rfl rfl Try.underlying22 (s := 1) (by kernel_rfl) (by omega) (by omega) (by omega)) (Fx.R.make (by rfl) ?_)
      refine Fx.L.store1 (x := stY (JM1 a b i)) (u := .bool true) (by rfl) rfl rfl rfl rfl (by rfl) (by kernel_rfl) m58 (i := i + 6) (by omega) fun w17 m61 s17 z13 => ?_
      have m62 : Fx.Blk w17 g3 20 (stY (JM a b (i + 1))) 29 := m61.congr (J_left (by omega) (by omega) (by rw [c41]; rfl))
      have m63 := m59.stp s17 (by omega)
      have m64 := m60.stp s17 (by omega)
      have b18 := s17.below b17 b17.size (by omega)
      refine Ln ⟨Fx.Chg.of_stp s17, ?_⟩
      refine Fx.R.nil (Fx.blkN (sN (Wl (Lv (.int .i64 ((i : Int) + 1)) (Fx.x_add rfl h4 rfl (Fx.i64e (by omega) (by omega))) ?_))))
      refine Lv (.int .i64 ((i : Int) + 1)) (x_move rfl rfl) (Ln (Fx.lpN ⟨i + 1, by omega, h1, h2, h3, (by first | rfl | exact congrArg (Value.int .i64) (by omega)), m63, m64, m62, b18⟩ ?_))
      show (6 - (intOf ((.int .i64 ((i : Int) + 1)))).toNat) < _
      simp only [h4, intOf]; omega
     rw [Bool.not_eq_true] at c41
     refine Fx.R.s (.bool false) (x_load1 (x := stY (stS a ana anc aga agc)) rfl rfl (by kernel_rfl) m30.cel (i := i + 6) (by omega) (by omega) ((stY_left _ (by omega) (by omega)).trans (congrArg Value.bool c41))) ?_
     refine Rp (.bool false) (fun v1 => x_move rfl rfl) (Rp (.int .i64 ((i : Int))) (fun v1 => x_move rfl rfl) (Rp (.pointer (some ⟨g2, 6, none⟩)) (fun v1 => x_field rfl h2 Try.underlying29 rfl (s := 6) (by kernel_rfl) rfl (by show _ + 6 = _; omega)) (Rp (.pointer (some ⟨g2, i + 6, none⟩)) (fun v1 => x_index rfl rfl rfl Try.underlying22 (s := 1) (by kernel_rfl) (by omega) (by omega) (by omega)) ?_)))
     by_cases c46 : (b.left i) = true
     ·refine Fx.R.read (v := .bool true) (by rfl) (by rfl) (Fx.Chg.refl _ _) (fun v1 hv1 => x_load1 (x := stY (stS b bna bnc bga bgc)) rfl rfl (by kernel_rfl) (m31.chg hv1 (show ¬ (g2 = g3) by omega)).cel (i := i + 6) (by omega) (by omega) ((stY_left _ (by omega) (by omega)).trans (congrArg Value.bool c46))) ?_
      refine Rp (.bool true) (fun v1 => x_pickF rfl rfl rfl) (Fx.R.make (by rfl) ?_)
      refine Fx.L.store1 (x := stY (JM a b i)) (u := .bool true) (by rfl) rfl rfl rfl rfl (by rfl) (by kernel_rfl) m32 (i := i) (by omega) fun w18 m65 s18 z14 => ?_
      have m66 : Fx.Blk w18 g3 20 (stY (JM1 a b i)) 29 := m65.congr (J_in (by omega) (by rw [c31, c36]; rfl))
      have m67 := m30.stp s18 (by omega)
      have m68 := m31.stp s18 (by omega)
      have b19 := s18.below b10 b10.size (by omega)
      refine Ln ⟨Fx.Chg.of_stp s18, ?_⟩
      refine Rp (.pointer (some ⟨g3, i + 6, none⟩)) (fun v1 => x_index rfl rfl rfl Try.underlying22 (s := 1) (by kernel_rfl) (by omega) (by omega) (by omega)) (Fx.R.make (by rfl) ?_)
      refine Fx.L.store1 (x := stY (JM1 a b i)) (u := .bool true) (by rfl) rfl rfl rfl rfl (by rfl) (by kernel_rfl) m66 (i := i + 6) (by omega) fun w19 m69 s19 z15 => ?_
      have m70 : Fx.Blk w19 g3 20 (stY (JM a b (i + 1))) 29 := m69.congr (J_left (by omega) (by omega) (by rw [c41, c46]; rfl))
      have m71 := m67.stp s19 (by omega)
      have m72 := m68.stp s19 (by omega)
      have b20 := s19.below b19 b19.size (by omega)
      refine Ln ⟨Fx.Chg.of_stp s19, ?_⟩
      refine Fx.R.nil (Fx.blkN (sN (Wl (Lv (.int .i64 ((i : Int) + 1)) (Fx.x_add rfl h4 rfl (Fx.i64e (by omega) (by omega))) ?_))))
      refine Lv (.int .i64 ((i : Int) + 1)) (x_move rfl rfl) (Ln (Fx.lpN ⟨i + 1, by omega, h1, h2, h3, (by first | rfl | exact congrArg (Value.int .i64) (by omega)), m71, m72, m70, b20⟩ ?_))
      show (6 - (intOf ((.int .i64 ((i : Int) + 1)))).toNat) < _
      simp only [h4, intOf]; omega
     rw [Bool.not_eq_true] at c46
     refine Fx.R.read (v := .bool false) (by rfl) (by rfl) (Fx.Chg.refl _ _) (fun v1 hv1 => x_load1 (x := stY (stS b bna bnc bga bgc)) rfl rfl (by kernel_rfl) (m31.chg hv1 (show ¬ (g2 = g3) by omega)).cel (i := i + 6) (by omega) (by omega) ((stY_left _ (by omega) (by omega)).trans (congrArg Value.bool c46))) ?_
     refine Rp (.bool false) (fun v1 => x_pickF rfl rfl rfl) (Fx.R.make (by rfl) ?_)
     refine Fx.L.store1 (x := stY (JM a b i)) (u := .bool true) (by rfl) rfl rfl rfl rfl (by rfl) (by kernel_rfl) m32 (i := i) (by omega) fun w20 m73 s20 z16 => ?_
     have m74 : Fx.Blk w20 g3 20 (stY (JM1 a b i)) 29 := m73.congr (J_in (by omega) (by rw [c31, c36]; rfl))
     have m75 := m30.stp s20 (by omega)
     have m76 := m31.stp s20 (by omega)
     have b21 := s20.below b10 b10.size (by omega)
     refine Ln ⟨Fx.Chg.of_stp s20, ?_⟩
     refine Rp (.pointer (some ⟨g3, i + 6, none⟩)) (fun v1 => x_index rfl rfl rfl Try.underlying22 (s := 1) (by kernel_rfl) (by omega) (by omega) (by omega)) (Fx.R.make (by rfl) ?_)
     refine Fx.L.store1 (x := stY (JM1 a b i)) (u := .bool false) (by rfl) rfl rfl rfl rfl (by rfl) (by kernel_rfl) m74 (i := i + 6) (by omega) fun w21 m77 s21 z17 => ?_
     have m78 : Fx.Blk w21 g3 20 (stY (JM a b (i + 1))) 29 := m77.congr (J_left (by omega) (by omega) (by rw [c41, c46]; rfl))
     have m79 := m75.stp s21 (by omega)
     have m80 := m76.stp s21 (by omega)
     have b22 := s21.below b21 b21.size (by omega)
     refine Ln ⟨Fx.Chg.of_stp s21, ?_⟩
     refine Fx.R.nil (Fx.blkN (sN (Wl (Lv (.int .i64 ((i : Int) + 1)) (Fx.x_add rfl h4 rfl (Fx.i64e (by omega) (by omega))) ?_))))
     refine Lv (.int .i64 ((i : Int) + 1)) (x_move rfl rfl) (Ln (Fx.lpN ⟨i + 1, by omega, h1, h2, h3, (by first | rfl | exact congrArg (Value.int .i64) (by omega)), m79, m80, m78, b22⟩ ?_))
     show (6 - (intOf ((.int .i64 ((i : Int) + 1)))).toNat) < _
     simp only [h4, intOf]; omega
    rw [Bool.not_eq_true] at c36
    refine Fx.R.s (.bool false) (x_load1 (x := stY (stS b bna bnc bga bgc)) rfl rfl (by kernel_rfl) m31.cel (i := i) (by omega) (by omega) ((stY_in _ (by omega)).trans (congrArg Value.bool c36))) ?_
    refine Rp (.bool false) (fun v1 => x_pickF rfl rfl rfl) (Rp (.pointer (some ⟨g3, i, none⟩)) (fun v1 => x_index rfl rfl rfl Try.underlying22 (s := 1) (by kernel_rfl) (by omega) (by omega) (by omega)) ?_)
    by_cases c41 : (a.left i) = true
    ·refine Fx.R.s (.bool true) (x_load1 (x := stY (stS a ana anc aga agc)) rfl rfl (by kernel_rfl) m30.cel (i := i + 6) (by omega) (by omega) ((stY_left _ (by omega) (by omega)).trans (congrArg Value.bool c41))) ?_
     refine Rp (.bool true) (fun v1 => x_move rfl rfl) (Fx.R.skip (by rfl) (Fx.R.skip (by rfl) (Fx.R.skip (by rfl) (Fx.R.skip (by rfl) (Rp (.bool true) (fun v1 => x_pickT rfl rfl rfl) (Fx.R.make (by rfl) ?_))))))
     refine Fx.L.store1 (x := stY (JM a b i)) (u := .bool false) (by rfl) rfl rfl rfl rfl (by rfl) (by kernel_rfl) m32 (i := i) (by omega) fun w22 m81 s22 z18 => ?_
     have m82 : Fx.Blk w22 g3 20 (stY (JM1 a b i)) 29 := m81.congr (J_in (by omega) (by rw [c31, c36]; rfl))
     have m83 := m30.stp s22 (by omega)
     have m84 := m31.stp s22 (by omega)
     have b23 := s22.below b10 b10.size (by omega)
     refine Ln ⟨Fx.Chg.of_stp s22, ?_⟩
     refine Rp (.pointer (some ⟨g3, i + 6, none⟩)) (fun v1 => x_index rfl rfl rfl Try.underlying22 (s := 1) (by kernel_rfl) (by omega) (by omega) (by omega)) (Fx.R.make (by rfl) ?_)
     refine Fx.L.store1 (x := stY (JM1 a b i)) (u := .bool true) (by rfl) rfl rfl rfl rfl (by rfl) (by kernel_rfl) m82 (i := i + 6) (by omega) fun w23 m85 s23 z19 => ?_
     have m86 : Fx.Blk w23 g3 20 (stY (JM a b (i + 1))) 29 := m85.congr (J_left (by omega) (by omega) (by rw [c41]; rfl))
     have m87 := m83.stp s23 (by omega)
     have m88 := m84.stp s23 (by omega)
     have b24 := s23.below b23 b23.size (by omega)
     refine Ln ⟨Fx.Chg.of_stp s23, ?_⟩
     refine Fx.R.nil (Fx.blkN (sN (Wl (Lv (.int .i64 ((i : Int) + 1)) (Fx.x_add rfl h4 rfl (Fx.i64e (by omega) (by omega))) ?_))))
     refine Lv (.int .i64 ((i : Int) + 1)) (x_move rfl rfl) (Ln (Fx.lpN ⟨i + 1, by omega, h1, h2, h3, (by first | rfl | exact congrArg (Value.int .i64) (by omega)), m87, m88, m86, b24⟩ ?_))
     show (6 - (intOf ((.int .i64 ((i : Int) + 1)))).toNat) < _
     simp only [h4, intOf]; omega
    rw [Bool.not_eq_true] at c41
    refine Fx.R.s (.bool false) (x_load1 (x := stY (stS a ana anc aga agc)) rfl rfl (by kernel_rfl) m30.cel (i := i + 6) (by omega) (by omega) ((stY_left _ (by omega) (by omega)).trans (congrArg Value.bool c41))) ?_
    refine Rp (.bool false) (fun v1 => x_move rfl rfl) (Rp (.int .i64 ((i : Int))) (fun v1 => x_move rfl rfl) (Rp (.pointer (some ⟨g2, 6, none⟩)) (fun v1 => x_field rfl h2 Try.underlying29 rfl (s := 6) (by kernel_rfl) rfl (by show _ + 6 = _; omega)) (Rp (.pointer (some ⟨g2, i + 6, none⟩)) (fun v1 => x_index rfl rfl rfl Try.underlying22 (s := 1) (by kernel_rfl) (by omega) (by omega) (by omega)) ?_)))
    by_cases c46 : (b.left i) = true
    ·refine Fx.R.read (v := .bool true) (by rfl) (by rfl) (Fx.Chg.refl _ _) (fun v1 hv1 => x_load1 (x := stY (stS b bna bnc bga bgc)) rfl rfl (by kernel_rfl) (m31.chg hv1 (show ¬ (g2 = g3) by omega)).cel (i := i + 6) (by omega) (by omega) ((stY_left _ (by omega) (by omega)).trans (congrArg Value.bool c46))) ?_
     refine Rp (.bool true) (fun v1 => x_pickF rfl rfl rfl) (Fx.R.make (by rfl) ?_)
     refine Fx.L.store1 (x := stY (JM a b i)) (u := .bool false) (by rfl) rfl rfl rfl rfl (by rfl) (by kernel_rfl) m32 (i := i) (by omega) fun w24 m89 s24 z20 => ?_
     have m90 : Fx.Blk w24 g3 20 (stY (JM1 a b i)) 29 := m89.congr (J_in (by omega) (by rw [c31, c36]; rfl))
     have m91 := m30.stp s24 (by omega)
     have m92 := m31.stp s24 (by omega)
     have b25 := s24.below b10 b10.size (by omega)
     refine Ln ⟨Fx.Chg.of_stp s24, ?_⟩
     refine Rp (.pointer (some ⟨g3, i + 6, none⟩)) (fun v1 => x_index rfl rfl rfl Try.underlying22 (s := 1) (by kernel_rfl) (by omega) (by omega) (by omega)) (Fx.R.make (by rfl) ?_)
     refine Fx.L.store1 (x := stY (JM1 a b i)) (u := .bool true) (by rfl) rfl rfl rfl rfl (by rfl) (by kernel_rfl) m90 (i := i + 6) (by omega) fun w25 m93 s25 z21 => ?_
     have m94 : Fx.Blk w25 g3 20 (stY (JM a b (i + 1))) 29 := m93.congr (J_left (by omega) (by omega) (by rw [c41, c46]; rfl))
     have m95 := m91.stp s25 (by omega)
     have m96 := m92.stp s25 (by omega)
     have b26 := s25.below b25 b25.size (by omega)
     refine Ln ⟨Fx.Chg.of_stp s25, ?_⟩
     refine Fx.R.nil (Fx.blkN (sN (Wl (Lv (.int .i64 ((i : Int) + 1)) (Fx.x_add rfl h4 rfl (Fx.i64e (by omega) (by omega))) ?_))))
     refine Lv (.int .i64 ((i : Int) + 1)) (x_move rfl rfl) (Ln (Fx.lpN ⟨i + 1, by omega, h1, h2, h3, (by first | rfl | exact congrArg (Value.int .i64) (by omega)), m95, m96, m94, b26⟩ ?_))
     show (6 - (intOf ((.int .i64 ((i : Int) + 1)))).toNat) < _
     simp only [h4, intOf]; omega
    rw [Bool.not_eq_true] at c46
    refine Fx.R.read (v := .bool false) (by rfl) (by rfl) (Fx.Chg.refl _ _) (fun v1 hv1 => x_load1 (x := stY (stS b bna bnc bga bgc)) rfl rfl (by kernel_rfl) (m31.chg hv1 (show ¬ (g2 = g3) by omega)).cel (i := i + 6) (by omega) (by omega) ((stY_left _ (by omega) (by omega)).trans (congrArg Value.bool c46))) ?_
    refine Rp (.bool false) (fun v1 => x_pickF rfl rfl rfl) (Fx.R.make (by rfl) ?_)
    refine Fx.L.store1 (x := stY (JM a b i)) (u := .bool false) (by rfl) rfl rfl rfl rfl (by rfl) (by kernel_rfl) m32 (i := i) (by omega) fun w26 m97 s26 z22 => ?_
    have m98 : Fx.Blk w26 g3 20 (stY (JM1 a b i)) 29 := m97.congr (J_in (by omega) (by rw [c31, c36]; rfl))
    have m99 := m30.stp s26 (by omega)
    have m100 := m31.stp s26 (by omega)
    have b27 := s26.below b10 b10.size (by omega)
    refine Ln ⟨Fx.Chg.of_stp s26, ?_⟩
    refine Rp (.pointer (some ⟨g3, i + 6, none⟩)) (fun v1 => x_index rfl rfl rfl Try.underlying22 (s := 1) (by kernel_rfl) (by omega) (by omega) (by omega)) (Fx.R.make (by rfl) ?_)
    refine Fx.L.store1 (x := stY (JM1 a b i)) (u := .bool false) (by rfl) rfl rfl rfl rfl (by rfl) (by kernel_rfl) m98 (i := i + 6) (by omega) fun w27 m101 s27 z23 => ?_
    have m102 : Fx.Blk w27 g3 20 (stY (JM a b (i + 1))) 29 := m101.congr (J_left (by omega) (by omega) (by rw [c41, c46]; rfl))
    have m103 := m99.stp s27 (by omega)
    have m104 := m100.stp s27 (by omega)
    have b28 := s27.below b27 b27.size (by omega)
    refine Ln ⟨Fx.Chg.of_stp s27, ?_⟩
    refine Fx.R.nil (Fx.blkN (sN (Wl (Lv (.int .i64 ((i : Int) + 1)) (Fx.x_add rfl h4 rfl (Fx.i64e (by omega) (by omega))) ?_))))
    refine Lv (.int .i64 ((i : Int) + 1)) (x_move rfl rfl) (Ln (Fx.lpN ⟨i + 1, by omega, h1, h2, h3, (by first | rfl | exact congrArg (Value.int .i64) (by omega)), m103, m104, m102, b28⟩ ?_))
    show (6 - (intOf ((.int .i64 ((i : Int) + 1)))).toNat) < _
    simp only [h4, intOf]; omega
   refine Lv (.bool false) (Fx.x_lssF rfl h4 rfl c24) (Ln (sN (Ws (Wc (b := false) rfl (fun h => nomatch h) (fun _ => Fx.W.exit (Fx.seqX (Fx.lpX (Fx.blkX (sN (Ws (Ws ?_)))))))))))
   have m105 : Fx.Blk w9 g3 20 (stY (JM a b 6)) 29 := by have q9 := m29; rw [show i = 6 by omega] at q9; exact q9
   refine Wl (Lv (.pointer (some ⟨g1, 18, none⟩)) (x_field rfl h1 Try.underlying29 rfl (s := 1) (by kernel_rfl) rfl (by show _ + 18 = _; omega)) (Lv (.slice ana (a.ns.length) (anc)) (x_load1 (x := stY (stS a ana anc aga agc)) rfl rfl (by kernel_rfl) m27.cel (i := 18) (by omega) (by omega) rfl) (Lv (.pointer (some ⟨g2, 18, none⟩)) (x_field rfl h2 Try.underlying29 rfl (s := 1) (by kernel_rfl) rfl (by show _ + 18 = _; omega)) (Lv (.slice bna (b.ns.length) (bnc)) (x_load1 (x := stY (stS b bna bnc bga bgc)) rfl rfl (by kernel_rfl) m28.cel (i := 18) (by omega) (by omega) rfl) (Fx.L.call (by rfl) (rC (args := [.slice ana (a.ns.length) (anc), .slice bna (b.ns.length) (bnc), .func (.func 22) #[] #[], .func (.func 23) #[] #[]]) rfl rfl Try.func21 rfl rfl) rfl ((s_mergeN ana bna anc bnc a.ns b.ns _ ha.l1 hb.l1 (ha.up b9).n (hb.up b9).n ha.c1 hb.c1).mono ?_))))))
   intro e9 w28 hor; rcases hor with ⟨e9n, he, hb4⟩ | ⟨l9, alN, clN, e9n, he, hm1, hb4⟩
   ·refine ⟨_, he, ?_⟩
    clear he
    have s28 := Sb hb4
    have m106 := m27.stp s28 (Nat.ne_of_lt (m27.lt))
    have m107 := m28.stp s28 (Nat.ne_of_lt (m28.lt))
    have m108 := m105.stp s28 (Nat.ne_of_lt (m105.lt))
    have b29 := s28.below b9 b9.size b9.size
    refine Lv (.tuple #[.slice none 0 0, .int .i64 (9)]) (x_move rfl rfl) (Lv (.slice none 0 0) (Fx.x_extract rfl rfl rfl) (Lv (.int .i64 (9)) (Fx.x_extract rfl rfl rfl) (Lv (.pointer (some ⟨g3, 18, none⟩)) (x_field rfl h3 Try.underlying29 rfl (s := 1) (by kernel_rfl) rfl (by show _ + 18 = _; omega)) (Fx.L.store1 (x := stY (JM a b 6)) (u := .slice none 0 0) (by rfl) rfl rfl rfl rfl (by rfl) (by kernel_rfl) m108 (i := 18) (by omega) fun w29 m109 s29 z24 => ?_))))
    have m110 : Fx.Blk w29 g3 20 (stY (JM2 a b none 0 0)) 29 := m109.congr J_ns
    have m111 := m106.stp s29 (by omega)
    have m112 := m107.stp s29 (by omega)
    have b30 := s29.below b29 b29.size (by omega)
    refine Lv (.int .i64 (9)) (x_assign rfl rfl) (Ln (sN (Ws (Wl (Lv (.int .i64 (9)) (x_move rfl rfl) (Lv (.bool true) (Fx.x_neqT rfl rfl rfl (by omega)) (Ln (sN (Wc (b := true) rfl (fun _ => Ws (Wl (Lv (.agg (Fx.varr 20 (fun i => (#[.bool false, .bool false, .bool false, .bool false, .bool false, .bool false, .bool false, .bool false, .bool false, .bool false, .bool false, .bool false, .int .u64 (0), .int .u64 (0), .int .u64 (0), .int .u64 (0), .int .u64 (0), .int .u64 (0), .slice none 0 0, .slice none 0 0] : Array Value).getD i undef))) (x_build (vs := []) (places := #[(0, 6), (6, 6), (12, 6), (18, 1), (19, 1)]) (m := 20) (x := fun i => (#[.bool false, .bool false, .bool false, .bool false, .bool false, .bool false, .bool false, .bool false, .bool false, .bool false, .bool false, .bool false, .int .u64 (0), .int .u64 (0), .int .u64 (0), .int .u64 (0), .int .u64 (0), .int .u64 (0), .slice none 0 0, .slice none 0 0] : Array Value).getD i undef) rfl rfl Try.underlying29 (by kernel_rfl) (by kernel_rfl) (by rfl)) ?_))) (fun h => nomatch h))))))))))
    refine Lv (.int .i64 (9)) (x_move rfl rfl) (Fx.L.storeA (x := stY (JM2 a b none 0 0)) (y := fun i => (#[.bool false, .bool false, .bool false, .bool false, .bool false, .bool false, .bool false, .bool false, .bool false, .bool false, .bool false, .bool false, .int .u64 (0), .int .u64 (0), .int .u64 (0), .int .u64 (0), .int .u64 (0), .int .u64 (0), .slice none 0 0, .slice none 0 0] : Array Value).getD i undef) (by rfl) rfl rfl h3 rfl (fun j hj => match j, hj with | 0, _ => rfl | 1, _ => rfl | 2, _ => rfl | 3, _ => rfl | 4, _ => rfl | 5, _ => rfl | 6, _ => rfl | 7, _ => rfl | 8, _ => rfl | 9, _ => rfl | 10, _ => rfl | 11, _ => rfl | 12, _ => rfl | 13, _ => rfl | 14, _ => rfl | 15, _ => rfl | 16, _ => rfl | 17, _ => rfl | 18, _ => rfl | 19, _ => rfl | j + 20, h => absurd h (by omega)) (by kernel_rfl) m110 (i := 0) (by omega) fun w30 m113 s30 z25 => ?_)
    have m114 : Fx.Blk w30 g3 20 (fun i => (#[.bool false, .bool false, .bool false, .bool false, .bool false, .bool false, .bool false, .bool false, .bool false, .bool false, .bool false, .bool false, .int .u64 (0), .int .u64 (0), .int .u64 (0), .int .u64 (0), .int .u64 (0), .int .u64 (0), .slice none 0 0, .slice none 0 0] : Array Value).getD i undef) 29 := Fx.ovr_all m113
    have m115 : Fx.Blk w30 g3 20 (stY mz) 29 := m114.congr (fun j hj => match j, hj with | 0, _ => rfl | 1, _ => rfl | 2, _ => rfl | 3, _ => rfl | 4, _ => rfl | 5, _ => rfl | 6, _ => rfl | 7, _ => rfl | 8, _ => rfl | 9, _ => rfl | 10, _ => rfl | 11, _ => rfl | 12, _ => rfl | 13, _ => rfl | 14, _ => rfl | 15, _ => rfl | 16, _ => rfl | 17, _ => rfl | 18, _ => rfl | 19, _ => rfl | j + 20, h => absurd h (by omega))
    have m116 := m111.stp s30 (by omega)
    have m117 := m112.stp s30 (by omega)
    have b31 := s30.below b30 b30.size (by omega)
    refine Lv (.int .i64 (9)) (x_assign rfl rfl) (Ln (sN (Wr (sR (⟨.tuple #[.agg (Fx.varr 20 (stY mz)), .int .i64 (9)], Fx.retV2 Try.results8 ⟨_, h3, Fx.run_loadV m115.cel (by kernel_rfl) (by kernel_rfl)⟩ (by exact rfl), ?_⟩)))))
    rw [jS_n c8 c12 e9n]
    exact ⟨none, 0, none, 0, rfl, Fx.Own.nil _ _ _ _ _, Fx.Own.nil _ _ _ _ _, b31⟩
   refine ⟨_, he, ?_⟩
   clear he
   have s31 := Sb hb4
   have m118 := m27.stp s31 (Nat.ne_of_lt (m27.lt))
   have m119 := m28.stp s31 (Nat.ne_of_lt (m28.lt))
   have m120 := m105.stp s31 (Nat.ne_of_lt (m105.lt))
   have b32 := s31.below b9 b9.size b9.size
   have m121 : Fx.Own w28 w.heap.size 50 56 (.slice alN (l9.length) (clN)) l9.length (ndsX l9) := hm1.mono b9.size
   refine Lv (.tuple #[.slice alN (l9.length) (clN), .int .i64 (0)]) (x_move rfl rfl) (Lv (.slice alN (l9.length) (clN)) (Fx.x_extract rfl rfl rfl) (Lv (.int .i64 (0)) (Fx.x_extract rfl rfl rfl) (Lv (.pointer (some ⟨g3, 18, none⟩)) (x_field rfl h3 Try.underlying29 rfl (s := 1) (by kernel_rfl) rfl (by show _ + 18 = _; omega)) (Fx.L.store1 (x := stY (JM a b 6)) (u := .slice alN (l9.length) (clN)) (by rfl) rfl rfl rfl rfl (by rfl) (by kernel_rfl) m120 (i := 18) (by omega) fun w32 m122 s32 z26 => ?_))))
   have m123 : Fx.Blk w32 g3 20 (stY (JM2 a b alN l9.length clN)) 29 := m122.congr J_ns
   have m124 := m118.stp s32 (by omega)
   have m125 := m119.stp s32 (by omega)
   have hct2 := Fx.ChT.of_stp s32 m120.ty
   have m126 := m121.chT hct2 (by decide)
   have b33 := s32.below b32 b32.size (by omega)
   refine Lv (.int .i64 (0)) (x_assign rfl rfl) (Ln (sN (Ws (Wl (Lv (.int .i64 (0)) (x_move rfl rfl) (Lv (.bool false) (Fx.x_neqF rfl rfl rfl (by omega)) (Ln (sN (Wc (b := false) rfl (fun h => nomatch h) (fun _ => Wk (sN (Ws (Ws (Wl (Lv (.pointer (some ⟨g1, 19, none⟩)) (x_field rfl h1 Try.underlying29 rfl (s := 1) (by kernel_rfl) rfl (by show _ + 19 = _; omega)) (Lv (.slice aga (a.gs.length) (agc)) (x_load1 (x := stY (stS a ana anc aga agc)) rfl rfl (by kernel_rfl) m124.cel (i := 19) (by omega) (by omega) rfl) (Lv (.pointer (some ⟨g2, 19, none⟩)) (x_field rfl h2 Try.underlying29 rfl (s := 1) (by kernel_rfl) rfl (by show _ + 19 = _; omega)) (Lv (.slice bga (b.gs.length) (bgc)) (x_load1 (x := stY (stS b bna bnc bga bgc)) rfl rfl (by kernel_rfl) m125.cel (i := 19) (by omega) (by omega) rfl) (Fx.L.call (by rfl) (rC (args := [.slice aga (a.gs.length) (agc), .slice bga (b.gs.length) (bgc), .func (.func 25) #[] #[], .func (.func 26) #[] #[]]) rfl rfl Try.func24 rfl rfl) rfl ((s_mergeG aga bga agc bgc a.gs b.gs _ ha.l2 hb.l2 (ha.up b33).g (hb.up b33).g ha.c2 hb.c2 ha.b0 hb.b0).mono ?_))))))))))))))))))))
   intro e9 w33 hor; rcases hor with ⟨e9g, he, hb6⟩ | ⟨g9, alG, clG, e9g, he, hm3, hb6⟩
   ·refine ⟨_, he, ?_⟩
    clear he
    have s33 := Sb hb6
    have m127 := m124.stp s33 (Nat.ne_of_lt (m124.lt))
    have m128 := m125.stp s33 (Nat.ne_of_lt (m125.lt))
    have m130 := m123.stp s33 (Nat.ne_of_lt (m123.lt))
    have b34 := s33.below b33 b33.size b33.size
    refine Lv (.tuple #[.slice none 0 0, .int .i64 (14)]) (x_move rfl rfl) (Lv (.slice none 0 0) (Fx.x_extract rfl rfl rfl) (Lv (.int .i64 (14)) (Fx.x_extract rfl rfl rfl) (Lv (.pointer (some ⟨g3, 19, none⟩)) (x_field rfl h3 Try.underlying29 rfl (s := 1) (by kernel_rfl) rfl (by show _ + 19 = _; omega)) (Fx.L.store1 (x := stY (JM2 a b alN l9.length clN)) (u := .slice none 0 0) (by rfl) rfl rfl rfl rfl (by rfl) (by kernel_rfl) m130 (i := 19) (by omega) fun w34 m131 s34 z27 => ?_))))
    have m132 : Fx.Blk w34 g3 20 (stY (JM3 a b alN l9.length clN none 0 0)) 29 := m131.congr J_gs
    have m133 := m127.stp s34 (by omega)
    have m134 := m128.stp s34 (by omega)
    have b35 := s34.below b34 b34.size (by omega)
    refine Lv (.int .i64 (14)) (x_assign rfl rfl) (Ln (sN (Ws (Wl (Lv (.int .i64 (14)) (x_move rfl rfl) (Lv (.bool true) (Fx.x_neqT rfl rfl rfl (by omega)) (Ln (sN (Wc (b := true) rfl (fun _ => Ws (Wl (Lv (.agg (Fx.varr 20 (fun i => (#[.bool false, .bool false, .bool false, .bool false, .bool false, .bool false, .bool false, .bool false, .bool false, .bool false, .bool false, .bool false, .int .u64 (0), .int .u64 (0), .int .u64 (0), .int .u64 (0), .int .u64 (0), .int .u64 (0), .slice none 0 0, .slice none 0 0] : Array Value).getD i undef))) (x_build (vs := []) (places := #[(0, 6), (6, 6), (12, 6), (18, 1), (19, 1)]) (m := 20) (x := fun i => (#[.bool false, .bool false, .bool false, .bool false, .bool false, .bool false, .bool false, .bool false, .bool false, .bool false, .bool false, .bool false, .int .u64 (0), .int .u64 (0), .int .u64 (0), .int .u64 (0), .int .u64 (0), .int .u64 (0), .slice none 0 0, .slice none 0 0] : Array Value).getD i undef) rfl rfl Try.underlying29 (by kernel_rfl) (by kernel_rfl) (by rfl)) ?_))) (fun h => nomatch h))))))))))
    refine Lv (.int .i64 (14)) (x_move rfl rfl) (Fx.L.storeA (x := stY (JM3 a b alN l9.length clN none 0 0)) (y := fun i => (#[.bool false, .bool false, .bool false, .bool false, .bool false, .bool false, .bool false, .bool false, .bool false, .bool false, .bool false, .bool false, .int .u64 (0), .int .u64 (0), .int .u64 (0), .int .u64 (0), .int .u64 (0), .int .u64 (0), .slice none 0 0, .slice none 0 0] : Array Value).getD i undef) (by rfl) rfl rfl h3 rfl (fun j hj => match j, hj with | 0, _ => rfl | 1, _ => rfl | 2, _ => rfl | 3, _ => rfl | 4, _ => rfl | 5, _ => rfl | 6, _ => rfl | 7, _ => rfl | 8, _ => rfl | 9, _ => rfl | 10, _ => rfl | 11, _ => rfl | 12, _ => rfl | 13, _ => rfl | 14, _ => rfl | 15, _ => rfl | 16, _ => rfl | 17, _ => rfl | 18, _ => rfl | 19, _ => rfl | j + 20, h => absurd h (by omega)) (by kernel_rfl) m132 (i := 0) (by omega) fun w35 m136 s35 z28 => ?_)
    have m137 : Fx.Blk w35 g3 20 (fun i => (#[.bool false, .bool false, .bool false, .bool false, .bool false, .bool false, .bool false, .bool false, .bool false, .bool false, .bool false, .bool false, .int .u64 (0), .int .u64 (0), .int .u64 (0), .int .u64 (0), .int .u64 (0), .int .u64 (0), .slice none 0 0, .slice none 0 0] : Array Value).getD i undef) 29 := Fx.ovr_all m136
    have m138 : Fx.Blk w35 g3 20 (stY mz) 29 := m137.congr (fun j hj => match j, hj with | 0, _ => rfl | 1, _ => rfl | 2, _ => rfl | 3, _ => rfl | 4, _ => rfl | 5, _ => rfl | 6, _ => rfl | 7, _ => rfl | 8, _ => rfl | 9, _ => rfl | 10, _ => rfl | 11, _ => rfl | 12, _ => rfl | 13, _ => rfl | 14, _ => rfl | 15, _ => rfl | 16, _ => rfl | 17, _ => rfl | 18, _ => rfl | 19, _ => rfl | j + 20, h => absurd h (by omega))
    have m139 := m133.stp s35 (by omega)
    have m140 := m134.stp s35 (by omega)
    have b36 := s35.below b35 b35.size (by omega)
    refine Lv (.int .i64 (14)) (x_assign rfl rfl) (Ln (sN (Wr (sR (⟨.tuple #[.agg (Fx.varr 20 (stY mz)), .int .i64 (14)], Fx.retV2 Try.results8 ⟨_, h3, Fx.run_loadV m138.cel (by kernel_rfl) (by kernel_rfl)⟩ (by exact rfl), ?_⟩)))))
    rw [jS_g c8 c12 e9n e9g]
    exact ⟨none, 0, none, 0, rfl, Fx.Own.nil _ _ _ _ _, Fx.Own.nil _ _ _ _ _, b36⟩
   refine ⟨_, he, ?_⟩
   clear he
   have s36 := Sb hb6
   have m142 := m124.stp s36 (Nat.ne_of_lt (m124.lt))
   have m143 := m125.stp s36 (Nat.ne_of_lt (m125.lt))
   have m144 := m126.stp s36 (m126.notNew (Nat.le_refl _))
   have m145 := m123.stp s36 (Nat.ne_of_lt (m123.lt))
   have b37 := s36.below b33 b33.size b33.size
   have m146 : Fx.Own w33 w.heap.size 59 5 (.slice alG (g9.length) (clG)) g9.length (grsX g9) := hm3.mono b33.size
   refine Lv (.tuple #[.slice alG (g9.length) (clG), .int .i64 (0)]) (x_move rfl rfl) (Lv (.slice alG (g9.length) (clG)) (Fx.x_extract rfl rfl rfl) (Lv (.int .i64 (0)) (Fx.x_extract rfl rfl rfl) (Lv (.pointer (some ⟨g3, 19, none⟩)) (x_field rfl h3 Try.underlying29 rfl (s := 1) (by kernel_rfl) rfl (by show _ + 19 = _; omega)) (Fx.L.store1 (x := stY (JM2 a b alN l9.length clN)) (u := .slice alG (g9.length) (clG)) (by rfl) rfl rfl rfl rfl (by rfl) (by kernel_rfl) m145 (i := 19) (by omega) fun w37 m147 s37 z29 => ?_))))
   have m148 : Fx.Blk w37 g3 20 (stY (JM3 a b alN l9.length clN alG g9.length clG)) 29 := m147.congr J_gs
   have m149 := m142.stp s37 (by omega)
   have m150 := m143.stp s37 (by omega)
   have hct5 := Fx.ChT.of_stp s37 m145.ty
   have m151 := m144.chT hct5 (by decide)
   have m152 := m146.chT hct5 (by decide)
   have b38 := s37.below b37 b37.size (by omega)
   refine Lv (.int .i64 (0)) (x_assign rfl rfl) (Ln (sN (Ws (Wl (Lv (.int .i64 (0)) (x_move rfl rfl) (Lv (.bool false) (Fx.x_neqF rfl rfl rfl (by omega)) (Ln (sN (Wc (b := false) rfl (fun h => nomatch h) (fun _ => Wk (sN (Ws (Ws (Wl (Lv (.agg (Fx.varr 20 (stY (JM3 a b alN l9.length clN alG g9.length clG)))) (x_loadA (x := stY (JM3 a b alN l9.length clN alG g9.length clG)) (y := stY (JM3 a b alN l9.length clN alG g9.length clG)) rfl h3 (by kernel_rfl) (by kernel_rfl) m148.cel (i := 0) (by omega) (by omega) (fun j _ => by rw [Nat.zero_add])) ?_)))))))))))))))
   by_cases c80 : (mayS (joinR a b l9 g9)) = true
   ·refine Fx.L.call (by rfl) (rC (args := [.agg (Fx.varr 20 (stY (JM3 a b alN l9.length clN alG g9.length clG)))]) rfl rfl Try.func12 rfl rfl) rfl (((s_may (joinR a b l9 g9) alN clN alG clG _ (joinR_r ha.r hb.r e9n e9g).k (by have := mergeN_len e9n; have := (mayS_iff.1 c8).nn; have := (mayS_iff.1 c12).nn; show l9.length ≤ 1000000; omega) (by have := mergeG_len e9g; have := (mayS_iff.1 c8).gn; have := (mayS_iff.1 c12).gn; show g9.length ≤ 1000000; omega) m151.arr m152.arr)).mono ?_)
    rintro e w38 ⟨he, hb8⟩
    refine ⟨.bool true, by rw [he, c80], ?_⟩
    clear he
    have s38 := Sb hb8
    have m153 := m149.stp s38 (Nat.ne_of_lt (m149.lt))
    have m154 := m150.stp s38 (Nat.ne_of_lt (m150.lt))
    have m155 := m151.stp s38 (m151.notNew (Nat.le_refl _))
    have m156 := m152.stp s38 (m152.notNew (Nat.le_refl _))
    have m157 := m148.stp s38 (Nat.ne_of_lt (m148.lt))
    have b39 := s38.below b38 b38.size b38.size
    refine Lv (.bool false) (Fx.x_notF rfl rfl) (Ln (sN (Wc (b := false) rfl (fun h => nomatch h) (fun _ => Wk (sN (Ws (Wl (Lv (.agg (Fx.varr 20 (stY (JM3 a b alN l9.length clN alG g9.length clG)))) (x_loadA (x := stY (JM3 a b alN l9.length clN alG g9.length clG)) (y := stY (JM3 a b alN l9.length clN alG g9.length clG)) rfl h3 (by kernel_rfl) (by kernel_rfl) m157.cel (i := 0) (by omega) (by omega) (fun j _ => by rw [Nat.zero_add])) (Fx.L.storeA (x := stY (JM3 a b alN l9.length clN alG g9.length clG)) (y := stY (JM3 a b alN l9.length clN alG g9.length clG)) (by rfl) rfl rfl h3 rfl (fun j _ => stY_one _ j) (by kernel_rfl) m157 (i := 0) (by omega) fun w39 m158 s39 z30 => ?_)))))))))
    have m159 : Fx.Blk w39 g3 20 (stY (JM3 a b alN l9.length clN alG g9.length clG)) 29 := Fx.ovr_all m158
    have m161 := m153.stp s39 (by omega)
    have m162 := m154.stp s39 (by omega)
    have hct6 := Fx.ChT.of_stp s39 m157.ty
    have m163 := m155.chT hct6 (by decide)
    have m164 := m156.chT hct6 (by decide)
    have b40 := s39.below b39 b39.size (by omega)
    refine Lv (.int .i64 (0)) (x_assign rfl rfl) (Ln (sN (Wr (⟨.tuple #[.agg (Fx.varr 20 (stY (JM3 a b alN l9.length clN alG g9.length clG))), .int .i64 (0)], Fx.retV2 Try.results8 ⟨_, h3, Fx.run_loadV m159.cel (by kernel_rfl) (by kernel_rfl)⟩ (by exact rfl), ?_⟩))))
    rw [jS_y c8 c12 e9n e9g c80]
    exact ⟨alN, clN, alG, clG, by rw [Fx.varr_congr (J_end (a := a) (b := b) (l := l9) (g := g9))], m163, m164, b40⟩
   rw [Bool.not_eq_true] at c80
   refine Fx.L.call (by rfl) (rC (args := [.agg (Fx.varr 20 (stY (JM3 a b alN l9.length clN alG g9.length clG)))]) rfl rfl Try.func12 rfl rfl) rfl (((s_may (joinR a b l9 g9) alN clN alG clG _ (joinR_r ha.r hb.r e9n e9g).k (by have := mergeN_len e9n; have := (mayS_iff.1 c8).nn; have := (mayS_iff.1 c12).nn; show l9.length ≤ 1000000; omega) (by have := mergeG_len e9g; have := (mayS_iff.1 c8).gn; have := (mayS_iff.1 c12).gn; show g9.length ≤ 1000000; omega) m151.arr m152.arr)).mono ?_)
   rintro e w40 ⟨he, hb9⟩
   refine ⟨.bool false, by rw [he, c80], ?_⟩
   clear he
   have s40 := Sb hb9
   have m165 := m149.stp s40 (Nat.ne_of_lt (m149.lt))
   have m166 := m150.stp s40 (Nat.ne_of_lt (m150.lt))
   have m169 := m148.stp s40 (Nat.ne_of_lt (m148.lt))
   have b41 := s40.below b38 b38.size b38.size
   refine Lv (.bool true) (Fx.x_notT rfl rfl) (Ln (sN (Wc (b := true) rfl (fun _ => Ws (Wl (Lv (.agg (Fx.varr 20 (fun i => (#[.bool false, .bool false, .bool false, .bool false, .bool false, .bool false, .bool false, .bool false, .bool false, .bool false, .bool false, .bool false, .int .u64 (0), .int .u64 (0), .int .u64 (0), .int .u64 (0), .int .u64 (0), .int .u64 (0), .slice none 0 0, .slice none 0 0] : Array Value).getD i undef))) (x_build (vs := []) (places := #[(0, 6), (6, 6), (12, 6), (18, 1), (19, 1)]) (m := 20) (x := fun i => (#[.bool false, .bool false, .bool false, .bool false, .bool false, .bool false, .bool false, .bool false, .bool false, .bool false, .bool false, .bool false, .int .u64 (0), .int .u64 (0), .int .u64 (0), .int .u64 (0), .int .u64 (0), .int .u64 (0), .slice none 0 0, .slice none 0 0] : Array Value).getD i undef) rfl rfl Try.underlying29 (by kernel_rfl) (by kernel_rfl) (by rfl)) ?_))) (fun h => nomatch h))))
   refine Fx.L.storeA (x := stY (JM3 a b alN l9.length clN alG g9.length clG)) (y := fun i => (#[.bool false, .bool false, .bool false, .bool false, .bool false, .bool false, .bool false, .bool false, .bool false, .bool false, .bool false, .bool false, .int .u64 (0), .int .u64 (0), .int .u64 (0), .int .u64 (0), .int .u64 (0), .int .u64 (0), .slice none 0 0, .slice none 0 0] : Array Value).getD i undef) (by rfl) rfl rfl h3 rfl (fun j hj => match j, hj with | 0, _ => rfl | 1, _ => rfl | 2, _ => rfl | 3, _ => rfl | 4, _ => rfl | 5, _ => rfl | 6, _ => rfl | 7, _ => rfl | 8, _ => rfl | 9, _ => rfl | 10, _ => rfl | 11, _ => rfl | 12, _ => rfl | 13, _ => rfl | 14, _ => rfl | 15, _ => rfl | 16, _ => rfl | 17, _ => rfl | 18, _ => rfl | 19, _ => rfl | j + 20, h => absurd h (by omega)) (by kernel_rfl) m169 (i := 0) (by omega) fun w41 m170 s41 z31 => ?_
   have m171 : Fx.Blk w41 g3 20 (fun i => (#[.bool false, .bool false, .bool false, .bool false, .bool false, .bool false, .bool false, .bool false, .bool false, .bool false, .bool false, .bool false, .int .u64 (0), .int .u64 (0), .int .u64 (0), .int .u64 (0), .int .u64 (0), .int .u64 (0), .slice none 0 0, .slice none 0 0] : Array Value).getD i undef) 29 := Fx.ovr_all m170
   have m172 : Fx.Blk w41 g3 20 (stY mz) 29 := m171.congr (fun j hj => match j, hj with | 0, _ => rfl | 1, _ => rfl | 2, _ => rfl | 3, _ => rfl | 4, _ => rfl | 5, _ => rfl | 6, _ => rfl | 7, _ => rfl | 8, _ => rfl | 9, _ => rfl | 10, _ => rfl | 11, _ => rfl | 12, _ => rfl | 13, _ => rfl | 14, _ => rfl | 15, _ => rfl | 16, _ => rfl | 17, _ => rfl | 18, _ => rfl | 19, _ => rfl | j + 20, h => absurd h (by omega))
   have m173 := m165.stp s41 (by omega)
   have m174 := m166.stp s41 (by omega)
   have b42 := s41.below b41 b41.size (by omega)
   refine Lv (.int .i64 (6)) (x_assign rfl rfl) (Ln (sN (Wr (sR (⟨.tuple #[.agg (Fx.varr 20 (stY mz)), .int .i64 (6)], Fx.retV2 Try.results8 ⟨_, h3, Fx.run_loadV m172.cel (by kernel_rfl) (by kernel_rfl)⟩ (by exact rfl), ?_⟩)))))
   rw [jS_m c8 c12 e9n e9g c80]
   exact ⟨none, 0, none, 0, rfl, Fx.Own.nil _ _ _ _ _, Fx.Own.nil _ _ _ _ _, b42⟩
  rw [Bool.not_eq_true] at c12
  refine Fx.L.call (by rfl) (rC (args := [.agg (Fx.varr 20 (stY (stS b bna bnc bga bgc)))]) rfl rfl Try.func12 rfl rfl) rfl ((s_may b bna bnc bga bgc _ hb.r.k hb.l1 hb.l2 (hb.up b4).n (hb.up b4).g).mono ?_)
  rintro e w42 ⟨he, hb10⟩
  refine ⟨.bool false, by rw [he, c12], ?_⟩
  clear he
  have s42 := Sb hb10
  have m177 := m8.stp s42 (Nat.ne_of_lt (m8.lt))
  have m178 := m9.stp s42 (Nat.ne_of_lt (m9.lt))
  have m179 := m10.stp s42 (Nat.ne_of_lt (m10.lt))
  have b43 := s42.below b4 b4.size b4.size
  refine Lv (.bool true) (Fx.x_notT rfl rfl) (Lv (.bool true) (x_pickF rfl rfl rfl) (Ln (sN (Wc (b := true) rfl (fun _ => Ws (Wl (Lv (.agg (Fx.varr 20 (fun i => (#[.bool false, .bool false, .bool false, .bool false, .bool false, .bool false, .bool false, .bool false, .bool false, .bool false, .bool false, .bool false, .int .u64 (0), .int .u64 (0), .int .u64 (0), .int .u64 (0), .int .u64 (0), .int .u64 (0), .slice none 0 0, .slice none 0 0] : Array Value).getD i undef))) (x_build (vs := []) (places := #[(0, 6), (6, 6), (12, 6), (18, 1), (19, 1)]) (m := 20) (x := fun i => (#[.bool false, .bool false, .bool false, .bool false, .bool false, .bool false, .bool false, .bool false, .bool false, .bool false, .bool false, .bool false, .int .u64 (0), .int .u64 (0), .int .u64 (0), .int .u64 (0), .int .u64 (0), .int .u64 (0), .slice none 0 0, .slice none 0 0] : Array Value).getD i undef) rfl rfl Try.underlying29 (by kernel_rfl) (by kernel_rfl) (by rfl)) ?_))) (fun h => nomatch h)))))
  refine Fx.L.storeA (x := stY mz) (y := fun i => (#[.bool false, .bool false, .bool false, .bool false, .bool false, .bool false, .bool false, .bool false, .bool false, .bool false, .bool false, .bool false, .int .u64 (0), .int .u64 (0), .int .u64 (0), .int .u64 (0), .int .u64 (0), .int .u64 (0), .slice none 0 0, .slice none 0 0] : Array Value).getD i undef) (by rfl) rfl rfl rfl rfl (fun j hj => match j, hj with | 0, _ => rfl | 1, _ => rfl | 2, _ => rfl | 3, _ => rfl | 4, _ => rfl | 5, _ => rfl | 6, _ => rfl | 7, _ => rfl | 8, _ => rfl | 9, _ => rfl | 10, _ => rfl | 11, _ => rfl | 12, _ => rfl | 13, _ => rfl | 14, _ => rfl | 15, _ => rfl | 16, _ => rfl | 17, _ => rfl | 18, _ => rfl | 19, _ => rfl | j + 20, h => absurd h (by omega)) (by kernel_rfl) m179 (i := 0) (by omega) fun w43 m180 s43 z32 => ?_
  have m181 : Fx.Blk w43 g3 20 (fun i => (#[.bool false, .bool false, .bool false, .bool false, .bool false, .bool false, .bool false, .bool false, .bool false, .bool false, .bool false, .bool false, .int .u64 (0), .int .u64 (0), .int .u64 (0), .int .u64 (0), .int .u64 (0), .int .u64 (0), .slice none 0 0, .slice none 0 0] : Array Value).getD i undef) 29 := Fx.ovr_all m180
  have m182 : Fx.Blk w43 g3 20 (stY mz) 29 := m181.congr (fun j hj => match j, hj with | 0, _ => rfl | 1, _ => rfl | 2, _ => rfl | 3, _ => rfl | 4, _ => rfl | 5, _ => rfl | 6, _ => rfl | 7, _ => rfl | 8, _ => rfl | 9, _ => rfl | 10, _ => rfl | 11, _ => rfl | 12, _ => rfl | 13, _ => rfl | 14, _ => rfl | 15, _ => rfl | 16, _ => rfl | 17, _ => rfl | 18, _ => rfl | 19, _ => rfl | j + 20, h => absurd h (by omega))
  have m183 := m177.stp s43 (by omega)
  have m184 := m178.stp s43 (by omega)
  have b44 := s43.below b43 b43.size (by omega)
  refine Lv (.int .i64 (1)) (x_assign rfl rfl) (Ln (sN (Wr (sR (⟨.tuple #[.agg (Fx.varr 20 (stY mz)), .int .i64 (1)], Fx.retV2 Try.results8 ⟨_, rfl, Fx.run_loadV m182.cel (by kernel_rfl) (by kernel_rfl)⟩ (by exact rfl), ?_⟩)))))
  rw [jS_arg (.inr c12)]
  exact ⟨none, 0, none, 0, rfl, Fx.Own.nil _ _ _ _ _, Fx.Own.nil _ _ _ _ _, b44⟩
 rw [Bool.not_eq_true] at c8
 refine Fx.L.call (by rfl) (rC (args := [.agg (Fx.varr 20 (stY (stS a ana anc aga agc)))]) rfl rfl Try.func12 rfl rfl) rfl ((s_may a ana anc aga agc _ ha.r.k ha.l1 ha.l2 (ha.up b3).n (ha.up b3).g).mono ?_)
 rintro e w44 ⟨he, hb11⟩
 refine ⟨.bool false, by rw [he, c8], ?_⟩
 clear he
 have s44 := Sb hb11
 have m185 := m5.stp s44 (Nat.ne_of_lt (m5.lt))
 have m186 := m6.stp s44 (Nat.ne_of_lt (m6.lt))
 have m187 := m7.stp s44 (Nat.ne_of_lt (m7.lt))
 have b45 := s44.below b3 b3.size b3.size
 refine Lv (.bool true) (Fx.x_notT rfl rfl) (Lv (.bool true) (x_move rfl rfl) (Lk (by rfl) rfl (Lk (by rfl) rfl (Lk (by rfl) rfl (Lv (.bool true) (x_pickT rfl rfl rfl) (Ln (sN (Wc (b := true) rfl (fun _ => Ws (Wl (Lv (.agg (Fx.varr 20 (fun i => (#[.bool false, .bool false, .bool false, .bool false, .bool false, .bool false, .bool false, .bool false, .bool false, .bool false, .bool false, .bool false, .int .u64 (0), .int .u64 (0), .int .u64 (0), .int .u64 (0), .int .u64 (0), .int .u64 (0), .slice none 0 0, .slice none 0 0] : Array Value).getD i undef))) (x_build (vs := []) (places := #[(0, 6), (6, 6), (12, 6), (18, 1), (19, 1)]) (m := 20) (x := fun i => (#[.bool false, .bool false, .bool false, .bool false, .bool false, .bool false, .bool false, .bool false, .bool false, .bool false, .bool false, .bool false, .int .u64 (0), .int .u64 (0), .int .u64 (0), .int .u64 (0), .int .u64 (0), .int .u64 (0), .slice none 0 0, .slice none 0 0] : Array Value).getD i undef) rfl rfl Try.underlying29 (by kernel_rfl) (by kernel_rfl) (by rfl)) ?_))) (fun h => nomatch h)))))))))
 refine Fx.L.storeA (x := stY mz) (y := fun i => (#[.bool false, .bool false, .bool false, .bool false, .bool false, .bool false, .bool false, .bool false, .bool false, .bool false, .bool false, .bool false, .int .u64 (0), .int .u64 (0), .int .u64 (0), .int .u64 (0), .int .u64 (0), .int .u64 (0), .slice none 0 0, .slice none 0 0] : Array Value).getD i undef) (by rfl) rfl rfl rfl rfl (fun j hj => match j, hj with | 0, _ => rfl | 1, _ => rfl | 2, _ => rfl | 3, _ => rfl | 4, _ => rfl | 5, _ => rfl | 6, _ => rfl | 7, _ => rfl | 8, _ => rfl | 9, _ => rfl | 10, _ => rfl | 11, _ => rfl | 12, _ => rfl | 13, _ => rfl | 14, _ => rfl | 15, _ => rfl | 16, _ => rfl | 17, _ => rfl | 18, _ => rfl | 19, _ => rfl | j + 20, h => absurd h (by omega)) (by kernel_rfl) m187 (i := 0) (by omega) fun w45 m188 s45 z33 => ?_
 have m189 : Fx.Blk w45 g3 20 (fun i => (#[.bool false, .bool false, .bool false, .bool false, .bool false, .bool false, .bool false, .bool false, .bool false, .bool false, .bool false, .bool false, .int .u64 (0), .int .u64 (0), .int .u64 (0), .int .u64 (0), .int .u64 (0), .int .u64 (0), .slice none 0 0, .slice none 0 0] : Array Value).getD i undef) 29 := Fx.ovr_all m188
 have m190 : Fx.Blk w45 g3 20 (stY mz) 29 := m189.congr (fun j hj => match j, hj with | 0, _ => rfl | 1, _ => rfl | 2, _ => rfl | 3, _ => rfl | 4, _ => rfl | 5, _ => rfl | 6, _ => rfl | 7, _ => rfl | 8, _ => rfl | 9, _ => rfl | 10, _ => rfl | 11, _ => rfl | 12, _ => rfl | 13, _ => rfl | 14, _ => rfl | 15, _ => rfl | 16, _ => rfl | 17, _ => rfl | 18, _ => rfl | 19, _ => rfl | j + 20, h => absurd h (by omega))
 have m191 := m185.stp s45 (by omega)
 have m192 := m186.stp s45 (by omega)
 have b46 := s45.below b45 b45.size (by omega)
 refine Lv (.int .i64 (1)) (x_assign rfl rfl) (Ln (sN (Wr (sR (⟨.tuple #[.agg (Fx.varr 20 (stY mz)), .int .i64 (1)], Fx.retV2 Try.results8 ⟨_, rfl, Fx.run_loadV m190.cel (by kernel_rfl) (by kernel_rfl)⟩ (by exact rfl), ?_⟩)))))
 rw [jS_arg (.inl c8)]
 exact ⟨none, 0, none, 0, rfl, Fx.Own.nil _ _ _ _ _, Fx.Own.nil _ _ _ _ _, b46⟩
set_option linter.unusedVariables false
set_option maxRecDepth 20000
namespace Rt
theorem wfu {n : Int} (h : U64r n) : litOf (some .u64) (.int .u64 n) = some (.int .u64 n) := by simp [litOf, Fx.wfu64 h]
theorem wfi {n : Int} (h : I64r n) : litOf (some .i64) (.int .i64 n) = some (.int .i64 n) := by simp [litOf, Fx.wf64 h]
theorem kdB (b : Nat → Bool) : Fx.Kd (List.replicate 6 none) (fun j => .bool (b j)) := fun i hi => ⟨.bool (b i), by rw [List.getElem_replicate]; rfl⟩
theorem ndZ_R (x : NdM) (p : Nat) : ndZ x (p + 2) = .int .i64 (x.R p) := by unfold ndZ ndY; rw [if_neg (by omega), if_neg (by omega)]; rfl
theorem kdN {x : NdM} (h : NdR x) : Fx.Kd (some .u64 :: some .u64 :: List.replicate 54 (some .i64)) (ndZ x) := fun i hi => by
  match i, hi with
  | 0, _ => exact ⟨_, wfu h.id⟩
  | 1, _ => exact ⟨_, wfu h.par⟩
  | i + 2, hi =>
    have hi2 : i < 54 := by simp at hi; omega
    have e : (some IntKind.u64 :: some IntKind.u64 :: List.replicate 54 (some IntKind.i64))[i + 2] = some .i64 := by rw [List.getElem_cons_succ, List.getElem_cons_succ, List.getElem_replicate]
    rw [e, ndZ_R]
    exact ⟨_, wfi (h.R i hi2)⟩
theorem kdG {x : GrM} (h : GrR x) : Fx.Kd [some .i64, some .u64, some .u64, some .i64, some .u64] (grZ x) := fun i hi => by
  match i, hi with
  | 0, _ => exact ⟨_, wfi h.o⟩
  | 1, _ => exact ⟨_, wfu h.r⟩
  | 2, _ => exact ⟨_, wfu h.n⟩
  | 3, _ => exact ⟨_, wfi h.a⟩
  | 4, _ => exact ⟨_, wfu h.b⟩
theorem vi {k : IntKind} {a b : Int} (h : Value.int k a = .int k b) : a = b := by injection h
theorem same_nd {x y : NdM} : (∀ i, i < 56 → ndZ x i = ndZ y i) ↔ SameNd x y := by
  constructor
  · intro h
    refine ⟨vi (h 0 (by decide)), vi (h 1 (by decide)), fun p hp => ?_⟩
    have := h (p + 2) (by omega)
    rw [ndZ_R, ndZ_R] at this
    exact vi this
  rintro ⟨h1, h2, h3⟩ i hi
  match i, hi with
  | 0, _ => exact congrArg (Value.int .u64) h1
  | 1, _ => exact congrArg (Value.int .u64) h2
  | p + 2, hi => rw [ndZ_R, ndZ_R, h3 p (by omega)]
theorem same_gr {x y : GrM} : (∀ i, i < 5 → grZ x i = grZ y i) ↔ x = y := by
  constructor
  · intro h
    have h0 := vi (h 0 (by decide)); have h1 := vi (h 1 (by decide)); have h2 := vi (h 2 (by decide)); have h3 := vi (h 3 (by decide)); have h4 := vi (h 4 (by decide))
    cases x; cases y; simp only at h0 h1 h2 h3 h4; rw [h0, h1, h2, h3, h4]
  rintro rfl i hi; rfl
theorem same_u {x y : Nat → Int} : (∀ i, i < 6 → Fx.rv .u64 x i = Fx.rv .u64 y i) ↔ ∀ i, i < 6 → x i = y i := ⟨fun h i hi => vi (h i hi), fun h i hi => congrArg (Value.int .u64) (h i hi)⟩
theorem same_b {x y : Nat → Bool} : (∀ i, i < 6 → (fun j => Value.bool (x j)) i = (fun j => Value.bool (y j)) i) ↔ ∀ i, i < 6 → x i = y i := ⟨fun h i hi => by have := h i hi; injection this, fun h i hi => congrArg Value.bool (h i hi)⟩
def EqN (a b : List NdM) : Prop := a.length = b.length ∧ ∀ k, k < a.length → SameNd (ndA a k) (ndA b k)
def EqG (a b : List GrM) : Prop := a.length = b.length ∧ ∀ k, k < a.length → grA a k = grA b k
open Classical in
noncomputable def eqN (a b : List NdM) : Bool := decide (EqN a b)
open Classical in
noncomputable def eqG (a b : List GrM) : Bool := decide (EqG a b)
open Classical in
noncomputable def sameS (a b : SnM) : Bool := decide (SameSn a b)
open Classical in
theorem eqN_y {a b : List NdM} (h : EqN a b) : eqN a b = true := decide_eq_true h
open Classical in
theorem eqN_n {a b : List NdM} (h : ¬ EqN a b) : eqN a b = false := decide_eq_false h
open Classical in
theorem eqG_y {a b : List GrM} (h : EqG a b) : eqG a b = true := decide_eq_true h
open Classical in
theorem eqG_n {a b : List GrM} (h : ¬ EqG a b) : eqG a b = false := decide_eq_false h
open Classical in
theorem sameS_y {a b : SnM} (h : SameSn a b) : sameS a b = true := decide_eq_true h
open Classical in
theorem sameS_n {a b : SnM} (h : ¬ SameSn a b) : sameS a b = false := decide_eq_false h
open Classical in
theorem eqN_p {a b : List NdM} (h : eqN a b = true) : EqN a b := of_decide_eq_true h
open Classical in
theorem eqN_q {a b : List NdM} (h : eqN a b = false) : ¬ EqN a b := of_decide_eq_false h
open Classical in
theorem eqG_p {a b : List GrM} (h : eqG a b = true) : EqG a b := of_decide_eq_true h
open Classical in
theorem eqG_q {a b : List GrM} (h : eqG a b = false) : ¬ EqG a b := of_decide_eq_false h
open Classical in
theorem lessS_y {a b u : SnM} {ev : Int} (e : joinS a b = (u, ev)) (h0 : ev = 0) (h : SameSn u b) : lessS a b = true := decide_eq_true (by rw [e]; exact ⟨h0, h⟩)
open Classical in
theorem lessS_n {a b u : SnM} {ev : Int} (e : joinS a b = (u, ev)) (h : ¬ (ev = 0 ∧ SameSn u b)) : lessS a b = false := decide_eq_false (by rw [e]; exact h)
theorem joinS_l {a b : SnM} : (joinS a b).1.ns.length ≤ 32 ∧ (joinS a b).1.gs.length ≤ 4096 := by
  unfold joinS
  split
  · exact ⟨Nat.zero_le _, Nat.zero_le _⟩
  split
  · exact ⟨Nat.zero_le _, Nat.zero_le _⟩
  split
  · exact ⟨Nat.zero_le _, Nat.zero_le _⟩
  split
  · rename_i h; exact ⟨h.nn, h.gn⟩
  exact ⟨Nat.zero_le _, Nat.zero_le _⟩
end Rt
theorem s_eqN (aa ba : Option Addr) (cpa cpb : Nat) (la lb : List NdM) (w : World) (hl1 : la.length ≤ 1000000) (hl2 : lb.length ≤ 1000000) (ha : Fx.Arr w aa la.length 56 (ndsX la)) (hb : Fx.Arr w ba lb.length 56 (ndsX lb)) (ra : ∀ x ∈ la, NdR x) (rb : ∀ x ∈ lb, NdR x) :
    Calls Try.prog 55 #[.slice aa (la.length) (cpa), .slice ba (lb.length) (cpb)] w fun e w' => e = .returned (.bool (eqN la lb)) ∧ Below w.heap.size w w' := by
 refine Fx.enter Try.func55 rfl (n := 26) rfl (by rfl) ?_
 refine Ws (Wl (Lv (.bool false) (x_assign rfl rfl) (Ln (sN (Ws (Ws (Wl (Lv (.slice aa (la.length) (cpa)) (x_move rfl rfl) (Lv (.int .i64 ((la.length : Int))) (x_len rfl rfl rfl (by kernel_rfl)) (Lv (.slice ba (lb.length) (cpb)) (x_move rfl rfl) (Lv (.int .i64 ((lb.length : Int))) (x_len rfl rfl rfl (by kernel_rfl)) ?_)))))))))))
 by_cases c10 : (la.length : Int) = (lb.length : Int)
 ·refine Lv (.bool false) (Fx.x_neqF rfl rfl rfl c10) (Ln (sN (Wc (b := false) rfl (fun h => nomatch h) (fun _ => Wk (sN (Ws (Ws (Wl (Lv (.slice aa (la.length) (cpa)) (x_move rfl rfl) (Lv (.int .i64 ((la.length : Int))) (x_len rfl rfl rfl (by kernel_rfl)) (Lv (.int .i64 (0)) (x_move rfl rfl) (Ln (sN (Fx.W.block (Fx.W.loop (fun f w_ => ∃ k : Nat, k ≤ la.length ∧ (∀ q, q < k → SameNd (ndA la q) (ndA lb q)) ∧ f 0 = .slice aa (la.length) (cpa) ∧ f 1 = .slice ba (lb.length) (cpb) ∧ f 12 = .int .i64 ((la.length : Int)) ∧ f 13 = .int .i64 ((k : Int)) ∧ Below w.heap.size w w_) (fun f _ => (la.length - (intOf (f 13)).toNat)) ⟨0, (Nat.zero_le _), (fun q h => absurd h (by omega)), (by rfl), (by rfl), Fx.ic, Fx.ic, (Below.refl w.heap.size w)⟩ ?_)))))))))))))))
  rintro f1 w1 ⟨k, hk, hall, h1, h2, h3, h4, b1⟩
  refine Ws (Wl ?_)
  by_cases c14 : (k : Int) < (la.length : Int)
  ·refine Lv (.bool true) (Fx.x_lssT rfl h4 h3 c14) (Ln (sN (Ws (Wc (b := true) rfl (fun _ => Wk (sN (Ws (Fx.W.block (Ws (Wl (Lv (.int .i64 ((k : Int))) (x_move rfl h4) ?_))))))) (fun h => nomatch h)))))
   refine Lv (.int .i64 ((k : Int))) (x_assign rfl rfl) (Ln (sN (Ws ?_)))
   -- region 6 draws
   refine Fx.W.quiet (fun v1 => ∃ q, v1 = World.drewN w1 q) (by kernel_rfl) (by kernel_rfl) ⟨1, rfl⟩ ?_
   refine Qv (.slice aa (la.length) (cpa)) (fun v1 hv1 => x_move rfl h1) (Qv (.int .i64 ((k : Int))) (fun v1 hv1 => x_move rfl rfl) ?_)
   obtain ⟨bq1, oq1, eq1, m1⟩ := (ha.up b1 rfl) (by omega)
   have lbq1 : bq1 < w1.heap.size := m1.lt (by omega)
   refine Qv ((pf bq1 (56 * k + oq1))) (fun v1 hv1 => x_indexS rfl (rfl.trans (congrArg (fun q => Value.slice q (la.length) (cpa)) eq1)) rfl Try.underlying26 (s := 56) (by kernel_rfl) (by omega) (by omega) (by omega)) (Qv (.agg (Fx.varr 56 (ndZ (ndA la k)))) (fun v1 hv1 => x_loadA (x := ndsX la) (y := ndZ (ndA la k)) rfl rfl (by kernel_rfl) (by kernel_rfl) (by obtain ⟨qd, rfl⟩ := hv1; exact m1) (i := 56 * k) (by omega) (by omega) (fun jq hjq => Fx.flat_at (k := k) (by omega) hjq)) (Qv (.slice ba (lb.length) (cpb)) (fun v1 hv1 => x_move rfl h2) (Qv (.int .i64 ((k : Int))) (fun v1 hv1 => x_move rfl rfl) ?_)))
   obtain ⟨bq2, oq2, eq2, m2⟩ := (hb.up b1 rfl) (by omega)
   have lbq2 : bq2 < w1.heap.size := m2.lt (by omega)
   refine Qv ((pf bq2 (56 * k + oq2))) (fun v1 hv1 => x_indexS rfl (rfl.trans (congrArg (fun q => Value.slice q (lb.length) (cpb)) eq2)) rfl Try.underlying26 (s := 56) (by kernel_rfl) (by omega) (by omega) (by omega)) (Qv (.agg (Fx.varr 56 (ndZ (ndA lb k)))) (fun v1 hv1 => x_loadA (x := ndsX lb) (y := ndZ (ndA lb k)) rfl rfl (by kernel_rfl) (by kernel_rfl) (by obtain ⟨qd, rfl⟩ := hv1; exact m2) (i := 56 * k) (by omega) (by omega) (fun jq hjq => Fx.flat_at (k := k) (by omega) hjq)) ?_)
   by_cases c24 : ∀ i, i < 56 → (ndZ (ndA la k)) i = (ndZ (ndA lb k)) i
   ·refine Qv (.bool false) (fun v1 hv1 => Fx.x_neqA (n := 56) (ks := ((some .u64) :: (some .u64) :: List.replicate 54 (some .i64))) (X := ndZ (ndA la k)) (Y := ndZ (ndA lb k)) 12 true rfl rfl rfl (Fx.yesb c24) (kdN (ra _ (ndA_mem (by omega)))) (kdN (rb _ (ndA_mem (by omega)))) rfl (by kernel_rfl) (by kernel_rfl) (by kernel_rfl) (by kernel_rfl) (by kernel_rfl)) (Fx.Qt.nil ?_)
    rintro _ ⟨qd, rfl⟩
    obtain ⟨wq1, ewq1⟩ : ∃ v1, v1 = World.drewN w1 qd := ⟨_, rfl⟩
    rw [← ewq1]
    have s1 : Fx.Stp w1.heap.size w1 wq1 := by rw [ewq1]; exact Sb (bdrN w1 qd)
    have b2 := s1.below b1 b1.size b1.size
    clear ewq1
    refine sN (Wc (b := false) rfl (fun h => nomatch h) (fun _ => Wk (Fx.blkN (sN (Wl (Lv (.int .i64 ((k : Int) + 1)) (Fx.x_add rfl h4 rfl Fx.io) (Lv (.int .i64 ((k : Int) + 1)) (x_move rfl rfl) (Ln (Fx.lpN ⟨k + 1, (by omega), (all_step hall (same_nd.1 c24)), h1, h2, (h3.trans Fx.ic), Fx.ic, b2⟩ ?_)))))))))
    show (la.length - (intOf ((.int .i64 ((k : Int) + 1)))).toNat) < _
    simp only [h4, intOf]; omega
   refine Qv (.bool true) (fun v1 hv1 => Fx.x_neqA (n := 56) (ks := ((some .u64) :: (some .u64) :: List.replicate 54 (some .i64))) (X := ndZ (ndA la k)) (Y := ndZ (ndA lb k)) 12 false rfl rfl rfl (Fx.nob c24) (kdN (ra _ (ndA_mem (by omega)))) (kdN (rb _ (ndA_mem (by omega)))) rfl (by kernel_rfl) (by kernel_rfl) (by kernel_rfl) (by kernel_rfl) (by kernel_rfl)) (Fx.Qt.nil ?_)
   rintro _ ⟨qd, rfl⟩
   obtain ⟨wq2, ewq2⟩ : ∃ v1, v1 = World.drewN w1 qd := ⟨_, rfl⟩
   rw [← ewq2]
   have s2 : Fx.Stp w1.heap.size w1 wq2 := by rw [ewq2]; exact Sb (bdrN w1 qd)
   have b3 := s2.below b1 b1.size b1.size
   clear ewq2
   refine sN (Wc (b := true) rfl (fun _ => Ws (Wl (Lv (.bool false) (x_assign rfl rfl) ?_))) (fun h => nomatch h))
   refine Ln (sN (Wr (Fx.blkR (sR (Fx.lpR (Fx.blkR (sR (⟨.bool false, rV Try.results55 (by exact rfl), ?_⟩))))))))
   exact ⟨congrArg (fun q => Ending.returned (Value.bool q)) (Eq.symm (eqN_n (fun h => c24 (same_nd.2 (h.2 k (by omega)))))), b3⟩
  refine Lv (.bool false) (Fx.x_lssF rfl h4 h3 c14) (Ln (sN (Ws (Wc (b := false) rfl (fun h => nomatch h) (fun _ => Fx.W.exit (Fx.seqX (Fx.lpX (Fx.blkX (sN (Ws (Wl (Lv (.bool true) (x_assign rfl rfl) (Ln (sN (Wr (⟨.bool true, rV Try.results55 (by exact rfl), ?_⟩))))))))))))))))
  exact ⟨congrArg (fun q => Ending.returned (Value.bool q)) (Eq.symm (eqN_y ⟨by omega, fun q hq => hall q (by omega)⟩)), b1⟩
 refine Lv (.bool true) (Fx.x_neqT rfl rfl rfl c10) (Ln (sN (Wc (b := true) rfl (fun _ => Ws (Wl (Lv (.bool false) (x_assign rfl rfl) ?_))) (fun h => nomatch h))))
 refine Ln (sN (Wr (sR (⟨.bool false, rV Try.results55 (by exact rfl), ?_⟩))))
 exact ⟨congrArg (fun q => Ending.returned (Value.bool q)) (Eq.symm (eqN_n (fun h => by have := h.1; omega))), (Below.refl w.heap.size w)⟩
theorem s_eqG (aa ba : Option Addr) (cpa cpb : Nat) (la lb : List GrM) (w : World) (hl1 : la.length ≤ 1000000) (hl2 : lb.length ≤ 1000000) (ha : Fx.Arr w aa la.length 5 (grsX la)) (hb : Fx.Arr w ba lb.length 5 (grsX lb)) (ra : ∀ x ∈ la, GrR x) (rb : ∀ x ∈ lb, GrR x) :
    Calls Try.prog 56 #[.slice aa (la.length) (cpa), .slice ba (lb.length) (cpb)] w fun e w' => e = .returned (.bool (eqG la lb)) ∧ Below w.heap.size w w' := by
 refine Fx.enter Try.func56 rfl (n := 26) rfl (by rfl) ?_
 refine Ws (Wl (Lv (.bool false) (x_assign rfl rfl) (Ln (sN (Ws (Ws (Wl (Lv (.slice aa (la.length) (cpa)) (x_move rfl rfl) (Lv (.int .i64 ((la.length : Int))) (x_len rfl rfl rfl (by kernel_rfl)) (Lv (.slice ba (lb.length) (cpb)) (x_move rfl rfl) (Lv (.int .i64 ((lb.length : Int))) (x_len rfl rfl rfl (by kernel_rfl)) ?_)))))))))))
 by_cases c10 : (la.length : Int) = (lb.length : Int)
 ·refine Lv (.bool false) (Fx.x_neqF rfl rfl rfl c10) (Ln (sN (Wc (b := false) rfl (fun h => nomatch h) (fun _ => Wk (sN (Ws (Ws (Wl (Lv (.slice aa (la.length) (cpa)) (x_move rfl rfl) (Lv (.int .i64 ((la.length : Int))) (x_len rfl rfl rfl (by kernel_rfl)) (Lv (.int .i64 (0)) (x_move rfl rfl) (Ln (sN (Fx.W.block (Fx.W.loop (fun f w_ => ∃ k : Nat, k ≤ la.length ∧ (∀ q, q < k → grA la q = grA lb q) ∧ f 0 = .slice aa (la.length) (cpa) ∧ f 1 = .slice ba (lb.length) (cpb) ∧ f 12 = .int .i64 ((la.length : Int)) ∧ f 13 = .int .i64 ((k : Int)) ∧ Below w.heap.size w w_) (fun f _ => (la.length - (intOf (f 13)).toNat)) ⟨0, (Nat.zero_le _), (fun q h => absurd h (by omega)), (by rfl), (by rfl), Fx.ic, Fx.ic, (Below.refl w.heap.size w)⟩ ?_)))))))))))))))
  rintro f1 w1 ⟨k, hk, hall, h1, h2, h3, h4, b1⟩
  refine Ws (Wl ?_)
  by_cases c14 : (k : Int) < (la.length : Int)
  ·refine Lv (.bool true) (Fx.x_lssT rfl h4 h3 c14) (Ln (sN (Ws (Wc (b := true) rfl (fun _ => Wk (sN (Ws (Fx.W.block (Ws (Wl (Lv (.int .i64 ((k : Int))) (x_move rfl h4) ?_))))))) (fun h => nomatch h)))))
   refine Lv (.int .i64 ((k : Int))) (x_assign rfl rfl) (Ln (sN (Ws ?_)))
   -- region 6 draws
   refine Fx.W.quiet (fun v1 => ∃ q, v1 = World.drewN w1 q) (by kernel_rfl) (by kernel_rfl) ⟨1, rfl⟩ ?_
   refine Qv (.slice aa (la.length) (cpa)) (fun v1 hv1 => x_move rfl h1) (Qv (.int .i64 ((k : Int))) (fun v1 hv1 => x_move rfl rfl) ?_)
   obtain ⟨bq1, oq1, eq1, m1⟩ := (ha.up b1 rfl) (by omega)
   have lbq1 : bq1 < w1.heap.size := m1.lt (by omega)
   refine Qv ((pf bq1 (5 * k + oq1))) (fun v1 hv1 => x_indexS rfl (rfl.trans (congrArg (fun q => Value.slice q (la.length) (cpa)) eq1)) rfl Try.underlying27 (s := 5) (by kernel_rfl) (by omega) (by omega) (by omega)) (Qv (.agg (Fx.varr 5 (grZ (grA la k)))) (fun v1 hv1 => x_loadA (x := grsX la) (y := grZ (grA la k)) rfl rfl (by kernel_rfl) (by kernel_rfl) (by obtain ⟨qd, rfl⟩ := hv1; exact m1) (i := 5 * k) (by omega) (by omega) (fun jq hjq => Fx.flat_at (k := k) (by omega) hjq)) (Qv (.slice ba (lb.length) (cpb)) (fun v1 hv1 => x_move rfl h2) (Qv (.int .i64 ((k : Int))) (fun v1 hv1 => x_move rfl rfl) ?_)))
   obtain ⟨bq2, oq2, eq2, m2⟩ := (hb.up b1 rfl) (by omega)
   have lbq2 : bq2 < w1.heap.size := m2.lt (by omega)
   refine Qv ((pf bq2 (5 * k + oq2))) (fun v1 hv1 => x_indexS rfl (rfl.trans (congrArg (fun q => Value.slice q (lb.length) (cpb)) eq2)) rfl Try.underlying27 (s := 5) (by kernel_rfl) (by omega) (by omega) (by omega)) (Qv (.agg (Fx.varr 5 (grZ (grA lb k)))) (fun v1 hv1 => x_loadA (x := grsX lb) (y := grZ (grA lb k)) rfl rfl (by kernel_rfl) (by kernel_rfl) (by obtain ⟨qd, rfl⟩ := hv1; exact m2) (i := 5 * k) (by omega) (by omega) (fun jq hjq => Fx.flat_at (k := k) (by omega) hjq)) ?_)
   by_cases c24 : ∀ i, i < 5 → (grZ (grA la k)) i = (grZ (grA lb k)) i
   ·refine Qv (.bool false) (fun v1 hv1 => Fx.x_neqA (n := 5) (ks := [(some .i64), (some .u64), (some .u64), (some .i64), (some .u64)]) (X := grZ (grA la k)) (Y := grZ (grA lb k)) 12 true rfl rfl rfl (Fx.yesb c24) (kdG (ra _ (grA_mem (by omega)))) (kdG (rb _ (grA_mem (by omega)))) rfl (by kernel_rfl) (by kernel_rfl) (by kernel_rfl) (by kernel_rfl) (by kernel_rfl)) (Fx.Qt.nil ?_)
    rintro _ ⟨qd, rfl⟩
    obtain ⟨wq1, ewq1⟩ : ∃ v1, v1 = World.drewN w1 qd := ⟨_, rfl⟩
    rw [← ewq1]
    have s1 : Fx.Stp w1.heap.size w1 wq1 := by rw [ewq1]; exact Sb (bdrN w1 qd)
    have b2 := s1.below b1 b1.size b1.size
    clear ewq1
    refine sN (Wc (b := false) rfl (fun h => nomatch h) (fun _ => Wk (Fx.blkN (sN (Wl (Lv (.int .i64 ((k : Int) + 1)) (Fx.x_add rfl h4 rfl Fx.io) (Lv (.int .i64 ((k : Int) + 1)) (x_move rfl rfl) (Ln (Fx.lpN ⟨k + 1, (by omega), (all_step hall (same_gr.1 c24)), h1, h2, (h3.trans Fx.ic), Fx.ic, b2⟩ ?_)))))))))
    show (la.length - (intOf ((.int .i64 ((k : Int) + 1)))).toNat) < _
    simp only [h4, intOf]; omega
   refine Qv (.bool true) (fun v1 hv1 => Fx.x_neqA (n := 5) (ks := [(some .i64), (some .u64), (some .u64), (some .i64), (some .u64)]) (X := grZ (grA la k)) (Y := grZ (grA lb k)) 12 false rfl rfl rfl (Fx.nob c24) (kdG (ra _ (grA_mem (by omega)))) (kdG (rb _ (grA_mem (by omega)))) rfl (by kernel_rfl) (by kernel_rfl) (by kernel_rfl) (by kernel_rfl) (by kernel_rfl)) (Fx.Qt.nil ?_)
   rintro _ ⟨qd, rfl⟩
   obtain ⟨wq2, ewq2⟩ : ∃ v1, v1 = World.drewN w1 qd := ⟨_, rfl⟩
   rw [← ewq2]
   have s2 : Fx.Stp w1.heap.size w1 wq2 := by rw [ewq2]; exact Sb (bdrN w1 qd)
   have b3 := s2.below b1 b1.size b1.size
   clear ewq2
   refine sN (Wc (b := true) rfl (fun _ => Ws (Wl (Lv (.bool false) (x_assign rfl rfl) ?_))) (fun h => nomatch h))
   refine Ln (sN (Wr (Fx.blkR (sR (Fx.lpR (Fx.blkR (sR (⟨.bool false, rV Try.results56 (by exact rfl), ?_⟩))))))))
   exact ⟨congrArg (fun q => Ending.returned (Value.bool q)) (Eq.symm (eqG_n (fun h => c24 (same_gr.2 (h.2 k (by omega)))))), b3⟩
  refine Lv (.bool false) (Fx.x_lssF rfl h4 h3 c14) (Ln (sN (Ws (Wc (b := false) rfl (fun h => nomatch h) (fun _ => Fx.W.exit (Fx.seqX (Fx.lpX (Fx.blkX (sN (Ws (Wl (Lv (.bool true) (x_assign rfl rfl) (Ln (sN (Wr (⟨.bool true, rV Try.results56 (by exact rfl), ?_⟩))))))))))))))))
  exact ⟨congrArg (fun q => Ending.returned (Value.bool q)) (Eq.symm (eqG_y ⟨by omega, fun q hq => hall q (by omega)⟩)), b1⟩
 refine Lv (.bool true) (Fx.x_neqT rfl rfl rfl c10) (Ln (sN (Wc (b := true) rfl (fun _ => Ws (Wl (Lv (.bool false) (x_assign rfl rfl) ?_))) (fun h => nomatch h))))
 refine Ln (sN (Wr (sR (⟨.bool false, rV Try.results56 (by exact rfl), ?_⟩))))
 exact ⟨congrArg (fun q => Ending.returned (Value.bool q)) (Eq.symm (eqG_n (fun h => by have := h.1; omega))), (Below.refl w.heap.size w)⟩
theorem s_same (a b : SnM) (ana : Option Addr) (anc : Nat) (aga : Option Addr) (agc : Nat) (bna : Option Addr) (bnc : Nat) (bga : Option Addr) (bgc : Nat) (w : World) (ha : StW w a ana anc aga agc) (hb : StW w b bna bnc bga bgc) :
    Calls Try.prog 16 #[.agg (Fx.varr 20 (stY (stS a ana anc aga agc))), .agg (Fx.varr 20 (stY (stS b bna bnc bga bgc)))] w fun e w' => e = .returned (.bool (sameS a b)) ∧ Below w.heap.size w w' := by
 have hna := ha.n
 have hnb := hb.n
 have hga := ha.g
 have hgb := hb.g
 have hal1 := ha.l1
 have hal2 := ha.l2
 have hbl1 := hb.l1
 have hbl2 := hb.l2
 refine Fx.enter Try.func16 rfl (n := 80) rfl (by rfl) ?_
 refine Ws (Wl (Fx.L.box (m := 20) (y := stY (stS a ana anc aga agc)) (by rfl) rfl rfl (Fx.cells_agg _ _) rfl fun g1 w1 eg1 m1 s1 z1 => ?_))
 have b1 := s1.below (Below.refl w.heap.size w) (Below.refl w.heap.size w).size (Below.refl w.heap.size w).size
 have lg1 : w.heap.size ≤ g1 := by rw [eg1]; exact (Below.refl w.heap.size w).size
 have tg1 : g1 < w1.heap.size := m1.lt
 clear eg1
 refine Fx.L.box (m := 20) (y := stY (stS b bna bnc bga bgc)) (by rfl) rfl rfl (Fx.cells_agg _ _) rfl fun g2 w2 eg2 m2 s2 z2 => ?_
 have m3 := m1.stp s2 m1.ne
 have b2 := s2.below b1 b1.size b1.size
 have lg2 : w.heap.size ≤ g2 := by rw [eg2]; exact b1.size
 have ng2m3 : g1 ≠ g2 := by rw [eg2]; exact Nat.ne_of_lt (m1.lt)
 have tg2 : g2 < w2.heap.size := m2.lt
 clear eg2
 refine Lv (.bool false) (x_assign rfl rfl) (Ln (sN (Ws (Ws (Wl (Lv ((pt g1)) (x_field rfl rfl Try.underlying29 rfl (s := 6) (by kernel_rfl) rfl rfl) (Lv (.agg (Fx.varr 6 (fun j => Value.bool (a.inn j)))) (x_loadA (x := stY (stS a ana anc aga agc)) (y := fun j => Value.bool (a.inn j)) rfl rfl (by kernel_rfl) (by kernel_rfl) m3.cel (i := 0) (by omega) (by omega) (fun j hj => by rw [Nat.zero_add]; exact stY_in _ hj)) (Lv ((pt g2)) (x_field rfl rfl Try.underlying29 rfl (s := 6) (by kernel_rfl) rfl rfl) (Lv (.agg (Fx.varr 6 (fun j => Value.bool (b.inn j)))) (x_loadA (x := stY (stS b bna bnc bga bgc)) (y := fun j => Value.bool (b.inn j)) rfl rfl (by kernel_rfl) (by kernel_rfl) m2.cel (i := 0) (by omega) (by omega) (fun j hj => by rw [Nat.zero_add]; exact stY_in _ hj)) ?_)))))))))
 by_cases c11 : ∀ i, i < 6 → (fun j => Value.bool (a.inn j)) i = (fun j => Value.bool (b.inn j)) i
 ·refine Lv (.bool false) (Fx.x_neqA (n := 6) (ks := List.replicate 6 none) (X := fun j => Value.bool (a.inn j)) (Y := fun j => Value.bool (b.inn j)) 12 true rfl rfl rfl (Fx.yesb c11) (kdB _) (kdB _) rfl (by kernel_rfl) (by kernel_rfl) (by kernel_rfl) (by kernel_rfl) (by kernel_rfl)) (Lv (.bool false) (x_move rfl rfl) (Lv ((pf g1 6)) (x_field rfl rfl Try.underlying29 rfl (s := 6) (by kernel_rfl) rfl (by show _ + 6 = _; omega)) (Lv (.agg (Fx.varr 6 (fun j => Value.bool (a.left j)))) (x_loadA (x := stY (stS a ana anc aga agc)) (y := fun j => Value.bool (a.left j)) rfl rfl (by kernel_rfl) (by kernel_rfl) m3.cel (i := 6) (by omega) (by omega) (fun j hj => stY_left (p := j) _ hj (by omega))) (Lv ((pf g2 6)) (x_field rfl rfl Try.underlying29 rfl (s := 6) (by kernel_rfl) rfl (by show _ + 6 = _; omega)) (Lv (.agg (Fx.varr 6 (fun j => Value.bool (b.left j)))) (x_loadA (x := stY (stS b bna bnc bga bgc)) (y := fun j => Value.bool (b.left j)) rfl rfl (by kernel_rfl) (by kernel_rfl) m2.cel (i := 6) (by omega) (by omega) (fun j hj => stY_left (p := j) _ hj (by omega))) ?_)))))
  by_cases c17 : ∀ i, i < 6 → (fun j => Value.bool (a.left j)) i = (fun j => Value.bool (b.left j)) i
  ·refine Lv (.bool false) (Fx.x_neqA (n := 6) (ks := List.replicate 6 none) (X := fun j => Value.bool (a.left j)) (Y := fun j => Value.bool (b.left j)) 12 true rfl rfl rfl (Fx.yesb c17) (kdB _) (kdB _) rfl (by kernel_rfl) (by kernel_rfl) (by kernel_rfl) (by kernel_rfl) (by kernel_rfl)) (Lv (.bool false) (x_pickF rfl rfl rfl) (Lv (.bool false) (x_move rfl rfl) (Lv ((pf g1 12)) (x_field rfl rfl Try.underlying29 rfl (s := 6) (by kernel_rfl) rfl (by show _ + 12 = _; omega)) (Lv (.agg (Fx.varr 6 (Fx.rv .u64 a.known))) (x_loadA (x := stY (stS a ana anc aga agc)) (y := Fx.rv .u64 a.known) rfl rfl (by kernel_rfl) (by kernel_rfl) m3.cel (i := 12) (by omega) (by omega) (fun j hj => stY_known (p := j) _ hj (by omega))) (Lv ((pf g2 12)) (x_field rfl rfl Try.underlying29 rfl (s := 6) (by kernel_rfl) rfl (by show _ + 12 = _; omega)) (Lv (.agg (Fx.varr 6 (Fx.rv .u64 b.known))) (x_loadA (x := stY (stS b bna bnc bga bgc)) (y := Fx.rv .u64 b.known) rfl rfl (by kernel_rfl) (by kernel_rfl) m2.cel (i := 12) (by omega) (by omega) (fun j hj => stY_known (p := j) _ hj (by omega))) ?_))))))
   by_cases c24 : ∀ i, i < 6 → (Fx.rv .u64 a.known) i = (Fx.rv .u64 b.known) i
   ·refine Lv (.bool false) (Fx.x_neqA (n := 6) (ks := List.replicate 6 (some .u64)) (X := Fx.rv .u64 a.known) (Y := Fx.rv .u64 b.known) 12 true rfl rfl rfl (Fx.yesb c24) (Kr.kd ha.r.k) (Kr.kd hb.r.k) rfl (by kernel_rfl) (by kernel_rfl) (by kernel_rfl) (by kernel_rfl) (by kernel_rfl)) (Lv (.bool false) (x_pickF rfl rfl rfl) (Lv (.bool false) (x_move rfl rfl) (Lv ((pf g1 18)) (x_field rfl rfl Try.underlying29 rfl (s := 1) (by kernel_rfl) rfl (by show _ + 18 = _; omega)) (Lv (.slice ana (a.ns.length) (anc)) (x_load1 (x := stY (stS a ana anc aga agc)) rfl rfl (by kernel_rfl) m3.cel (i := 18) (by omega) (by omega) rfl) (Lv (.int .i64 ((a.ns.length : Int))) (x_len rfl rfl rfl (by kernel_rfl)) (Lv ((pf g2 18)) (x_field rfl rfl Try.underlying29 rfl (s := 1) (by kernel_rfl) rfl (by show _ + 18 = _; omega)) (Lv (.slice bna (b.ns.length) (bnc)) (x_load1 (x := stY (stS b bna bnc bga bgc)) rfl rfl (by kernel_rfl) m2.cel (i := 18) (by omega) (by omega) rfl) (Lv (.int .i64 ((b.ns.length : Int))) (x_len rfl rfl rfl (by kernel_rfl)) ?_))))))))
    by_cases c33 : (a.ns.length : Int) = (b.ns.length : Int)
    ·refine Lv (.bool false) (Fx.x_neqF rfl rfl rfl c33) (Lv (.bool false) (x_pickF rfl rfl rfl) (Lv (.bool false) (x_move rfl rfl) (Lv ((pf g1 19)) (x_field rfl rfl Try.underlying29 rfl (s := 1) (by kernel_rfl) rfl (by show _ + 19 = _; omega)) (Lv (.slice aga (a.gs.length) (agc)) (x_load1 (x := stY (stS a ana anc aga agc)) rfl rfl (by kernel_rfl) m3.cel (i := 19) (by omega) (by omega) rfl) (Lv (.int .i64 ((a.gs.length : Int))) (x_len rfl rfl rfl (by kernel_rfl)) (Lv ((pf g2 19)) (x_field rfl rfl Try.underlying29 rfl (s := 1) (by kernel_rfl) rfl (by show _ + 19 = _; omega)) (Lv (.slice bga (b.gs.length) (bgc)) (x_load1 (x := stY (stS b bna bnc bga bgc)) rfl rfl (by kernel_rfl) m2.cel (i := 19) (by omega) (by omega) rfl) (Lv (.int .i64 ((b.gs.length : Int))) (x_len rfl rfl rfl (by kernel_rfl)) ?_))))))))
     by_cases c42 : (a.gs.length : Int) = (b.gs.length : Int)
     ·refine Lv (.bool false) (Fx.x_neqF rfl rfl rfl c42) (Lv (.bool false) (x_pickF rfl rfl rfl) (Ln (sN (Wc (b := false) rfl (fun h => nomatch h) (fun _ => Wk (sN (Ws (Ws (Wl (Lv (.int .i64 (0)) (x_assign rfl rfl) (Ln (sN (Fx.W.block (Fx.W.loop (fun f w_ => ∃ k : Nat, k ≤ a.ns.length ∧ (∀ q, q < k → SameNd (ndA a.ns q) (ndA b.ns q)) ∧ f 2 = (pt g1) ∧ f 3 = (pt g2) ∧ f 5 = .int .i64 ((k : Int)) ∧ Fx.Blk w_ g1 20 (stY (stS a ana anc aga agc)) 29 ∧ Fx.Blk w_ g2 20 (stY (stS b bna bnc bga bgc)) 29 ∧ Below w.heap.size w w_) (fun f _ => (a.ns.length - (intOf (f 5)).toNat)) ⟨0, (Nat.zero_le _), (fun q h => absurd h (by omega)), (by rfl), (by rfl), Fx.ic, m3, m2, b2⟩ ?_))))))))))))))
      rintro f1 w3 ⟨k, hk, hnn, h1, h2, h3, m4, m5, b3⟩
      refine Ws (Ws (Wl (Lv (.int .i64 ((k : Int))) (x_move rfl h3) (Lv ((pf g1 18)) (x_field rfl h1 Try.underlying29 rfl (s := 1) (by kernel_rfl) rfl (by show _ + 18 = _; omega)) (Lv (.slice ana (a.ns.length) (anc)) (x_load1 (x := stY (stS a ana anc aga agc)) rfl rfl (by kernel_rfl) m4.cel (i := 18) (by omega) (by omega) rfl) (Lv (.int .i64 ((a.ns.length : Int))) (x_len rfl rfl rfl (by kernel_rfl)) ?_))))))
      by_cases c48 : (k : Int) < (a.ns.length : Int)
      ·refine Lv (.bool true) (Fx.x_lssT rfl rfl rfl c48) (Ln (sN (Wc (b := true) rfl (fun _ => Wk (sN (Ws (Fx.W.block (Ws ?_))))) (fun h => nomatch h))))
       -- region 6 draws
       refine Fx.W.quiet (fun v1 => ∃ q, v1 = World.drewN w3 q) (by kernel_rfl) (by kernel_rfl) ⟨1, rfl⟩ ?_
       refine Qv ((pf g1 18)) (fun v1 hv1 => x_field rfl h1 Try.underlying29 rfl (s := 1) (by kernel_rfl) rfl (by show _ + 18 = _; omega)) (Qv (.slice ana (a.ns.length) (anc)) (fun v1 hv1 => x_load1 (x := stY (stS a ana anc aga agc)) rfl rfl (by kernel_rfl) (by obtain ⟨qd, rfl⟩ := hv1; exact m4.cel) (i := 18) (by omega) (by omega) rfl) (Qv (.int .i64 ((k : Int))) (fun v1 hv1 => x_move rfl h3) ?_))
       obtain ⟨bq1, oq1, eq1, m6⟩ := (hna.up b3 rfl) (by omega)
       have lbq1 : bq1 < w3.heap.size := m6.lt (by omega)
       refine Qv ((pf bq1 (56 * k + oq1))) (fun v1 hv1 => x_indexS rfl (rfl.trans (congrArg (fun q => Value.slice q (a.ns.length) (anc)) eq1)) rfl Try.underlying26 (s := 56) (by kernel_rfl) (by omega) (by omega) (by omega)) (Qv (.agg (Fx.varr 56 (ndZ (ndA a.ns k)))) (fun v1 hv1 => x_loadA (x := ndsX a.ns) (y := ndZ (ndA a.ns k)) rfl rfl (by kernel_rfl) (by kernel_rfl) (by obtain ⟨qd, rfl⟩ := hv1; exact m6) (i := 56 * k) (by omega) (by omega) (fun jq hjq => Fx.flat_at (k := k) (by omega) hjq)) (Qv ((pf g2 18)) (fun v1 hv1 => x_field rfl h2 Try.underlying29 rfl (s := 1) (by kernel_rfl) rfl (by show _ + 18 = _; omega)) (Qv (.slice bna (b.ns.length) (bnc)) (fun v1 hv1 => x_load1 (x := stY (stS b bna bnc bga bgc)) rfl rfl (by kernel_rfl) (by obtain ⟨qd, rfl⟩ := hv1; exact m5.cel) (i := 18) (by omega) (by omega) rfl) (Qv (.int .i64 ((k : Int))) (fun v1 hv1 => x_move rfl h3) ?_))))
       obtain ⟨bq2, oq2, eq2, m7⟩ := (hnb.up b3 rfl) (by omega)
       have lbq2 : bq2 < w3.heap.size := m7.lt (by omega)
       refine Qv ((pf bq2 (56 * k + oq2))) (fun v1 hv1 => x_indexS rfl (rfl.trans (congrArg (fun q => Value.slice q (b.ns.length) (bnc)) eq2)) rfl Try.underlying26 (s := 56) (by kernel_rfl) (by omega) (by omega) (by omega)) (Qv (.agg (Fx.varr 56 (ndZ (ndA b.ns k)))) (fun v1 hv1 => x_loadA (x := ndsX b.ns) (y := ndZ (ndA b.ns k)) rfl rfl (by kernel_rfl) (by kernel_rfl) (by obtain ⟨qd, rfl⟩ := hv1; exact m7) (i := 56 * k) (by omega) (by omega) (fun jq hjq => Fx.flat_at (k := k) (by omega) hjq)) ?_)
       by_cases c61 : ∀ i, i < 56 → (ndZ (ndA a.ns k)) i = (ndZ (ndA b.ns k)) i
       ·refine Qv (.bool false) (fun v1 hv1 => Fx.x_neqA (n := 56) (ks := ((some .u64) :: (some .u64) :: List.replicate 54 (some .i64))) (X := ndZ (ndA a.ns k)) (Y := ndZ (ndA b.ns k)) 12 true rfl rfl rfl (Fx.yesb c61) (kdN (ha.r.n _ (ndA_mem (by omega)))) (kdN (hb.r.n _ (ndA_mem (by omega)))) rfl (by kernel_rfl) (by kernel_rfl) (by kernel_rfl) (by kernel_rfl) (by kernel_rfl)) (Fx.Qt.nil ?_)
        rintro _ ⟨qd, rfl⟩
        obtain ⟨wq1, ewq1⟩ : ∃ v1, v1 = World.drewN w3 qd := ⟨_, rfl⟩
        rw [← ewq1]
        have s3 : Fx.Stp w3.heap.size w3 wq1 := by rw [ewq1]; exact Sb (bdrN w3 qd)
        have m8 := m4.stp s3 m4.ne
        have m9 := m5.stp s3 m5.ne
        have b4 := s3.below b3 b3.size b3.size
        clear ewq1
        refine sN (Wc (b := false) rfl (fun h => nomatch h) (fun _ => Wk (Fx.blkN (sN (Wl (Lv (.int .i64 ((k : Int))) (x_move rfl h3) (Lv (.int .i64 ((k : Int) + 1)) (Fx.x_add rfl rfl rfl Fx.io) (Lv (.int .i64 ((k : Int) + 1)) (x_assign rfl rfl) (Ln (Fx.lpN ⟨k + 1, (by omega), (all_step hnn (same_nd.1 c61)), h1, h2, Fx.ic, m8, m9, b4⟩ ?_))))))))))
        show (a.ns.length - (intOf ((.int .i64 ((k : Int) + 1)))).toNat) < _
        simp only [h3, intOf]; omega
       refine Qv (.bool true) (fun v1 hv1 => Fx.x_neqA (n := 56) (ks := ((some .u64) :: (some .u64) :: List.replicate 54 (some .i64))) (X := ndZ (ndA a.ns k)) (Y := ndZ (ndA b.ns k)) 12 false rfl rfl rfl (Fx.nob c61) (kdN (ha.r.n _ (ndA_mem (by omega)))) (kdN (hb.r.n _ (ndA_mem (by omega)))) rfl (by kernel_rfl) (by kernel_rfl) (by kernel_rfl) (by kernel_rfl) (by kernel_rfl)) (Fx.Qt.nil ?_)
       rintro _ ⟨qd, rfl⟩
       obtain ⟨wq2, ewq2⟩ : ∃ v1, v1 = World.drewN w3 qd := ⟨_, rfl⟩
       rw [← ewq2]
       have s4 : Fx.Stp w3.heap.size w3 wq2 := by rw [ewq2]; exact Sb (bdrN w3 qd)
       have b5 := s4.below b3 b3.size b3.size
       clear ewq2
       refine sN (Wc (b := true) rfl (fun _ => Ws (Wl (Lv (.bool false) (x_assign rfl rfl) ?_))) (fun h => nomatch h))
       refine Ln (sN (Wr (Fx.blkR (sR (Fx.lpR (Fx.blkR (sR (⟨.bool false, rV Try.results16 (by exact rfl), ?_⟩))))))))
       exact ⟨congrArg (fun q => Ending.returned (Value.bool q)) (Eq.symm (sameS_n (fun h => c61 (same_nd.2 (h.n k (by omega)))))), b5⟩
      refine Lv (.bool false) (Fx.x_lssF rfl rfl rfl c48) (Ln (sN (Wc (b := false) rfl (fun h => nomatch h) (fun _ => Fx.W.exit (Fx.seqX (Fx.lpX (Fx.blkX (sN (Ws (Ws (Wl (Lv (.int .i64 (0)) (x_assign rfl rfl) (Ln (sN (Fx.W.block (Fx.W.loop (fun f w_ => ∃ k : Nat, k ≤ a.gs.length ∧ (∀ q, q < k → grA a.gs q = grA b.gs q) ∧ f 2 = (pt g1) ∧ f 3 = (pt g2) ∧ f 6 = .int .i64 ((k : Int)) ∧ Fx.Blk w_ g1 20 (stY (stS a ana anc aga agc)) 29 ∧ Fx.Blk w_ g2 20 (stY (stS b bna bnc bga bgc)) 29 ∧ Below w.heap.size w w_) (fun f _ => (a.gs.length - (intOf (f 6)).toNat)) ⟨0, (Nat.zero_le _), (fun q h => absurd h (by omega)), h1, h2, Fx.ic, m4, m5, b3⟩ ?_))))))))))))))))
      rintro f2 w4 ⟨k, hk, hgg, h4, h5, h6, m16, m17, b6⟩
      refine Ws (Ws (Wl (Lv (.int .i64 ((k : Int))) (x_move rfl h6) (Lv ((pf g1 19)) (x_field rfl h4 Try.underlying29 rfl (s := 1) (by kernel_rfl) rfl (by show _ + 19 = _; omega)) (Lv (.slice aga (a.gs.length) (agc)) (x_load1 (x := stY (stS a ana anc aga agc)) rfl rfl (by kernel_rfl) m16.cel (i := 19) (by omega) (by omega) rfl) (Lv (.int .i64 ((a.gs.length : Int))) (x_len rfl rfl rfl (by kernel_rfl)) ?_))))))
      by_cases c66 : (k : Int) < (a.gs.length : Int)
      ·refine Lv (.bool true) (Fx.x_lssT rfl rfl rfl c66) (Ln (sN (Wc (b := true) rfl (fun _ => Wk (sN (Ws (Fx.W.block (Ws ?_))))) (fun h => nomatch h))))
       -- region 11 draws
       refine Fx.W.quiet (fun v1 => ∃ q, v1 = World.drewN w4 q) (by kernel_rfl) (by kernel_rfl) ⟨1, rfl⟩ ?_
       refine Qv ((pf g1 19)) (fun v1 hv1 => x_field rfl h4 Try.underlying29 rfl (s := 1) (by kernel_rfl) rfl (by show _ + 19 = _; omega)) (Qv (.slice aga (a.gs.length) (agc)) (fun v1 hv1 => x_load1 (x := stY (stS a ana anc aga agc)) rfl rfl (by kernel_rfl) (by obtain ⟨qd, rfl⟩ := hv1; exact m16.cel) (i := 19) (by omega) (by omega) rfl) (Qv (.int .i64 ((k : Int))) (fun v1 hv1 => x_move rfl h6) ?_))
       obtain ⟨bq3, oq3, eq3, m18⟩ := (hga.up b6 rfl) (by omega)
       have lbq3 : bq3 < w4.heap.size := m18.lt (by omega)
       refine Qv ((pf bq3 (5 * k + oq3))) (fun v1 hv1 => x_indexS rfl (rfl.trans (congrArg (fun q => Value.slice q (a.gs.length) (agc)) eq3)) rfl Try.underlying27 (s := 5) (by kernel_rfl) (by omega) (by omega) (by omega)) (Qv (.agg (Fx.varr 5 (grZ (grA a.gs k)))) (fun v1 hv1 => x_loadA (x := grsX a.gs) (y := grZ (grA a.gs k)) rfl rfl (by kernel_rfl) (by kernel_rfl) (by obtain ⟨qd, rfl⟩ := hv1; exact m18) (i := 5 * k) (by omega) (by omega) (fun jq hjq => Fx.flat_at (k := k) (by omega) hjq)) (Qv ((pf g2 19)) (fun v1 hv1 => x_field rfl h5 Try.underlying29 rfl (s := 1) (by kernel_rfl) rfl (by show _ + 19 = _; omega)) (Qv (.slice bga (b.gs.length) (bgc)) (fun v1 hv1 => x_load1 (x := stY (stS b bna bnc bga bgc)) rfl rfl (by kernel_rfl) (by obtain ⟨qd, rfl⟩ := hv1; exact m17.cel) (i := 19) (by omega) (by omega) rfl) (Qv (.int .i64 ((k : Int))) (fun v1 hv1 => x_move rfl h6) ?_))))
       obtain ⟨bq4, oq4, eq4, m19⟩ := (hgb.up b6 rfl) (by omega)
       have lbq4 : bq4 < w4.heap.size := m19.lt (by omega)
       refine Qv ((pf bq4 (5 * k + oq4))) (fun v1 hv1 => x_indexS rfl (rfl.trans (congrArg (fun q => Value.slice q (b.gs.length) (bgc)) eq4)) rfl Try.underlying27 (s := 5) (by kernel_rfl) (by omega) (by omega) (by omega)) (Qv (.agg (Fx.varr 5 (grZ (grA b.gs k)))) (fun v1 hv1 => x_loadA (x := grsX b.gs) (y := grZ (grA b.gs k)) rfl rfl (by kernel_rfl) (by kernel_rfl) (by obtain ⟨qd, rfl⟩ := hv1; exact m19) (i := 5 * k) (by omega) (by omega) (fun jq hjq => Fx.flat_at (k := k) (by omega) hjq)) ?_)
       by_cases c79 : ∀ i, i < 5 → (grZ (grA a.gs k)) i = (grZ (grA b.gs k)) i
       ·refine Qv (.bool false) (fun v1 hv1 => Fx.x_neqA (n := 5) (ks := [(some .i64), (some .u64), (some .u64), (some .i64), (some .u64)]) (X := grZ (grA a.gs k)) (Y := grZ (grA b.gs k)) 12 true rfl rfl rfl (Fx.yesb c79) (kdG (ha.r.g _ (grA_mem (by omega)))) (kdG (hb.r.g _ (grA_mem (by omega)))) rfl (by kernel_rfl) (by kernel_rfl) (by kernel_rfl) (by kernel_rfl) (by kernel_rfl)) (Fx.Qt.nil ?_)
        rintro _ ⟨qd, rfl⟩
        obtain ⟨wq3, ewq3⟩ : ∃ v1, v1 = World.drewN w4 qd := ⟨_, rfl⟩
        rw [← ewq3]
        have s5 : Fx.Stp w4.heap.size w4 wq3 := by rw [ewq3]; exact Sb (bdrN w4 qd)
        have m20 := m16.stp s5 m16.ne
        have m21 := m17.stp s5 m17.ne
        have b7 := s5.below b6 b6.size b6.size
        clear ewq3
        refine sN (Wc (b := false) rfl (fun h => nomatch h) (fun _ => Wk (Fx.blkN (sN (Wl (Lv (.int .i64 ((k : Int))) (x_move rfl h6) (Lv (.int .i64 ((k : Int) + 1)) (Fx.x_add rfl rfl rfl Fx.io) (Lv (.int .i64 ((k : Int) + 1)) (x_assign rfl rfl) (Ln (Fx.lpN ⟨k + 1, (by omega), (all_step hgg (same_gr.1 c79)), h4, h5, Fx.ic, m20, m21, b7⟩ ?_))))))))))
        show (a.gs.length - (intOf ((.int .i64 ((k : Int) + 1)))).toNat) < _
        simp only [h6, intOf]; omega
       refine Qv (.bool true) (fun v1 hv1 => Fx.x_neqA (n := 5) (ks := [(some .i64), (some .u64), (some .u64), (some .i64), (some .u64)]) (X := grZ (grA a.gs k)) (Y := grZ (grA b.gs k)) 12 false rfl rfl rfl (Fx.nob c79) (kdG (ha.r.g _ (grA_mem (by omega)))) (kdG (hb.r.g _ (grA_mem (by omega)))) rfl (by kernel_rfl) (by kernel_rfl) (by kernel_rfl) (by kernel_rfl) (by kernel_rfl)) (Fx.Qt.nil ?_)
       rintro _ ⟨qd, rfl⟩
       obtain ⟨wq4, ewq4⟩ : ∃ v1, v1 = World.drewN w4 qd := ⟨_, rfl⟩
       rw [← ewq4]
       have s6 : Fx.Stp w4.heap.size w4 wq4 := by rw [ewq4]; exact Sb (bdrN w4 qd)
       have b8 := s6.below b6 b6.size b6.size
       clear ewq4
       refine sN (Wc (b := true) rfl (fun _ => Ws (Wl (Lv (.bool false) (x_assign rfl rfl) ?_))) (fun h => nomatch h))
       refine Ln (sN (Wr (Fx.blkR (sR (Fx.lpR (Fx.blkR (sR (⟨.bool false, rV Try.results16 (by exact rfl), ?_⟩))))))))
       exact ⟨congrArg (fun q => Ending.returned (Value.bool q)) (Eq.symm (sameS_n (fun h => c79 (same_gr.2 (h.g k (by omega)))))), b8⟩
      refine Lv (.bool false) (Fx.x_lssF rfl rfl rfl c66) (Ln (sN (Wc (b := false) rfl (fun h => nomatch h) (fun _ => Fx.W.exit (Fx.seqX (Fx.lpX (Fx.blkX (sN (Ws (Wl (Lv (.bool true) (x_assign rfl rfl) (Ln (sN (Wr (⟨.bool true, rV Try.results16 (by exact rfl), ?_⟩)))))))))))))))
      exact ⟨congrArg (fun q => Ending.returned (Value.bool q)) (Eq.symm (sameS_y ⟨same_b.1 c11, same_b.1 c17, same_u.1 c24, by omega, by omega, fun q hq => hnn q (by omega), fun q hq => hgg q (by omega)⟩)), b6⟩
     refine Lv (.bool true) (Fx.x_neqT rfl rfl rfl c42) (Lv (.bool true) (x_pickF rfl rfl rfl) (Ln (sN (Wc (b := true) rfl (fun _ => Ws (Wl (Lv (.bool false) (x_assign rfl rfl) ?_))) (fun h => nomatch h)))))
     refine Ln (sN (Wr (sR (⟨.bool false, rV Try.results16 (by exact rfl), ?_⟩))))
     exact ⟨congrArg (fun q => Ending.returned (Value.bool q)) (Eq.symm (sameS_n (fun h => (by have h1 := h.nn; have h2 := h.gn; omega)))), b2⟩
    refine Lv (.bool true) (Fx.x_neqT rfl rfl rfl c33) (Lv (.bool true) (x_pickF rfl rfl rfl) (Lv (.bool true) (x_move rfl rfl) (Lk (by rfl) rfl (Lk (by rfl) rfl (Lk (by rfl) rfl (Lk (by rfl) rfl (Lk (by rfl) rfl (Lk (by rfl) rfl (Lk (by rfl) rfl (Lv (.bool true) (x_pickT rfl rfl rfl) (Ln (sN (Wc (b := true) rfl (fun _ => Ws (Wl (Lv (.bool false) (x_assign rfl rfl) ?_))) (fun h => nomatch h))))))))))))))
    refine Ln (sN (Wr (sR (⟨.bool false, rV Try.results16 (by exact rfl), ?_⟩))))
    exact ⟨congrArg (fun q => Ending.returned (Value.bool q)) (Eq.symm (sameS_n (fun h => (by have h1 := h.nn; have h2 := h.gn; omega)))), b2⟩
   refine Lv (.bool true) (Fx.x_neqA (n := 6) (ks := List.replicate 6 (some .u64)) (X := Fx.rv .u64 a.known) (Y := Fx.rv .u64 b.known) 12 false rfl rfl rfl (Fx.nob c24) (Kr.kd ha.r.k) (Kr.kd hb.r.k) rfl (by kernel_rfl) (by kernel_rfl) (by kernel_rfl) (by kernel_rfl) (by kernel_rfl)) (Lv (.bool true) (x_pickF rfl rfl rfl) (Lv (.bool true) (x_move rfl rfl) (Lk (by rfl) rfl (Lk (by rfl) rfl (Lk (by rfl) rfl (Lk (by rfl) rfl (Lk (by rfl) rfl (Lk (by rfl) rfl (Lk (by rfl) rfl (Lv (.bool true) (x_pickT rfl rfl rfl) (Lv (.bool true) (x_move rfl rfl) (Lk (by rfl) rfl (Lk (by rfl) rfl (Lk (by rfl) rfl (Lk (by rfl) rfl (Lk (by rfl) rfl (Lk (by rfl) rfl (Lk (by rfl) rfl (Lv (.bool true) (x_pickT rfl rfl rfl) (Ln (sN (Wc (b := true) rfl (fun _ => Ws (Wl (Lv (.bool false) (x_assign rfl rfl) ?_))) (fun h => nomatch h)))))))))))))))))))))))
   refine Ln (sN (Wr (sR (⟨.bool false, rV Try.results16 (by exact rfl), ?_⟩))))
   exact ⟨congrArg (fun q => Ending.returned (Value.bool q)) (Eq.symm (sameS_n (fun h => c24 (same_u.2 h.known)))), b2⟩
  refine Lv (.bool true) (Fx.x_neqA (n := 6) (ks := List.replicate 6 none) (X := fun j => Value.bool (a.left j)) (Y := fun j => Value.bool (b.left j)) 12 false rfl rfl rfl (Fx.nob c17) (kdB _) (kdB _) rfl (by kernel_rfl) (by kernel_rfl) (by kernel_rfl) (by kernel_rfl) (by kernel_rfl)) (Lv (.bool true) (x_pickF rfl rfl rfl) (Lv (.bool true) (x_move rfl rfl) (Lk (by rfl) rfl (Lk (by rfl) rfl (Lk (by rfl) rfl (Lk (by rfl) rfl (Lk (by rfl) rfl (Lv (.bool true) (x_pickT rfl rfl rfl) (Lv (.bool true) (x_move rfl rfl) (Lk (by rfl) rfl (Lk (by rfl) rfl (Lk (by rfl) rfl (Lk (by rfl) rfl (Lk (by rfl) rfl (Lk (by rfl) rfl (Lk (by rfl) rfl (Lv (.bool true) (x_pickT rfl rfl rfl) (Lv (.bool true) (x_move rfl rfl) (Lk (by rfl) rfl (Lk (by rfl) rfl (Lk (by rfl) rfl (Lk (by rfl) rfl (Lk (by rfl) rfl (Lk (by rfl) rfl ?_))))))))))))))))))))))))
  refine Lk (by rfl) rfl (Lv (.bool true) (x_pickT rfl rfl rfl) (Ln (sN (Wc (b := true) rfl (fun _ => Ws (Wl (Lv (.bool false) (x_assign rfl rfl) ?_))) (fun h => nomatch h)))))
  refine Ln (sN (Wr (sR (⟨.bool false, rV Try.results16 (by exact rfl), ?_⟩))))
  exact ⟨congrArg (fun q => Ending.returned (Value.bool q)) (Eq.symm (sameS_n (fun h => c17 (same_b.2 h.left)))), b2⟩
 refine Lv (.bool true) (Fx.x_neqA (n := 6) (ks := List.replicate 6 none) (X := fun j => Value.bool (a.inn j)) (Y := fun j => Value.bool (b.inn j)) 12 false rfl rfl rfl (Fx.nob c11) (kdB _) (kdB _) rfl (by kernel_rfl) (by kernel_rfl) (by kernel_rfl) (by kernel_rfl) (by kernel_rfl)) (Lv (.bool true) (x_move rfl rfl) (Lk (by rfl) rfl (Lk (by rfl) rfl (Lk (by rfl) rfl (Lk (by rfl) rfl (Lk (by rfl) rfl (Lv (.bool true) (x_pickT rfl rfl rfl) (Lv (.bool true) (x_move rfl rfl) (Lk (by rfl) rfl (Lk (by rfl) rfl (Lk (by rfl) rfl (Lk (by rfl) rfl (Lk (by rfl) rfl (Lv (.bool true) (x_pickT rfl rfl rfl) (Lv (.bool true) (x_move rfl rfl) (Lk (by rfl) rfl (Lk (by rfl) rfl (Lk (by rfl) rfl (Lk (by rfl) rfl (Lk (by rfl) rfl (Lk (by rfl) rfl (Lk (by rfl) rfl (Lv (.bool true) (x_pickT rfl rfl rfl) (Lv (.bool true) (x_move rfl rfl) ?_))))))))))))))))))))))))
 refine Lk (by rfl) rfl (Lk (by rfl) rfl (Lk (by rfl) rfl (Lk (by rfl) rfl (Lk (by rfl) rfl (Lk (by rfl) rfl (Lk (by rfl) rfl (Lv (.bool true) (x_pickT rfl rfl rfl) (Ln (sN (Wc (b := true) rfl (fun _ => Ws (Wl (Lv (.bool false) (x_assign rfl rfl) ?_))) (fun h => nomatch h)))))))))))
 refine Ln (sN (Wr (sR (⟨.bool false, rV Try.results16 (by exact rfl), ?_⟩))))
 exact ⟨congrArg (fun q => Ending.returned (Value.bool q)) (Eq.symm (sameS_n (fun h => c11 (same_b.2 h.inn)))), b2⟩
theorem s_joinE (a b : SnM) (ana : Option Addr) (anc : Nat) (aga : Option Addr) (agc : Nat) (bna : Option Addr) (bnc : Nat) (bga : Option Addr) (bgc : Nat) (u : SnM) (ev : Int) (w : World) (ha : StW w a ana anc aga agc) (hb : StW w b bna bnc bga bgc) (hj : joinS a b = (u, ev)) :
    Calls Try.prog 8 #[.agg (Fx.varr 20 (stY (stS a ana anc aga agc))), .agg (Fx.varr 20 (stY (stS b bna bnc bga bgc)))] w fun e w' => ∃ na nc ga gc, e = .returned (.tuple #[.agg (Fx.varr 20 (stY (stS u na nc ga gc))), .int .i64 ev]) ∧ Fx.Own w' w.heap.size 50 56 (.slice na u.ns.length nc) u.ns.length (ndsX u.ns) ∧ Fx.Own w' w.heap.size 59 5 (.slice ga u.gs.length gc) u.gs.length (grsX u.gs) ∧ Below w.heap.size w w' := by
  have h := s_join a b ana anc aga agc bna bnc bga bgc w ha hb
  rw [hj] at h; exact h
theorem joinE_w {a b u : SnM} {ev : Int} {w : World} {B : Nat} {na ga : Option Addr} {nc gc : Nat} (ra : SnR a) (rb : SnR b) (hj : joinS a b = (u, ev)) (hn : Fx.Own w B 50 56 (.slice na u.ns.length nc) u.ns.length (ndsX u.ns)) (hg : Fx.Own w B 59 5 (.slice ga u.gs.length gc) u.gs.length (grsX u.gs)) : StW w u na nc ga gc := by
  have h1 := joinS_r ra rb
  have h2 := @joinS_l a b
  rw [hj] at h1 h2
  exact ⟨h1, Nat.le_trans h2.1 (by decide), Nat.le_trans h2.2 (by decide), hn.arr, hg.arr, hn.le, hg.le⟩
theorem s_less (a b : SnM) (ana : Option Addr) (anc : Nat) (aga : Option Addr) (agc : Nat) (bna : Option Addr) (bnc : Nat) (bga : Option Addr) (bgc : Nat) (w : World) (ha : StW w a ana anc aga agc) (hb : StW w b bna bnc bga bgc) :
    Calls Try.prog 17 #[.agg (Fx.varr 20 (stY (stS a ana anc aga agc))), .agg (Fx.varr 20 (stY (stS b bna bnc bga bgc)))] w fun e w' => e = .returned (.bool (lessS a b)) ∧ Below w.heap.size w w' := by
 obtain ⟨u, ev, hj⟩ : ∃ q r, joinS a b = (q, r) := ⟨_, _, rfl⟩
 have hur : SnR u := by have := joinS_r ha.r hb.r; rw [hj] at this; exact this
 refine Fx.enter Try.func17 rfl (n := 50) rfl (by rfl) ?_
 refine Ws (Wl (Fx.L.box (m := 20) (y := stY (stS a ana anc aga agc)) (by rfl) rfl rfl (Fx.cells_agg _ _) rfl fun g1 w1 eg1 m1 s1 z1 => ?_))
 have b1 := s1.below (Below.refl w.heap.size w) (Below.refl w.heap.size w).size (Below.refl w.heap.size w).size
 have lg1 : w.heap.size ≤ g1 := by rw [eg1]; exact (Below.refl w.heap.size w).size
 have tg1 : g1 < w1.heap.size := m1.lt
 clear eg1
 refine Fx.L.box (m := 20) (y := stY (stS b bna bnc bga bgc)) (by rfl) rfl rfl (Fx.cells_agg _ _) rfl fun g2 w2 eg2 m2 s2 z2 => ?_
 have m3 := m1.stp s2 m1.ne
 have b2 := s2.below b1 b1.size b1.size
 have lg2 : w.heap.size ≤ g2 := by rw [eg2]; exact b1.size
 have ng2m3 : g1 ≠ g2 := by rw [eg2]; exact Nat.ne_of_lt (m1.lt)
 have tg2 : g2 < w2.heap.size := m2.lt
 clear eg2
 refine Lv (.bool false) (x_assign rfl rfl) (Ln (sN (Ws (Wl (Lv (.agg (Fx.varr 20 (stY (stS a ana anc aga agc)))) (x_loadA (x := stY (stS a ana anc aga agc)) (y := stY (stS a ana anc aga agc)) rfl rfl (by kernel_rfl) (by kernel_rfl) m3.cel (i := 0) (by omega) (by omega) (fun j _ => by rw [Nat.zero_add])) (Lv (.agg (Fx.varr 20 (stY (stS b bna bnc bga bgc)))) (x_loadA (x := stY (stS b bna bnc bga bgc)) (y := stY (stS b bna bnc bga bgc)) rfl rfl (by kernel_rfl) (by kernel_rfl) m2.cel (i := 0) (by omega) (by omega) (fun j _ => by rw [Nat.zero_add])) (Fx.L.call (by rfl) (rC (args := [.agg (Fx.varr 20 (stY (stS a ana anc aga agc))), .agg (Fx.varr 20 (stY (stS b bna bnc bga bgc)))]) rfl rfl Try.func8 rfl rfl) rfl ((s_joinE a b ana anc aga agc bna bnc bga bgc u ev _ (ha.up b2) (hb.up b2) hj).mono ?_))))))))
 rintro e9 w3 ⟨una, unc, uga, ugc, he, hon1, hog1, hb1⟩
 refine ⟨_, he, ?_⟩
 clear he
 have s3 := Sb hb1
 have m4 := m3.stp s3 m3.ne
 have m5 := m2.stp s3 m2.ne
 have b3 := s3.below b2 b2.size b2.size
 have m6 : Fx.Own w3 w.heap.size 50 56 (.slice una (u.ns.length) (unc)) u.ns.length (ndsX u.ns) := hon1.mono b2.size
 have m7 : Fx.Own w3 w.heap.size 59 5 (.slice uga (u.gs.length) (ugc)) u.gs.length (grsX u.gs) := hog1.mono b2.size
 refine Lv (.tuple #[.agg (Fx.varr 20 (stY (stS u una unc uga ugc))), .int .i64 (ev)]) (x_move rfl rfl) (Lv (.agg (Fx.varr 20 (stY (stS u una unc uga ugc)))) (Fx.x_extract rfl rfl rfl) (Lv (.int .i64 (ev)) (Fx.x_extract rfl rfl rfl) (Fx.L.new (m := 20) (y := fun i => (#[.bool false, .bool false, .bool false, .bool false, .bool false, .bool false, .bool false, .bool false, .bool false, .bool false, .bool false, .bool false, .int .u64 (0), .int .u64 (0), .int .u64 (0), .int .u64 (0), .int .u64 (0), .int .u64 (0), .slice none 0 0, .slice none 0 0] : Array Value).getD i undef) (by rfl) rfl (by kernel_rfl) rfl fun g3 w4 eg3 m8 s4 z3 => ?_)))
 have m9 := m4.stp s4 m4.ne
 have m10 := m5.stp s4 m5.ne
 have m11 := m6.stp s4 (m6.notNew (Nat.le_refl _))
 have m12 := m7.stp s4 (m7.notNew (Nat.le_refl _))
 have b4 := s4.below b3 b3.size b3.size
 have lg3 : w.heap.size ≤ g3 := by rw [eg3]; exact b3.size
 have ng3m9 : g1 ≠ g3 := by rw [eg3]; exact Nat.ne_of_lt (m4.lt)
 have ng3m10 : g2 ≠ g3 := by rw [eg3]; exact Nat.ne_of_lt (m5.lt)
 have tg3 : g3 < w4.heap.size := m8.lt
 clear eg3
 refine Fx.L.storeA (x := fun i => (#[.bool false, .bool false, .bool false, .bool false, .bool false, .bool false, .bool false, .bool false, .bool false, .bool false, .bool false, .bool false, .int .u64 (0), .int .u64 (0), .int .u64 (0), .int .u64 (0), .int .u64 (0), .int .u64 (0), .slice none 0 0, .slice none 0 0] : Array Value).getD i undef) (y := stY (stS u una unc uga ugc)) (by rfl) rfl rfl rfl rfl (fun j _ => stY_one _ j) (by kernel_rfl) m8 (i := 0) (by omega) fun w5 m13 s5 z4 => ?_
 have m14 : Fx.Blk w5 g3 20 (stY (stS u una unc uga ugc)) 29 := Fx.ovr_all m13
 have m15 := m9.stp s5 (by omega)
 have m16 := m10.stp s5 (by omega)
 have hct1 := Fx.ChT.of_stp s5 m8.ty
 have m17 := m11.chT hct1 (by decide)
 have m18 := m12.chT hct1 (by decide)
 have b5 := s5.below b4 b4.size (by omega)
 refine Lv (.int .i64 (ev)) (x_assign rfl rfl) (Ln (sN (Ws (Wl (Lv (.int .i64 (ev)) (x_move rfl rfl) ?_)))))
 by_cases c14 : ev = 0
 ·refine Lv (.bool true) (x_eqlT rfl rfl rfl c14) (Lv (.bool true) (x_move rfl rfl) (Lv ((pt g3)) (x_field rfl rfl Try.underlying29 rfl (s := 6) (by kernel_rfl) rfl rfl) (Lv (.agg (Fx.varr 6 (fun j => Value.bool (u.inn j)))) (x_loadA (x := stY (stS u una unc uga ugc)) (y := fun j => Value.bool (u.inn j)) rfl rfl (by kernel_rfl) (by kernel_rfl) m14.cel (i := 0) (by omega) (by omega) (fun j hj => by rw [Nat.zero_add]; exact stY_in _ hj)) (Lv ((pt g2)) (x_field rfl rfl Try.underlying29 rfl (s := 6) (by kernel_rfl) rfl rfl) (Lv (.agg (Fx.varr 6 (fun j => Value.bool (b.inn j)))) (x_loadA (x := stY (stS b bna bnc bga bgc)) (y := fun j => Value.bool (b.inn j)) rfl rfl (by kernel_rfl) (by kernel_rfl) m16.cel (i := 0) (by omega) (by omega) (fun j hj => by rw [Nat.zero_add]; exact stY_in _ hj)) ?_)))))
  by_cases c20 : ∀ i, i < 6 → (fun j => Value.bool (u.inn j)) i = (fun j => Value.bool (b.inn j)) i
  ·refine Lv (.bool true) (Fx.x_eqlA (n := 6) (ks := List.replicate 6 none) (X := fun j => Value.bool (u.inn j)) (Y := fun j => Value.bool (b.inn j)) 12 true rfl rfl rfl (Fx.yesb c20) (kdB _) (kdB _) rfl (by kernel_rfl) (by kernel_rfl) (by kernel_rfl) (by kernel_rfl) (by kernel_rfl)) (Lv (.bool true) (x_pickT rfl rfl rfl) (Lv (.bool true) (x_move rfl rfl) (Lv ((pf g3 6)) (x_field rfl rfl Try.underlying29 rfl (s := 6) (by kernel_rfl) rfl (by show _ + 6 = _; omega)) (Lv (.agg (Fx.varr 6 (fun j => Value.bool (u.left j)))) (x_loadA (x := stY (stS u una unc uga ugc)) (y := fun j => Value.bool (u.left j)) rfl rfl (by kernel_rfl) (by kernel_rfl) m14.cel (i := 6) (by omega) (by omega) (fun j hj => stY_left (p := j) _ hj (by omega))) (Lv ((pf g2 6)) (x_field rfl rfl Try.underlying29 rfl (s := 6) (by kernel_rfl) rfl (by show _ + 6 = _; omega)) (Lv (.agg (Fx.varr 6 (fun j => Value.bool (b.left j)))) (x_loadA (x := stY (stS b bna bnc bga bgc)) (y := fun j => Value.bool (b.left j)) rfl rfl (by kernel_rfl) (by kernel_rfl) m16.cel (i := 6) (by omega) (by omega) (fun j hj => stY_left (p := j) _ hj (by omega))) ?_))))))
   by_cases c27 : ∀ i, i < 6 → (fun j => Value.bool (u.left j)) i = (fun j => Value.bool (b.left j)) i
   ·refine Lv (.bool true) (Fx.x_eqlA (n := 6) (ks := List.replicate 6 none) (X := fun j => Value.bool (u.left j)) (Y := fun j => Value.bool (b.left j)) 12 true rfl rfl rfl (Fx.yesb c27) (kdB _) (kdB _) rfl (by kernel_rfl) (by kernel_rfl) (by kernel_rfl) (by kernel_rfl) (by kernel_rfl)) (Lv (.bool true) (x_pickT rfl rfl rfl) (Lv (.bool true) (x_move rfl rfl) (Lv ((pf g3 12)) (x_field rfl rfl Try.underlying29 rfl (s := 6) (by kernel_rfl) rfl (by show _ + 12 = _; omega)) (Lv (.agg (Fx.varr 6 (Fx.rv .u64 u.known))) (x_loadA (x := stY (stS u una unc uga ugc)) (y := Fx.rv .u64 u.known) rfl rfl (by kernel_rfl) (by kernel_rfl) m14.cel (i := 12) (by omega) (by omega) (fun j hj => stY_known (p := j) _ hj (by omega))) (Lv ((pf g2 12)) (x_field rfl rfl Try.underlying29 rfl (s := 6) (by kernel_rfl) rfl (by show _ + 12 = _; omega)) (Lv (.agg (Fx.varr 6 (Fx.rv .u64 b.known))) (x_loadA (x := stY (stS b bna bnc bga bgc)) (y := Fx.rv .u64 b.known) rfl rfl (by kernel_rfl) (by kernel_rfl) m16.cel (i := 12) (by omega) (by omega) (fun j hj => stY_known (p := j) _ hj (by omega))) ?_))))))
    by_cases c34 : ∀ i, i < 6 → (Fx.rv .u64 u.known) i = (Fx.rv .u64 b.known) i
    ·refine Lv (.bool true) (Fx.x_eqlA (n := 6) (ks := List.replicate 6 (some .u64)) (X := Fx.rv .u64 u.known) (Y := Fx.rv .u64 b.known) 12 true rfl rfl rfl (Fx.yesb c34) (Kr.kd hur.k) (Kr.kd hb.r.k) rfl (by kernel_rfl) (by kernel_rfl) (by kernel_rfl) (by kernel_rfl) (by kernel_rfl)) (Lv (.bool true) (x_pickT rfl rfl rfl) (Lv (.bool true) (x_move rfl rfl) (Lv ((pf g3 18)) (x_field rfl rfl Try.underlying29 rfl (s := 1) (by kernel_rfl) rfl (by show _ + 18 = _; omega)) (Lv (.slice una (u.ns.length) (unc)) (x_load1 (x := stY (stS u una unc uga ugc)) rfl rfl (by kernel_rfl) m14.cel (i := 18) (by omega) (by omega) rfl) (Lv ((pf g2 18)) (x_field rfl rfl Try.underlying29 rfl (s := 1) (by kernel_rfl) rfl (by show _ + 18 = _; omega)) (Lv (.slice bna (b.ns.length) (bnc)) (x_load1 (x := stY (stS b bna bnc bga bgc)) rfl rfl (by kernel_rfl) m16.cel (i := 18) (by omega) (by omega) rfl) ?_))))))
     by_cases c41 : (eqN u.ns b.ns) = true
     ·refine Fx.L.call (by rfl) (rC (args := [.slice una (u.ns.length) (unc), .slice bna (b.ns.length) (bnc)]) rfl rfl Try.func55 rfl rfl) rfl ((s_eqN una bna unc bnc u.ns b.ns _ (joinE_w ha.r hb.r hj m17 m18).l1 hb.l1 (joinE_w ha.r hb.r hj m17 m18).n (hb.up b5).n (joinE_w ha.r hb.r hj m17 m18).r.n hb.r.n).mono ?_)
      rintro e w6 ⟨he, hb2⟩
      refine ⟨.bool true, by rw [he, c41], ?_⟩
      clear he
      have s6 := Sb hb2
      have m20 := m16.stp s6 m16.ne
      have m21 := m17.stp s6 (m17.notNew (Nat.le_refl _))
      have m22 := m18.stp s6 (m18.notNew (Nat.le_refl _))
      have m23 := m14.stp s6 m14.ne
      have b6 := s6.below b5 b5.size b5.size
      refine Lv (.bool true) (x_pickT rfl rfl rfl) (Lv (.bool true) (x_move rfl rfl) (Lv ((pf g3 19)) (x_field rfl rfl Try.underlying29 rfl (s := 1) (by kernel_rfl) rfl (by show _ + 19 = _; omega)) (Lv (.slice uga (u.gs.length) (ugc)) (x_load1 (x := stY (stS u una unc uga ugc)) rfl rfl (by kernel_rfl) m23.cel (i := 19) (by omega) (by omega) rfl) (Lv ((pf g2 19)) (x_field rfl rfl Try.underlying29 rfl (s := 1) (by kernel_rfl) rfl (by show _ + 19 = _; omega)) (Lv (.slice bga (b.gs.length) (bgc)) (x_load1 (x := stY (stS b bna bnc bga bgc)) rfl rfl (by kernel_rfl) m20.cel (i := 19) (by omega) (by omega) rfl) ?_)))))
      by_cases c48 : (eqG u.gs b.gs) = true
      ·refine Fx.L.call (by rfl) (rC (args := [.slice uga (u.gs.length) (ugc), .slice bga (b.gs.length) (bgc)]) rfl rfl Try.func56 rfl rfl) rfl ((s_eqG uga bga ugc bgc u.gs b.gs _ (joinE_w ha.r hb.r hj m21 m22).l2 hb.l2 (joinE_w ha.r hb.r hj m21 m22).g (hb.up b6).g (joinE_w ha.r hb.r hj m21 m22).r.g hb.r.g).mono ?_)
       rintro e w7 ⟨he, hb3⟩
       refine ⟨.bool true, by rw [he, c48], ?_⟩
       clear he
       have s7 := Sb hb3
       have b7 := s7.below b6 b6.size b6.size
       refine Lv (.bool true) (x_pickT rfl rfl rfl) (Lv (.bool true) (x_assign rfl rfl) (Ln (sN (Wr (⟨.bool true, rV Try.results17 (by exact rfl), ?_⟩)))))
       exact ⟨congrArg (fun q => Ending.returned (Value.bool q)) (Eq.symm (lessS_y hj c14 ⟨same_b.1 c20, same_b.1 c27, same_u.1 c34, (eqN_p c41).1, (eqG_p c48).1, (eqN_p c41).2, (eqG_p c48).2⟩)), b7⟩
      rw [Bool.not_eq_true] at c48
      refine Fx.L.call (by rfl) (rC (args := [.slice uga (u.gs.length) (ugc), .slice bga (b.gs.length) (bgc)]) rfl rfl Try.func56 rfl rfl) rfl ((s_eqG uga bga ugc bgc u.gs b.gs _ (joinE_w ha.r hb.r hj m21 m22).l2 hb.l2 (joinE_w ha.r hb.r hj m21 m22).g (hb.up b6).g (joinE_w ha.r hb.r hj m21 m22).r.g hb.r.g).mono ?_)
      rintro e w8 ⟨he, hb4⟩
      refine ⟨.bool false, by rw [he, c48], ?_⟩
      clear he
      have s8 := Sb hb4
      have b8 := s8.below b6 b6.size b6.size
      refine Lv (.bool false) (x_pickT rfl rfl rfl) (Lv (.bool false) (x_assign rfl rfl) (Ln (sN (Wr (⟨.bool false, rV Try.results17 (by exact rfl), ?_⟩)))))
      exact ⟨congrArg (fun q => Ending.returned (Value.bool q)) (Eq.symm (lessS_n hj (fun h => eqG_q c48 ⟨h.2.gn, h.2.g⟩))), b8⟩
     rw [Bool.not_eq_true] at c41
     refine Fx.L.call (by rfl) (rC (args := [.slice una (u.ns.length) (unc), .slice bna (b.ns.length) (bnc)]) rfl rfl Try.func55 rfl rfl) rfl ((s_eqN una bna unc bnc u.ns b.ns _ (joinE_w ha.r hb.r hj m17 m18).l1 hb.l1 (joinE_w ha.r hb.r hj m17 m18).n (hb.up b5).n (joinE_w ha.r hb.r hj m17 m18).r.n hb.r.n).mono ?_)
     rintro e w9 ⟨he, hb5⟩
     refine ⟨.bool false, by rw [he, c41], ?_⟩
     clear he
     have s9 := Sb hb5
     have b9 := s9.below b5 b5.size b5.size
     refine Lv (.bool false) (x_pickT rfl rfl rfl) (Lv (.bool false) (x_move rfl rfl) (Lk (by rfl) rfl (Lk (by rfl) rfl (Lk (by rfl) rfl (Lk (by rfl) rfl (Lk (by rfl) rfl (Lv (.bool false) (x_pickF rfl rfl rfl) (Lv (.bool false) (x_assign rfl rfl) (Ln (sN (Wr (⟨.bool false, rV Try.results17 (by exact rfl), ?_⟩))))))))))))
     exact ⟨congrArg (fun q => Ending.returned (Value.bool q)) (Eq.symm (lessS_n hj (fun h => eqN_q c41 ⟨h.2.nn, h.2.n⟩))), b9⟩
    refine Lv (.bool false) (Fx.x_eqlA (n := 6) (ks := List.replicate 6 (some .u64)) (X := Fx.rv .u64 u.known) (Y := Fx.rv .u64 b.known) 12 false rfl rfl rfl (Fx.nob c34) (Kr.kd hur.k) (Kr.kd hb.r.k) rfl (by kernel_rfl) (by kernel_rfl) (by kernel_rfl) (by kernel_rfl) (by kernel_rfl)) (Lv (.bool false) (x_pickT rfl rfl rfl) (Lv (.bool false) (x_move rfl rfl) (Lk (by rfl) rfl (Lk (by rfl) rfl (Lk (by rfl) rfl (Lk (by rfl) rfl (Lk (by rfl) rfl (Lv (.bool false) (x_pickF rfl rfl rfl) (Lv (.bool false) (x_move rfl rfl) (Lk (by rfl) rfl (Lk (by rfl) rfl (Lk (by rfl) rfl (Lk (by rfl) rfl (Lk (by rfl) rfl (Lv (.bool false) (x_pickF rfl rfl rfl) (Lv (.bool false) (x_assign rfl rfl) (Ln (sN (Wr (⟨.bool false, rV Try.results17 (by exact rfl), ?_⟩))))))))))))))))))))
    exact ⟨congrArg (fun q => Ending.returned (Value.bool q)) (Eq.symm (lessS_n hj (fun h => c34 (same_u.2 h.2.known)))), b5⟩
   refine Lv (.bool false) (Fx.x_eqlA (n := 6) (ks := List.replicate 6 none) (X := fun j => Value.bool (u.left j)) (Y := fun j => Value.bool (b.left j)) 12 false rfl rfl rfl (Fx.nob c27) (kdB _) (kdB _) rfl (by kernel_rfl) (by kernel_rfl) (by kernel_rfl) (by kernel_rfl) (by kernel_rfl)) (Lv (.bool false) (x_pickT rfl rfl rfl) (Lv (.bool false) (x_move rfl rfl) (Lk (by rfl) rfl (Lk (by rfl) rfl (Lk (by rfl) rfl (Lk (by rfl) rfl (Lk (by rfl) rfl (Lv (.bool false) (x_pickF rfl rfl rfl) (Lv (.bool false) (x_move rfl rfl) (Lk (by rfl) rfl (Lk (by rfl) rfl (Lk (by rfl) rfl (Lk (by rfl) rfl (Lk (by rfl) rfl (Lv (.bool false) (x_pickF rfl rfl rfl) (Lv (.bool false) (x_move rfl rfl) (Lk (by rfl) rfl (Lk (by rfl) rfl (Lk (by rfl) rfl (Lk (by rfl) rfl (Lk (by rfl) rfl (Lv (.bool false) (x_pickF rfl rfl rfl) (Lv (.bool false) (x_assign rfl rfl) (Ln (sN (Wr (⟨.bool false, rV Try.results17 (by exact rfl), ?_⟩)))))))))))))))))))))))))))
   exact ⟨congrArg (fun q => Ending.returned (Value.bool q)) (Eq.symm (lessS_n hj (fun h => c27 (same_b.2 h.2.left)))), b5⟩
  refine Lv (.bool false) (Fx.x_eqlA (n := 6) (ks := List.replicate 6 none) (X := fun j => Value.bool (u.inn j)) (Y := fun j => Value.bool (b.inn j)) 12 false rfl rfl rfl (Fx.nob c20) (kdB _) (kdB _) rfl (by kernel_rfl) (by kernel_rfl) (by kernel_rfl) (by kernel_rfl) (by kernel_rfl)) (Lv (.bool false) (x_pickT rfl rfl rfl) (Lv (.bool false) (x_move rfl rfl) (Lk (by rfl) rfl (Lk (by rfl) rfl (Lk (by rfl) rfl (Lk (by rfl) rfl (Lk (by rfl) rfl (Lv (.bool false) (x_pickF rfl rfl rfl) (Lv (.bool false) (x_move rfl rfl) (Lk (by rfl) rfl (Lk (by rfl) rfl (Lk (by rfl) rfl (Lk (by rfl) rfl (Lk (by rfl) rfl (Lv (.bool false) (x_pickF rfl rfl rfl) (Lv (.bool false) (x_move rfl rfl) (Lk (by rfl) rfl (Lk (by rfl) rfl (Lk (by rfl) rfl (Lk (by rfl) rfl (Lk (by rfl) rfl (Lv (.bool false) (x_pickF rfl rfl rfl) (Lv (.bool false) (x_move rfl rfl) (Lk (by rfl) rfl ?_))))))))))))))))))))))))
  refine Lk (by rfl) rfl (Lk (by rfl) rfl (Lk (by rfl) rfl (Lk (by rfl) rfl (Lv (.bool false) (x_pickF rfl rfl rfl) (Lv (.bool false) (x_assign rfl rfl) (Ln (sN (Wr (⟨.bool false, rV Try.results17 (by exact rfl), ?_⟩)))))))))
  exact ⟨congrArg (fun q => Ending.returned (Value.bool q)) (Eq.symm (lessS_n hj (fun h => c20 (same_b.2 h.2.inn)))), b5⟩
 refine Lv (.bool false) (x_eqlF rfl rfl rfl c14) (Lv (.bool false) (x_move rfl rfl) (Lk (by rfl) rfl (Lk (by rfl) rfl (Lk (by rfl) rfl (Lk (by rfl) rfl (Lk (by rfl) rfl (Lv (.bool false) (x_pickF rfl rfl rfl) (Lv (.bool false) (x_move rfl rfl) (Lk (by rfl) rfl (Lk (by rfl) rfl (Lk (by rfl) rfl (Lk (by rfl) rfl (Lk (by rfl) rfl (Lv (.bool false) (x_pickF rfl rfl rfl) (Lv (.bool false) (x_move rfl rfl) (Lk (by rfl) rfl (Lk (by rfl) rfl (Lk (by rfl) rfl (Lk (by rfl) rfl (Lk (by rfl) rfl (Lv (.bool false) (x_pickF rfl rfl rfl) (Lv (.bool false) (x_move rfl rfl) (Lk (by rfl) rfl (Lk (by rfl) rfl ?_))))))))))))))))))))))))
 refine Lk (by rfl) rfl (Lk (by rfl) rfl (Lk (by rfl) rfl (Lv (.bool false) (x_pickF rfl rfl rfl) (Lv (.bool false) (x_move rfl rfl) (Lk (by rfl) rfl (Lk (by rfl) rfl (Lk (by rfl) rfl (Lk (by rfl) rfl (Lk (by rfl) rfl (Lv (.bool false) (x_pickF rfl rfl rfl) (Lv (.bool false) (x_assign rfl rfl) (Ln (sN (Wr (⟨.bool false, rV Try.results17 (by exact rfl), ?_⟩)))))))))))))))
 exact ⟨congrArg (fun q => Ending.returned (Value.bool q)) (Eq.symm (lessS_n hj (fun h => c14 h.1))), b5⟩
end Go.Proofs.Ytcbedgfikejkoaa
namespace Go.Proofs.Ytcbedgfikejkoaa.Fx
open Go.RowKit
section
variable {P : Program} {n : Nat} {ops : List Oper} {cs : List Nat} {S : World → World → Prop} {Q : Post}
def certB (ops : List Oper) (certs : List (Nat × Nat × List Nat)) (j i : Nat) : Bool := certs.any fun c => Nat.beq c.1 j && Nat.beq c.2.1 i && pathB ops j c.2.2 i
def candB (ops : List Oper) (cs : List Nat) (certs : List (Nat × Nat × List Nat)) (rem : List Nat) (e : Nat) : Bool := !stillC (cs.getD e 3) && rem.all fun x => Nat.beq x e || !certB ops certs e x
def RA (P : Program) (n : Nat) (ops : List Oper) (cs : List Nat) (certs : List (Nat × Nat × List Nat)) (S : World → World → Prop) (Q : Post) : Nat → List Nat → (Nat → Value) → World → Prop
  | 0, _, _, _ => False
  | _ + 1, [], f, w => Q .normal f w
  | k + 1, i :: l, f, w => (stillC (cs.getD i 3) = true → R P n ops cs S (fun _ f w => RA P n ops cs certs S Q k l f w) [i] f w) ∧
    (stillC (cs.getD i 3) = false → ∀ e, e ∈ i :: l → candB ops cs certs (i :: l) e = true → R P n ops cs S (fun _ f w => RA P n ops cs certs S Q k ((i :: l).erase e) f w) [e] f w)
def pairA (ops : List Oper) (cs : List Nat) (certs : List (Nat × Nat × List Nat)) (i j : Nat) : Bool := pairOk ops cs certs i j || (!isAfter (opAt ops i) j && !stillC (cs.getD i 3) && !stillC (cs.getD j 3))
def pairsA (ops : List Oper) (cs : List Nat) (certs : List (Nat × Nat × List Nat)) : List Nat → Bool
  | [] => true
  | i :: l => l.all (pairA ops cs certs i) && pairsA ops cs certs l
theorem pairsA_pw {certs : List (Nat × Nat × List Nat)} : ∀ {l : List Nat}, pairsA ops cs certs l = true → l.Pairwise fun i j => pairA ops cs certs i j = true
  | [], _ => List.Pairwise.nil
  | i :: l, h => by
    unfold pairsA at h
    rw [Bool.and_eq_true, List.all_eq_true] at h
    exact List.Pairwise.cons h.1 (pairsA_pw h.2)
theorem R.monoQ {Q' : Post} (hQ : ∀ f w, Q .normal f w → Q' .normal f w) : ∀ {l : List Nat} {f : Nat → Value} {w : World}, R P n ops cs S Q l f w → R P n ops cs S Q' l f w
  | [], f, w, h => by unfold R at h ⊢; exact hQ f w h
  | _ :: _, f, w, h => by
    unfold R at h ⊢
    rcases h with ⟨h1, h2⟩ | ⟨h1, ⟨h2, v, h3, h4⟩ | ⟨h2, h3⟩⟩
    · exact .inl ⟨h1, R.monoQ hQ h2⟩
    · exact .inr ⟨h1, .inl ⟨h2, v, h3, R.monoQ hQ h4⟩⟩
    · exact .inr ⟨h1, .inr ⟨h2, h3.mono fun v w' hv => ⟨hv.1, R.monoQ hQ hv.2⟩⟩⟩
theorem R.two {i : Nat} {l : List Nat} {f : Nat → Value} {w : World} : R P n ops cs S (fun _ f w => R P n ops cs S Q l f w) [i] f w ↔ R P n ops cs S Q (i :: l) f w := by simp only [R]
theorem pairA_of {certs : List (Nat × Nat × List Nat)} {i j : Nat} (h : pairA ops cs certs i j = true) : isAfter (opAt ops i) j = false := by
  unfold pairA pairOk at h
  cases hq : isAfter (opAt ops i) j with
  | false => rfl
  | true => rw [hq] at h; simp at h
theorem RA.pull (hok : opsOkR n ops = true) (hsel : Region.noSelect ops.toArray = true) (hS : ∀ w, S w w) (hT : ∀ a b c, S a b → S b c → S a c) {certs : List (Nat × Nat × List Nat)} {j : Nat} : ∀ (l : List Nat) (k : Nat), l.length ≤ k → j ∈ l → (∀ i ∈ l, i < ops.length) → l.Nodup → (l.Pairwise fun i j => pairA ops cs certs i j = true) →
    (∀ i ∈ l, i ≠ j → isAfter (opAt ops j) i = false ∧ certB ops certs j i = false) → ∀ f w, RA P n ops cs certs S Q (k + 1) l f w → R P n ops cs S (fun _ f w => RA P n ops cs certs S Q k (l.erase j) f w) [j] f w := by
  intro l
  induction l with
  | nil => intro k _ hj; cases hj
  | cons i l ih =>
    intro k hk hj hlt hnd hpw hun f w h
    have cand : stillC (cs.getD j 3) = false → candB ops cs certs (i :: l) j = true := fun hs => by
      unfold candB
      rw [hs, Bool.not_false, Bool.true_and, List.all_eq_true]
      intro x hx
      by_cases e : x = j
      · rw [e, Nat.beq_refl]; rfl
      · rw [(hun x hx e).2]; simp
    unfold RA at h
    by_cases e : i = j
    · subst e
      rw [List.erase_cons_head]
      cases hs : stillC (cs.getD i 3) with
      | true => exact h.1 hs
      | false => have := h.2 hs i (List.mem_cons_self ..) (cand hs); rw [List.erase_cons_head] at this; exact this
    · have hjl : j ∈ l := (List.mem_cons.1 hj).resolve_left (fun q => e q.symm)
      have hp := (List.pairwise_cons.1 hpw).1 j hjl
      have hne := hun i (List.mem_cons_self ..) e
      have hpa := pairA_of hp
      rw [List.erase_cons_tail (by simpa using e)]
      cases hs : stillC (cs.getD i 3) with
      | false =>
        have hsj : stillC (cs.getD j 3) = false := by
          cases hq : stillC (cs.getD j 3) with
          | false => rfl
          | true =>
            unfold pairA pairOk at hp
            unfold certB at hne
            rw [hs, hq, hne.2] at hp; simp at hp
        have := h.2 hs j hj (cand hsj)
        rw [List.erase_cons_tail (by simpa using e)] at this
        exact this
      | true =>
        cases k with
        | zero => simp at hk
        | succ k =>
          have h1 := h.1 hs
          have h2 : R P n ops cs S (fun _ f w => RA P n ops cs certs S Q k (l.erase j) f w) [i, j] f w := R.two.1 (R.monoQ (fun f w hq => ih k (by simpa using hk) hjl (fun x hx => hlt x (List.mem_cons_of_mem _ hx)) (List.nodup_cons.1 hnd).2 (List.pairwise_cons.1 hpw).2 (fun x hx => hun x (List.mem_cons_of_mem _ hx)) f w hq) h1)
          have h3 := swapR hok hsel (hlt i (List.mem_cons_self ..)) (hlt j hj) e hne.1 hpa hS hT hs (by
            unfold pairA pairOk at hp
            have hc := hne.2
            unfold certB at hc
            rw [hs, hc] at hp
            simp only [Bool.or_false, Bool.not_true, Bool.and_false, Bool.false_and, Bool.true_and, Bool.and_eq_true, Bool.or_eq_true] at hp
            rcases hp.2 with (q | q) | q
            · exact .inl (Nat.eq_of_beq_eq_true q)
            · exact .inr (.inl q)
            · exact .inr (.inr ⟨Nat.eq_of_beq_eq_true q.1, Nat.eq_of_beq_eq_true q.2⟩)) h2
          refine R.monoQ (fun f w hq => ?_) (R.two.2 h3)
          unfold RA
          exact ⟨fun _ => hq, fun hf => by rw [hs] at hf; cases hf⟩
theorem RA.any (hok : opsOkR n ops = true) (hsel : Region.noSelect ops.toArray = true) (hS : ∀ w, S w w) (hT : ∀ a b c, S a b → S b c → S a c) {certs : List (Nat × Nat × List Nat)} : ∀ (k : Nat) (rem : List Nat) (listed : Array Bool) (a : Act) (f : Nat → Value) (w : World), rem.length = k → listed.size = ops.length → Clo ops.toArray .any listed →
    (∀ i, i ∈ rem ↔ i < ops.length ∧ listed.getD i false = false) → rem.Nodup → (rem.Pairwise fun i j => pairA ops cs certs i j = true) → Fr a n f → RA P n ops cs certs S Q (k + 1) rem f w → wpAny P .any ops.toArray (lift n Q) k listed a w := by
  intro k
  induction k with
  | zero =>
    intro rem listed a f w hl hsz hclo hmem hnd hpw ha h
    have : rem = [] := List.eq_nil_of_length_eq_zero hl
    subst this
    refine ⟨?_, f, ha, by unfold RA at h; exact h⟩
    rw [List.eq_nil_iff_forall_not_mem]
    intro j hj
    obtain ⟨h1, h2, _, _⟩ := ready_after hj
    exact absurd ((hmem j).2 ⟨h2, h1⟩) (by simp)
  | succ k ih =>
    intro rem listed a f w hl hsz hclo hmem hnd hpw ha h
    refine ⟨fun hr => ?_, fun j hj => ?_⟩
    · cases rem with
      | nil => simp at hl
      | cons r rem' =>
        exfalso
        obtain ⟨h1, h2⟩ := (hmem r).1 (List.mem_cons_self ..)
        have : r ∈ Region.ready .any ops.toArray listed := by
          refine mem_ready.2 ⟨getD_in (by omega) h2, opAt ops r, by unfold opAt; rw [List.getElem?_toArray, List.getD_eq_getElem?_getD, List.getElem?_eq_getElem h1]; rfl, fun e he hb => ?_⟩
          have haf : isAfter (opAt ops r) e.on = true := by
            unfold isAfter; rw [Array.any_eq_true']; exact ⟨e, he, by rw [hb, Nat.beq_refl]; rfl⟩
          have hlt := (opsOkR_at hok h1).2.2.2 e.on haf
          cases hle : listed.getD e.on false with
          | true => rfl
          | false =>
            have hm := (hmem e.on).2 ⟨by omega, hle⟩
            rcases List.mem_cons.1 hm with e1 | e1
            · omega
            · have hp := pairA_of ((List.pairwise_cons.1 hpw).1 _ e1)
              rw [haf] at hp; cases hp
        rw [hr] at this; simp at this
    · obtain ⟨h1, h2, h3, h4⟩ := ready_after hj
      have hjm := (hmem j).2 ⟨h2, h1⟩
      have hb := RA.pull (P := P) (cs := cs) (S := S) (Q := Q) hok hsel hS hT rem (k + 1) (by omega) hjm (fun i hi => ((hmem i).1 hi).1) hnd hpw (fun i hi hne => by
        have h6 := ((hmem i).1 hi).2
        refine ⟨?_, ?_⟩
        · cases hq : isAfter (opAt ops j) i with
          | false => rfl
          | true => have := h4 i hq; rw [h6] at this; cases this
        · cases hp : certB ops certs j i with
          | false => rfl
          | true =>
            exfalso
            unfold certB at hp
            rw [List.any_eq_true] at hp
            obtain ⟨c, _, hc⟩ := hp
            rw [Bool.and_eq_true, Bool.and_eq_true] at hc
            obtain ⟨m, hm⟩ := pathB_reach hc.2
            cases m with
            | zero => unfold reach at hm; simp at hm; exact hne hm.symm
            | succ m =>
              unfold reach at hm
              rw [Bool.or_eq_true] at hm
              rcases hm with hm | hm
              · simp at hm; exact hne hm.symm
              · rw [h3] at hm
                simp only at hm
                rw [Array.any_eq_true'] at hm
                obtain ⟨e, he, hm⟩ := hm
                rw [Bool.and_eq_true] at hm
                have haf : isAfter (opAt ops j) e.on = true := by
                  unfold isAfter; rw [Array.any_eq_true']; exact ⟨e, he, by rw [hm.1, Nat.beq_refl]; rfl⟩
                have := hclo.reach _ _ hm.2 (h4 e.on haf)
                rw [h6] at this; cases this) f w h
      have hmem' : ∀ i, i ∈ rem.erase j ↔ i < ops.length ∧ (listed.setIfInBounds j true).getD i false = false := fun i => by
        rw [hnd.mem_erase_iff]
        by_cases e : j = i
        · subst e
          rw [set_self (by omega)]
          exact ⟨fun q => absurd rfl q.1, fun q => by cases q.2⟩
        · rw [set_other e, ← hmem i]
          exact ⟨fun q => q.2, fun q => ⟨fun c => e c.symm, q⟩⟩
      have next : ∀ (v : Value) (w' : World), RA P n ops cs certs S Q (k + 1) (rem.erase j) (put f (opAt ops j).dst v) w' → wpAny P .any ops.toArray (lift n Q) k (listed.setIfInBounds j true) (a.put (opAt ops j).dst v) w' := fun v w' hR =>
        ih (rem.erase j) _ _ _ w' (by rw [List.length_erase_of_mem hjm]; omega) (by simp [hsz]) (hclo.set hj) hmem' (hnd.erase j) (hpw.sublist (List.erase_sublist ..)) (ha.put (by
          cases hd : (opAt ops j).dst with
          | none => rfl
          | some d => have := ((opsOkR_at hok h2).1 d hd).2; simpa [inn, Nat.blt_eq] using this) v) hR
      unfold wpOp
      rw [h3]
      simp only
      rw [ha.yf]
      unfold R at hb
      rcases hb with ⟨q1, q2⟩ | ⟨q1, ⟨q2, v, q3, q4⟩ | ⟨q2, q3⟩⟩
      · rw [if_neg (by rw [q1]; decide)]; unfold R at q2; exact next _ _ q2
      · rw [if_pos q1]
        refine .inl (Out.wp (K := fun v' w' => v' = v ∧ w' = w) ha (.inl ⟨v, w, q3 w (.inr (.inr rfl)), rfl, rfl⟩) ?_)
        rintro v' w' ⟨rfl, rfl⟩
        unfold R at q4; exact next _ _ q4
      · rw [if_pos q1]
        exact .inl (Out.wp ha q3 fun v w' hk => next v w' (by have := hk.2; unfold R at this; exact this))
theorem RA.stills {certs : List (Nat × Nat × List Nat)} {k : Nat} {E : List Nat} : ∀ {l : List Nat} {f : Nat → Value} {w : World}, (l.all fun i => stillC (cs.getD i 3)) = true → R P n ops cs S (fun _ f w => RA P n ops cs certs S Q k E f w) l f w → RA P n ops cs certs S Q (l.length + k) (l ++ E) f w
  | [], f, w, _, h => by unfold R at h; rw [List.length_nil, Nat.zero_add]; exact h
  | i :: l, f, w, hs, h => by
    rw [List.all_cons, Bool.and_eq_true] at hs
    rw [List.length_cons, show l.length + 1 + k = (l.length + k) + 1 by omega]
    show RA P n ops cs certs S Q (l.length + k + 1) (i :: (l ++ E)) f w
    unfold RA
    exact ⟨fun _ => R.monoQ (fun f w hq => RA.stills hs.2 hq) (R.two.2 h), fun hf => by rw [hs.1] at hf; cases hf⟩
theorem W.reordA {f : Nat → Value} {w : World} {id : Nat} (l E : List Nat) (cs : List Nat) (S : World → World → Prop) (hS : ∀ w, S w w) (hT : ∀ a b c, S a b → S b c → S a c) (certs : List (Nat × Nat × List Nat)) (hm : P.follows .mixedOrders = true) (hok : opsOkR n ops = true) (hsel : Region.noSelect ops.toArray = true) (hp : permOk ops (l ++ E) = true) (hpp : pairsA ops cs certs (l ++ E) = true) (hst : (l.all fun i => stillC (cs.getD i 3)) = true)
    (h : ∀ w1, Below w.heap.size w w1 → w1.heap.size = w.heap.size → R P n ops cs S (fun _ f w => RA P n ops cs certs S Q (E.length + 1) E f w) l f w1) : W P n (.region id ops.toArray true) Q f w := fun a ha => by
  refine wp_region_any hm ?_
  unfold permOk at hp
  rw [Bool.and_eq_true, Bool.and_eq_true, Bool.and_eq_true, List.all_eq_true, List.all_eq_true] at hp
  obtain ⟨⟨⟨p1, p2⟩, p3⟩, p4⟩ := hp
  have hlen := Nat.eq_of_beq_eq_true p1
  have p3' : (l ++ E).Nodup := of_decide_eq_true p3
  have hl2 : l.length + (E.length + 1) = ops.length + 1 := by rw [← hlen, List.length_append]; omega
  have := RA.any (P := P) (Q := Q) (certs := certs) hok hsel hS hT ops.length (l ++ E) (Array.replicate ops.length false) a f { w with drawn := w.drawn + 1 } hlen (by simp) (Clo.start _ _ _) (fun i => by
    have hg : ∀ i, (Array.replicate ops.length false).getD i false = false := fun i => getD_replicate_false _ _
    constructor
    · intro hi; exact ⟨by simpa [Nat.blt_eq] using p2 i hi, hg i⟩
    · intro hi
      obtain ⟨k, hk, hk2⟩ := List.any_eq_true.1 (p4 i (by simpa using hi.1))
      rw [Nat.eq_of_beq_eq_true hk2]; exact hk) p3' (pairsA_pw hpp) ha (by
      have := RA.stills hst (h { w with drawn := w.drawn + 1 } (Below.refl _ _).drew rfl)
      rw [hl2] at this; exact this)
  simpa using this
theorem RA.nil {certs : List (Nat × Nat × List Nat)} {k : Nat} {f : Nat → Value} {w : World} (h : Q .normal f w) : RA P n ops cs certs S Q (k + 1) [] f w := by unfold RA; exact h
theorem RA.still {certs : List (Nat × Nat × List Nat)} {k i : Nat} {l : List Nat} {f : Nat → Value} {w : World} (hs : stillC (cs.getD i 3) = true) (h : R P n ops cs S (fun _ f w => RA P n ops cs certs S Q k l f w) [i] f w) : RA P n ops cs certs S Q (k + 1) (i :: l) f w := by
  unfold RA; exact ⟨fun _ => h, fun hf => by rw [hs] at hf; cases hf⟩
theorem RA.eff {certs : List (Nat × Nat × List Nat)} {k i : Nat} {l es : List Nat} {f : Nat → Value} {w : World} (hs : stillC (cs.getD i 3) = false) (hes : (i :: l).filter (candB ops cs certs (i :: l)) = es) (h : ∀ e, e ∈ es → R P n ops cs S (fun _ f w => RA P n ops cs certs S Q k ((i :: l).erase e) f w) [e] f w) : RA P n ops cs certs S Q (k + 1) (i :: l) f w := by
  unfold RA; exact ⟨fun hf => (by rw [hs] at hf; cases hf), fun _ e he hc => h e (by rw [← hes]; exact List.mem_filter.2 ⟨he, hc⟩)⟩
theorem RA.one {certs : List (Nat × Nat × List Nat)} {k i : Nat} {l : List Nat} {f : Nat → Value} {w : World} (e : Nat) (r : List Nat) (hs : stillC (cs.getD i 3) = false) (hes : (i :: l).filter (candB ops cs certs (i :: l)) = [e]) (hr : (i :: l).erase e = r) (h : R P n ops cs S (fun _ f w => RA P n ops cs certs S Q k r f w) [e] f w) : RA P n ops cs certs S Q (k + 1) (i :: l) f w :=
  RA.eff hs hes fun e' he => by rw [List.mem_singleton.1 he, hr]; exact h
theorem RA.two {certs : List (Nat × Nat × List Nat)} {k i : Nat} {l : List Nat} {f : Nat → Value} {w : World} (e e2 : Nat) (r r2 : List Nat) (hs : stillC (cs.getD i 3) = false) (hes : (i :: l).filter (candB ops cs certs (i :: l)) = [e, e2]) (hr : (i :: l).erase e = r) (hr2 : (i :: l).erase e2 = r2) (h : R P n ops cs S (fun _ f w => RA P n ops cs certs S Q k r f w) [e] f w) (h2 : R P n ops cs S (fun _ f w => RA P n ops cs certs S Q k r2 f w) [e2] f w) : RA P n ops cs certs S Q (k + 1) (i :: l) f w :=
  RA.eff hs hes fun e' he => by
    rcases List.mem_cons.1 he with q | q
    · rw [q, hr]; exact h
    · rw [List.mem_singleton.1 q, hr2]; exact h2
end
end Go.Proofs.Ytcbedgfikejkoaa.Fx
namespace Go.Proofs.Ytcbedgfikejkoaa.Fx
open Go.RowKit
def Apd (w : World) (B : Nat) (E : TypeId) (a : Option Addr) (n c : Nat) (x : Nat → Value) : Prop := Own w B E 1 (.slice a n c) n x ∨ (n = 4 ∧ c = 4 ∧ ∃ g, a = some ⟨g, 0, none⟩ ∧ B ≤ g ∧ Cel w g 0 4 x)
theorem Cel.to {w : World} {b off n : Nat} {x y : Nat → Value} (h : Cel w b off n x) (e : ∀ j, j < n → x j = y j) : Cel w b off n y := fun i hi => by rw [← e i hi]; exact h i hi
theorem Apd.up {w w' : World} {B : Nat} {E : TypeId} {a : Option Addr} {n c : Nat} {x : Nat → Value} (h : Apd w B E a n c x) (hb : Below w.heap.size w w') : Apd w' B E a n c x := by
  rcases h with h | ⟨h1, h2, g, h3, h4, h5⟩
  · exact .inl (h.up hb)
  exact .inr ⟨h1, h2, g, h3, h4, h5.below hb (h5.lt (by omega))⟩
theorem Apd.own {w : World} {B : Nat} {E : TypeId} {a : Option Addr} {n c : Nat} {x : Nat → Value} (h : Apd w B E a n c x) (hn : n ≠ 4) : Own w B E 1 (.slice a n c) n x := h.resolve_right fun q => hn q.1
section
variable {P : Program} {n : Nat} {Q : Post} {f : Nat → Value} {w : World} {ops : Array Oper} {rest : List Oper} {o : Oper}
theorem L.appD {w0 : World} {B k c c2 b2 off2 : Nat} {E T : TypeId} {x y : Nat → Value} {a : Option Addr} {sx xx : Operand} (hw : Region.wanted o (yf ops f) = true) (ho : o.op = .call { callee := .builtin .append, args := #[sx, xx], argTypes := #[T, T] }) (hsx : ev f sx = .slice a k c) (hxx : ev f xx = .slice (some ⟨b2, off2, none⟩) 1 c2)
    (hu : P.underlying T = some (.slice E)) (hi : (P.info? E).map (fun i => (i.size, i.bytes)) = some (1, 1)) (hz : ((P.info? E).bind (·.zero)).map (·.cells.size) = some 1) (hd : inn n o.dst = true)
    (h : Apd w B E a k c x) (hy : Cel w b2 off2 (1 * 1) y) (h1 : ∀ j, j < 1 * 1 → (y j).oneCell' = true) (h63 : k ≤ 100000000) (hB : B ≤ w.heap.size) (hbw : Below B w0 w)
    (hc : ∀ a' c' w', Own w' B E 1 (.slice a' (k + 1) c') (k + 1) (appX x (k * 1) y) → ChT [E] w w' → Below B w0 w' → L P n ops Q rest (put f o.dst (.slice a' (k + 1) c')) w') : L P n ops Q (o :: rest) f w := by
  rcases h with h | ⟨rfl, rfl, g, rfl, hg, hx⟩
  · exact L.app (B := B) (s := 1) (bytes := 1) hw ho hsx hxx hu hi hz (by rfl) hd h hy h1 (by decide) (by omega) (by omega) hB fun g cap w' ho' hgr hv hlt => hc _ _ w' ho' (ChT.of_grown hgr h) (Below.grow hbw hgr hB (fun q hq => (h.ge hq).1))
  exact L.appG (B := B) (s := 1) (bytes := 1) hw ho hsx hxx hu hi hz (by rfl) hd hx hy (by decide) (by decide) (by omega) (by omega) hB fun g' cap w' _ ho' hs => hc _ _ w' ho' (ChT.of_below hs.old) (hs.below hbw hB hB)
end
end Go.Proofs.Ytcbedgfikejkoaa.Fx
namespace Go.Proofs.Ytcbedgfikejkoaa.Fx
open Go.RowKit
section
variable {P : Program} {n0 : Nat} {Q : Post} {f : Nat → Value} {w : World} {ops : Array Oper} {rest : List Oper} {o : Oper}
theorem x_sliceArr {T E : TypeId} {x : Operand} {b off n s : Nat} (ho : o.op = .slice T x none none none) (hx : ev f x = .pointer (some ⟨b, off, none⟩)) (hu : P.underlying T = some (.array n E)) (hs : (P.info? E).map (·.size) = some s) :
    Runs P f o w (.slice (some ⟨b, off, none⟩) n n) := by
  obtain ⟨i, hi', hs'⟩ := Option.map_eq_some_iff.1 hs
  unfold Runs execOp
  simp only [ho, hx, Option.map_none]
  by_cases h : n = 0
  · subst h; simp [Instr.sliceAt, Instr.sureAddr, underlying, hu, Instr.sliceBounds, sizeOf, typeInfo, hi']
  simp [Instr.sliceAt, Instr.sureAddr, underlying, hu, Instr.sliceBounds, sizeOf, typeInfo, hi', Addr.add, hs']
end
end Go.Proofs.Ytcbedgfikejkoaa.Fx
namespace Go.Proofs.Ytcbedgfikejkoaa
open Go.RowKit Rt
open Fx (x_move x_assign x_field x_load1 x_pickF x_pickT x_nil x_conv x_indexS x_index x_leqF x_loadA x_len x_gtrF x_build x_eqlF x_eqlT Lv sN Ln Ws Qv Wl Rp Wc Qs Wr Sb Lk Wk rC rV sR)
set_option linter.unusedVariables false
namespace Rt
def rowsX (g o : Nat) : Nat → Value := fun q => .slice (some ⟨g, o + 6 * q, none⟩) 6 6
theorem rows_app {g o p i : Nat} {z : Nat → Value} (hp : p = o + 6 * (i + 3)) : ∀ q, q < (i + 3 + 1) * 1 → Fx.appX (rowsX g o) ((i + 3) * 1) (Fx.ovr z (0 * 1) 1 (fun _ => .slice (some ⟨g, p, none⟩) 6 6)) q = rowsX g o q := fun q hq => by
  subst hp
  unfold Fx.appX
  by_cases c : q < (i + 3) * 1
  · rw [if_pos c]
  · have e : q = i + 3 := by omega
    subst e
    rw [if_neg c]; unfold Fx.ovr; rw [if_pos ⟨by omega, by omega⟩]; rfl
end Rt
theorem s_rows (g o : Nat) (w : World) :
    Calls Try.prog 31 #[(pf g o)] w fun e w' => ∃ a c, e = .returned (.slice a 9 c) ∧ Fx.Own w' w.heap.size 73 1 (.slice a 9 c) 9 (rowsX g o) ∧ Below w.heap.size w w' := by
 refine Fx.enter Try.func31 rfl (n := 32) rfl (by rfl) ?_
 refine Ws (Wl (Lv (.slice none 0 0) (x_assign rfl rfl) (Ln (sN (Ws ?_)))))
 -- region 1 draws
 refine Fx.W.reord [0, 1, 2, 3, 4, 5, 6, 7, 8, 9, 10, 11, 12, 13] [0, 0, 0, 0, 0, 0, 0, 0, 0, 0, 0, 0, 2, 0] Fx.Mk Fx.Mk.refl Fx.Mk.trans (certs := [(13, 12, [12])]) (by kernel_rfl) (by kernel_rfl) (by kernel_rfl) (by kernel_rfl) (by kernel_rfl) fun wt1 hbwt1 hzwt1 => ?_
 have s1 : Fx.Stp w.heap.size w wt1 := Sb hbwt1
 have b1 := s1.below (Below.refl w.heap.size w) (Below.refl w.heap.size w).size (Below.refl w.heap.size w).size
 refine Rp ((pf g o)) (fun v1 => x_move rfl rfl) (Rp ((pf g o)) (fun v1 => x_nil rfl rfl) (Rp ((pf g o)) (fun v1 => x_field rfl rfl Try.underlying48 rfl (s := 6) (by kernel_rfl) rfl rfl) (Rp (.slice (some ⟨g, o, none⟩) (6) (6)) (fun v1 => Fx.x_sliceArr rfl rfl Try.underlying45 (s := 1) (by kernel_rfl)) (Rp ((pf g o)) (fun v1 => x_move rfl rfl) (Rp ((pf g o)) (fun v1 => x_nil rfl rfl) (Rp ((pf g (o + 6))) (fun v1 => x_field rfl rfl Try.underlying48 rfl (s := 6) (by kernel_rfl) rfl (by show _ + 6 = _; omega)) (Rp (.slice (some ⟨g, o + 6, none⟩) (6) (6)) (fun v1 => Fx.x_sliceArr rfl rfl Try.underlying45 (s := 1) (by kernel_rfl)) (Rp ((pf g o)) (fun v1 => x_move rfl rfl) (Rp ((pf g o)) (fun v1 => x_nil rfl rfl) (Rp ((pf g (o + 12))) (fun v1 => x_field rfl rfl Try.underlying48 rfl (s := 6) (by kernel_rfl) rfl (by show _ + 12 = _; omega)) (Rp (.slice (some ⟨g, o + 12, none⟩) (6) (6)) (fun v1 => Fx.x_sliceArr rfl rfl Try.underlying45 (s := 1) (by kernel_rfl)) (Fx.R.make (by rfl) ?_))))))))))))
 refine Fx.L.bslice (vs := [(0, .slice (some ⟨g, o, none⟩) (6) (6)), (1, .slice (some ⟨g, o + 6, none⟩) (6) (6)), (2, .slice (some ⟨g, o + 12, none⟩) (6) (6))]) (s := 1) (zc := fun _ => .slice none 0 0) (y := Fx.ovr (Fx.ovr (Fx.ovr (fun j => .slice none 0 0) (0 * 1) 1 (fun _ => .slice (some ⟨g, o, none⟩) (6) (6))) (1 * 1) 1 (fun _ => .slice (some ⟨g, o + 6, none⟩) (6) (6))) (2 * 1) 1 (fun _ => .slice (some ⟨g, o + 12, none⟩) (6) (6))) (by rfl) rfl rfl Try.underlying70 (by kernel_rfl) (by rfl) (by rfl) (by kernel_rfl) (by rw [Fx.fill_step (off := 0 * 1) (s := 1) (y := fun _ => .slice (some ⟨g, o, none⟩) (6) (6)) rfl (Fx.cells_one (by rfl)) (by rfl)]; rw [Fx.fill_step (off := 1 * 1) (s := 1) (y := fun _ => .slice (some ⟨g, o + 6, none⟩) (6) (6)) rfl (Fx.cells_one (by rfl)) (by rfl)]; rw [Fx.fill_step (off := 2 * 1) (s := 1) (y := fun _ => .slice (some ⟨g, o + 12, none⟩) (6) (6)) rfl (Fx.cells_one (by rfl)) (by rfl)]; rfl) rfl fun g1 w1 eg1 m1 s2 z1 => ?_
 have b2 := s2.below b1 b1.size b1.size
 have lg1 : w.heap.size ≤ g1 := by rw [eg1]; exact b1.size
 have tg1 : g1 < w1.heap.size := m1.lt
 clear eg1
 refine Ln ⟨s2.old, ?_⟩
 refine Rp (.slice (some ⟨g1, 0, none⟩) (3) (3)) (fun v1 => x_assign rfl rfl) (Fx.R.nil (sN (Ws (Ws ?_))))
 have m2 : Fx.Own w1 w.heap.size 73 1 (.slice (some ⟨g1, 0, none⟩) 3 3) 3 (rowsX g o) := Fx.Blk.own (cap := 3) m1 lg1 (by omega) (by decide) (fun p hp => match p, hp with | 0, _ => rfl | 1, _ => rfl | 2, _ => rfl | p + 3, h => absurd h (by omega))
 refine Wl (Lv (.int .i64 (0)) (x_move rfl rfl) (Ln (sN (Fx.W.block (Fx.W.loop (fun f w_ => ∃ i : Nat, ∃ ao : Option Addr, ∃ co : Nat, i ≤ 6 ∧ f 0 = (pf g o) ∧ f 3 = .slice ao (i + 3) (co) ∧ f 18 = .int .i64 ((i : Int)) ∧ Fx.Own w_ w.heap.size 73 1 (.slice ao (i + 3) (co)) (i + 3) (rowsX g o) ∧ Below w.heap.size w w_) (fun f _ => (6 - (intOf (f 18)).toNat)) ⟨0, (some ⟨g1, 0, none⟩), 3, by omega, (by rfl), (by rfl), Fx.ic, m2, b2⟩ ?_)))))
 rintro f1 w2 ⟨i, ao, co, hi, h1, h2, h3, m3, b3⟩
 refine Ws (Wl ?_)
 by_cases c19 : (i : Int) < 6
 ·refine Lv (.bool true) (Fx.x_lssT rfl h3 rfl c19) (Ln (sN (Ws (Wc (b := true) rfl (fun _ => Wk (sN (Ws (Fx.W.block (Ws (Wl (Lv (.int .i64 ((i : Int))) (x_move rfl h3) ?_))))))) (fun h => nomatch h)))))
  refine Lv (.int .i64 ((i : Int))) (x_assign rfl rfl) (Ln (sN (Wl (Lv (.slice ao (i + 3) (co)) (x_move rfl h2) (Lv ((pf g o)) (x_move rfl h1) (Lv (.int .i64 ((i : Int))) (x_move rfl rfl) (Lv ((pf g o)) (x_nil rfl rfl) (Lv ((pf g (o + 18))) (x_field rfl rfl Try.underlying48 rfl (s := 36) (by kernel_rfl) rfl (by show _ + 18 = _; omega)) (Lv ((pf g (6 * i + o + 18))) (x_index rfl rfl rfl Try.underlying46 (s := 6) (by kernel_rfl) (by omega) (by omega) (by omega)) (Lv (.slice (some ⟨g, 6 * i + o + 18, none⟩) (6) (6)) (Fx.x_sliceArr rfl rfl Try.underlying45 (s := 1) (by kernel_rfl)) (Fx.L.bslice (vs := [(0, .slice (some ⟨g, 6 * i + o + 18, none⟩) (6) (6))]) (s := 1) (zc := fun _ => .slice none 0 0) (y := Fx.ovr (fun j => .slice none 0 0) (0 * 1) 1 (fun _ => .slice (some ⟨g, 6 * i + o + 18, none⟩) (6) (6))) (by rfl) rfl rfl Try.underlying70 (by kernel_rfl) (by rfl) (by rfl) (by kernel_rfl) (by rw [Fx.fill_step (off := 0 * 1) (s := 1) (y := fun _ => .slice (some ⟨g, 6 * i + o + 18, none⟩) (6) (6)) rfl (Fx.cells_one (by rfl)) (by rfl)]; rfl) rfl fun g2 w3 eg2 m4 s3 z2 => ?_)))))))))))
  have m5 := m3.stp s3 (m3.notNew (Nat.le_refl _))
  have b4 := s3.below b3 b3.size b3.size
  have lg2 : w.heap.size ≤ g2 := by rw [eg2]; exact b3.size
  have ng2m5 : (.slice ao (i + 3) (co) : Value).ownBlock ≠ some g2 := by rw [eg2]; exact m3.notNew (Nat.le_refl _)
  have tg2 : g2 < w3.heap.size := m4.lt
  clear eg2
  refine Fx.L.app (B := w.heap.size) (s := 1) (bytes := 24) (k := i + 3) (m := 1) (v := .slice ao (i + 3) (co)) (x := rowsX g o) (by rfl) rfl rfl rfl Try.underlying70 (by kernel_rfl) (by kernel_rfl) rfl rfl m5 m4.cel (fun j hj => by unfold Fx.ovr; rw [if_pos ⟨by omega, by omega⟩]; rfl) (by omega) (by omega) (by omega) b4.size fun g3 cap1 w4 ho1 hg1 hgv1 hlt1 => ?_
  have m6 : Fx.Own w4 w.heap.size 73 1 (.slice (some ⟨g3, 0, none⟩) (i + 4) cap1) (i + 4) (rowsX g o) := (ho1.congr (rows_app (by omega)))
  have b5 : Below w.heap.size w w4 := Fx.Below.grow b4 hg1 b4.size (fun q hq => (m5.ge hq).1)
  refine Lv (.slice (some ⟨g3, 0, none⟩) (i + 4) (cap1)) (x_assign rfl rfl) (Ln (Fx.blkN (sN (Wl (Lv (.int .i64 ((i : Int) + 1)) (Fx.x_add rfl h3 rfl Fx.io) (Lv (.int .i64 ((i : Int) + 1)) (x_move rfl rfl) (Ln ?_)))))))
  skip
  refine Fx.lpN ⟨i + 1, (some ⟨g3, 0, none⟩), cap1, by omega, h1, (by rfl), Fx.ic, m6, b5⟩ ?_
  show (6 - (intOf ((.int .i64 ((i : Int) + 1)))).toNat) < _
  simp only [h3, intOf]; omega
 refine Lv (.bool false) (Fx.x_lssF rfl h3 rfl c19) (Ln (sN (Ws (Wc (b := false) rfl (fun h => nomatch h) (fun _ => Fx.W.exit (Fx.seqX (Fx.lpX (Fx.blkX (sN (Ws (Wl (Lv (.slice ao (i + 3) (co)) (x_move rfl h2) (Lv (.slice ao (i + 3) (co)) (x_assign rfl rfl) (Ln (sN (Wr (⟨.slice ao (i + 3) (co), rV Try.results31 (by exact rfl), ?_⟩)))))))))))))))))
 refine ⟨ao, co, by rw [show i + 3 = 9 by omega], ?_, b3⟩
 have q9 := m3
 rw [show i + 3 = 9 by omega] at q9; exact q9
end Go.Proofs.Ytcbedgfikejkoaa
namespace Go.Proofs.Ytcbedgfikejkoaa
namespace Crc
theorem and1 (s : W32) : (s &&& 1#32 = 1#32) ↔ s.getLsbD 0 = true := by
  constructor
  · intro h
    have : (s &&& 1#32).getLsbD 0 = (1#32).getLsbD 0 := by rw [h]
    simpa using this
  intro h
  rcases and_one s with h0 | h1
  · exfalso
    have : (s &&& 1#32).getLsbD 0 = (0#32).getLsbD 0 := by rw [h0]
    rw [BitVec.getLsbD_and, h] at this
    exact absurd this (by decide)
  exact h1
theorem stp_bit (s : W32) : stp s = (s >>> 1) ^^^ (if s.getLsbD 0 = true then pat else 0#32) := by
  unfold stp
  by_cases h : s.getLsbD 0 = true
  · rw [if_pos ((and1 s).2 h), if_pos h]
  rw [if_neg (fun e => h ((and1 s).1 e)), if_neg h]
theorem stp_xor (a b : W32) : stp (a ^^^ b) = stp a ^^^ stp b := by
  rw [stp_bit, stp_bit, stp_bit, BitVec.getLsbD_xor, BitVec.ushiftRight_xor_distrib]
  generalize a >>> 1 = x
  generalize b >>> 1 = y
  cases a.getLsbD 0 <;> cases b.getLsbD 0
  · simp
  · simp only [if_true, if_false, Bool.false_eq_true, BitVec.xor_zero, Bool.false_xor]; ac_rfl
  · simp only [if_true, if_false, Bool.false_eq_true, BitVec.xor_zero, Bool.xor_false]; ac_rfl
  simp only [if_true, if_false, Bool.false_eq_true, Bool.xor_self]
  calc x ^^^ y ^^^ 0#32 = x ^^^ y ^^^ (pat ^^^ pat) := by rw [BitVec.xor_self]
    _ = x ^^^ pat ^^^ (y ^^^ pat) := by ac_rfl
theorem stpN_xor : ∀ (n : Nat) (a b : W32), stpN n (a ^^^ b) = stpN n a ^^^ stpN n b
  | 0, _, _ => rfl
  | n + 1, a, b => by rw [stpN, stpN, stpN, stpN_xor n, stp_xor]
end Crc
end Go.Proofs.Ytcbedgfikejkoaa
namespace Go.Proofs.Ytcbedgfikejkoaa
open Go.RowKit Crc
attribute [local go_sem] signed_u32 bnotm bxor band bxorb bone bshr bpat stp_mul stp_walk wrap_I wrap_J bshb
set_option maxHeartbeats 400000 in
theorem stepped_any (s : W32) (w : World) :
    Calls Try.prog 83 #[.int .u32 (I s)] w fun e w' => e = .returned (.int .u32 (I (stpN 8 s))) ∧ w' = w := by
  go_enter Try.func83, Try.ntmps83
  go_wp2
  go_loop [0, 3] (fun v i => ∃ k : Nat, k ≤ 8 ∧ i = .int .i64 k ∧ v = .int .u32 (I (stpN k s))) (fun _ i => 8 - (intOf i).toNat)
  case atStart => exact ⟨0, Nat.zero_le _, rfl, rfl⟩
  case round =>
    obtain ⟨k, hk, rfl, rfl⟩ := hrel
    by_cases hlt : k < 8
    · go_wp2
      go_round
      case rel => exact ⟨k + 1, by omega, by go_num, rfl⟩
      case measure => simp [intOf]; omega
    · obtain rfl : k = 8 := by omega
      go_wp2
      go_ret
      exact ⟨rfl, rfl⟩
set_option maxHeartbeats 400000 in
theorem more_any (s : W32) (a : Option Addr) (len cap : Nat) (bs : List UInt8) (w : World)
  (hlen : len ≤ 140737488355328) (hbs : bs.length = len) (hr : Rd w a bs) :
    Calls Try.prog 77 #[.int .u32 (I s), .slice a len cap] w fun e w' => e = .returned (.int .u32 (I (more s bs))) ∧ w' = w := by
  have Hbs : Hid (bs.length = len) := hbs
  clear hbs
  go_enter Try.func77, Try.ntmps77
  go_wp2
  go_loop [5, 12] (fun v i => ∃ k : Nat, k ≤ len ∧ i = .int .i64 k ∧ v = .int .u32 (I ((bs.take k).foldl byteStep (~~~ s)))) (fun _ i => len - (intOf i).toNat)
  case atStart => exact ⟨0, Nat.zero_le _, rfl, rfl⟩
  case round =>
    obtain ⟨k, hk, rfl, rfl⟩ := hrel
    by_cases hlt : k < len
    · have hk' : k < bs.length := by rw [Hbs.out]; exact hlt
      have HT : Hid ((bs.take (k + 1)).foldl byteStep (~~~ s) = byteStep ((bs.take k).foldl byteStep (~~~ s)) bs[k]) := take_succ_foldl _ _ _ _ hk'
      obtain ⟨b, off, rfl, hc⟩ := rd_at hr k hk'
      clear hr
      go_wp2_with (go_at_call 83; refine (stepped_any _ _).mono ?_; rintro e w' ⟨rfl, rfl⟩)
      go_round
      case rel => exact ⟨k + 1, by omega, by go_num, by rw [HT.out]; rfl⟩
      case measure => simp [intOf]; omega
    · have hm := more_all s bs k (by rw [Hbs.out]; exact hlt)
      have Hm : Hid (_ = _) := hm
      clear hm
      go_wp2
      go_ret
      rw [Hm.out]
      exact ⟨rfl, rfl⟩
set_option maxHeartbeats 400000 in
theorem csum_any (a : Option Addr) (len cap : Nat) (bs : List UInt8) (w : World)
  (hlen : len ≤ 140737488355328) (hbs : Hid (bs.length = len)) (hr : Rd w a bs) :
    Calls Try.prog 53 #[.slice a len cap] w fun e w' => e = .returned (.int .u32 (I (sum bs))) ∧ w' = w := by
  go_enter Try.func53, Try.ntmps53
  go_wp2_with (go_at_call 77; refine (more_any 0#32 a len cap bs _ hlen hbs.out hr).mono ?_; rintro e w' ⟨rfl, rfl⟩)
  go_ret
  exact ⟨rfl, rfl⟩
theorem rd_arr {w : World} {a : Option Addr} {n : Nat} {l : List UInt8} (h : Fx.Arr w a n 1 (Fx.byY l)) (hn : n = l.length) : Rd w a l := fun k hk => by
  subst hn
  obtain ⟨b, off, e, hc⟩ := h (by omega)
  refine ⟨b, off, e, ?_⟩
  rw [hc k (by omega)]
  unfold Fx.byY J
  rw [List.getD_eq_getElem?_getD, List.getElem?_eq_getElem hk]; rfl
theorem c_sum {a : Option Addr} {n c : Nat} {l : List UInt8} {w : World} (hn : n = l.length) (hl : n ≤ 100000000) (h : Fx.Arr w a n 1 (Fx.byY l)) :
    Calls Try.prog 53 #[.slice a n c] w fun e w' => e = .returned (.int .u32 (I (sum l))) ∧ Below w.heap.size w w' :=
  (csum_any a n c l w (by omega) hn.symm (rd_arr h hn)).mono fun e w' ⟨he, hw⟩ => ⟨he, by rw [hw]; exact Below.refl _ _⟩
end Go.Proofs.Ytcbedgfikejkoaa
