/-
  What the proof of the law rests on, part 2: walks of functions, and plain laws; each says its conditions itself.
-/
import Derived.Laws.MakeOwn
import Derived.Laws.BytesString
import Derived.Lib.SlBytesConst
import Derived.MapKept
import Derived.Maps.RangeRun
import Derived.Test.YtkajcjefckjijaaZB1
namespace Go.Proofs.Ytkajcjefckjijaa.Fx
open Go.RowKit
theorem Out.mono {P : Program} {f : Nat → Value} {o : Oper} {w : World} {K K' : Value → World → Prop} (h : Out P f o w K) (hk : ∀ v w', K v w' → K' v w') : Out P f o w K' := by
  rcases h with ⟨v, w', hr, h⟩ | ⟨w', hr, h⟩ | ⟨g, args, hr, h⟩
  · exact .inl ⟨v, w', hr, hk v w' h⟩
  · exact .inr (.inl ⟨w', hr, hk _ w' h⟩)
  exact .inr (.inr ⟨g, args, hr, h.mono fun e w' ⟨v, he, hv⟩ => ⟨v, he, hk v w' hv⟩⟩)
def stillC (c : Nat) : Bool := Nat.ble c 1 || Nat.beq c 4
def Stay (S : World → World → Prop) (c : Nat) (w w2 : World) : Prop := c = 0 ∨ (c = 1 ∧ S w w2) ∨ w2 = w
def R (P : Program) (n : Nat) (ops : List Oper) (cs : List Nat) (S : World → World → Prop) (Q : Post) : List Nat → (Nat → Value) → World → Prop
  | [], f, w => Q .normal f w
  | i :: l, f, w => (Region.wanted (opAt ops i) (yf ops.toArray f) = false ∧ R P n ops cs S Q l (put f (opAt ops i).dst undef) w) ∨
    (Region.wanted (opAt ops i) (yf ops.toArray f) = true ∧
      ((stillC (cs.getD i 3) = true ∧ ∃ v, (∀ w2, Stay S (cs.getD i 3) w w2 → (execOp (ev f) (opAt ops i)).run P w2 = .ok (.value v) w2) ∧ R P n ops cs S Q l (put f (opAt ops i).dst v) w) ∨
       (stillC (cs.getD i 3) = false ∧ Out P f (opAt ops i) w fun v w' => (cs.getD i 3 = 2 → S w w') ∧ R P n ops cs S Q l (put f (opAt ops i).dst v) w')))
section
variable {P : Program} {n : Nat} {ops : List Oper} {cs : List Nat} {S : World → World → Prop} {Q : Post}
theorem R.tail {i : Nat} {X Y : List Nat} (hXY : ∀ f w, R P n ops cs S Q X f w → R P n ops cs S Q Y f w) {f : Nat → Value} {w : World} (h : R P n ops cs S Q (i :: X) f w) : R P n ops cs S Q (i :: Y) f w := by
  unfold R at h ⊢
  rcases h with ⟨h1, h2⟩ | ⟨h1, ⟨h2, v, h3, h4⟩ | ⟨h2, h3⟩⟩
  · exact .inl ⟨h1, hXY _ _ h2⟩
  · exact .inr ⟨h1, .inl ⟨h2, v, h3, hXY _ _ h4⟩⟩
  exact .inr ⟨h1, .inr ⟨h2, h3.mono fun v w' hv => ⟨hv.1, hXY _ _ hv.2⟩⟩⟩
def Stl (P : Program) (ops : List Oper) (cs : List Nat) (S : World → World → Prop) (i : Nat) (f : Nat → Value) (w : World) (v : Value) : Prop :=
  (Region.wanted (opAt ops i) (yf ops.toArray f) = false ∧ v = undef) ∨ (Region.wanted (opAt ops i) (yf ops.toArray f) = true ∧ stillC (cs.getD i 3) = true ∧ ∀ w2, Stay S (cs.getD i 3) w w2 → (execOp (ev f) (opAt ops i)).run P w2 = .ok (.value v) w2)
theorem R.of_stl {i : Nat} {l : List Nat} {f : Nat → Value} {w : World} {v : Value} (hs : Stl P ops cs S i f w v) (h : R P n ops cs S Q l (put f (opAt ops i).dst v) w) : R P n ops cs S Q (i :: l) f w := by
  unfold R
  rcases hs with ⟨h1, rfl⟩ | ⟨h1, h2, h3⟩
  · exact .inl ⟨h1, h⟩
  exact .inr ⟨h1, .inl ⟨h2, v, h3, h⟩⟩
theorem R.stl {i : Nat} {l : List Nat} {f : Nat → Value} {w : World} (hi : stillC (cs.getD i 3) = true) (h : R P n ops cs S Q (i :: l) f w) : ∃ v, Stl P ops cs S i f w v ∧ R P n ops cs S Q l (put f (opAt ops i).dst v) w := by
  unfold R at h
  rcases h with ⟨h1, h2⟩ | ⟨h1, ⟨h2, v, h3, h4⟩ | ⟨h2, h3⟩⟩
  · exact ⟨undef, .inl ⟨h1, rfl⟩, h2⟩
  · exact ⟨v, .inr ⟨h1, h2, h3⟩, h4⟩
  rw [hi] at h2; cases h2
theorem put_other {ops : List Oper} (hok : opsOk n ops = true) {i j : Nat} (hi : i < ops.length) (hj : j < ops.length) (hne : i ≠ j) (f : Nat → Value) (u v : Value) :
    put (put f (opAt ops i).dst u) (opAt ops j).dst v = put (put f (opAt ops j).dst v) (opAt ops i).dst u := by
  cases hdi : (opAt ops i).dst with
  | none => rfl
  | some di =>
    cases hdj : (opAt ops j).dst with
    | none => rfl
    | some dj =>
      have hd : di ≠ dj := fun e => by
        subst e;have h1 := ((opsOk_at hok hi).1 di hdi).1;have h2 := ((opsOk_at hok hj).1 di hdj).1;rw [h1] at h2; exact hne (p_ h2)
      funext s
      simp only [put]
      cases h1 : Nat.beq s di <;> cases h2 : Nat.beq s dj <;> simp
      exact (hd ((o_ h1).symm.trans (o_ h2))).elim
theorem put_ev {ops : List Oper} (hok : opsOk n ops = true) {i j : Nat} (hi : i < ops.length) (hj : j < ops.length) (ha : isAfter (opAt ops j) i = false) (f : Nat → Value) (u : Value) : ∀ x ∈ (opAt ops j).op.operands, ev (put f (opAt ops i).dst u) x = ev f x := by
  intro x hx
  cases x with
  | tmp t =>
    show put f (opAt ops i).dst u t = f t
    cases hdi : (opAt ops i).dst with
    | none => rfl
    | some d =>
      simp only [put]
      cases hb : Nat.beq t d with
      | false => rfl
      | true =>
        have e := o_ hb;subst e;have h1 := ((opsOk_at hok hi).1 t hdi).1;have h2 := (opsOk_at hok hj).2.1 t i hx h1;rw [ha] at h2; cases h2
  | _ => rfl
theorem put_wanted {ops : List Oper} (hok : opsOk n ops = true) {i j : Nat} (hi : i < ops.length) (hj : j < ops.length) (ha : isAfter (opAt ops j) i = false) (f : Nat → Value) (u : Value) :
    Region.wanted (opAt ops j) (yf ops.toArray (put f (opAt ops i).dst u)) = Region.wanted (opAt ops j) (yf ops.toArray f) := by
  unfold Region.wanted
  cases hg : (opAt ops j).guard with
  | none => rfl
  | some gb =>
    obtain ⟨g, b⟩ := gb;simp only;have h2 := (opsOk_at hok hj).2.2.1 g b hg;have hgi : g ≠ i := fun e => by subst e; rw [ha] at h2; cases h2
    congr 1
    unfold yf
    cases hd : (ops.toArray[g]?).bind (·.dst) with
    | none => rfl
    | some d =>
      simp only;have hgl : g < ops.length := by
        cases hq : ops.toArray[g]? with
        | none => rw [hq] at hd; cases hd
        | some o => have := (k_.1 hq).1; simpa using this
      have hdd : (opAt ops g).dst = some d := by
        unfold opAt;rw [List.getElem?_toArray] at hd;rw [j_]
        cases hq : ops[g]? with
        | none => rw [hq] at hd; cases hd
        | some o => rw [hq] at hd; exact hd
      have e : put f (opAt ops i).dst u d = f d := by
        cases hdi : (opAt ops i).dst with
        | none => rfl
        | some di =>
          simp only [put]
          cases hb : Nat.beq d di with
          | false => rfl
          | true =>
            have e := o_ hb;subst e;have h3 := ((opsOk_at hok hi).1 d hdi).1;have h4 := ((opsOk_at hok hgl).1 d hdd).1;rw [h3] at h4; exact v_ (p_ h4).symm hgi
      rw [e]
theorem put_run {ops : List Oper} (hok : opsOk n ops = true) (hsel : Region.noSelect ops.toArray = true) {i j : Nat} (hi : i < ops.length) (hj : j < ops.length) (ha : isAfter (opAt ops j) i = false) (f : Nat → Value) (u : Value) :
    execOp (ev (put f (opAt ops i).dst u)) (opAt ops j) = execOp (ev f) (opAt ops j) :=
  execOp_congr _ (fun c b => Region.noSelect_spec hsel j (opAt ops j) c b (by
    unfold opAt; rw [List.getElem?_toArray, j_, i_ hj]; rfl)) (put_ev hok hi hj ha f u)
def pairOk (ops : List Oper) (cs : List Nat) (certs : List (Nat × Nat × List Nat)) (i j : Nat) : Bool :=
  !isAfter (opAt ops i) j && ((stillC (cs.getD i 3) && (Nat.beq (cs.getD i 3) 0 || stillC (cs.getD j 3) || (Nat.beq (cs.getD i 3) 1 && Nat.beq (cs.getD j 3) 2))) || certs.any fun c => Nat.beq c.1 j && Nat.beq c.2.1 i && pathB ops j c.2.2 i)
def pairsOk (ops : List Oper) (cs : List Nat) (certs : List (Nat × Nat × List Nat)) : List Nat → Bool
  | [] => true
  | i :: l => l.all (pairOk ops cs certs i) && pairsOk ops cs certs l
def permOk (ops : List Oper) (l : List Nat) : Bool := Nat.beq l.length ops.length && l.all (fun i => Nat.blt i ops.length) && decide l.Nodup && (List.range ops.length).all (fun i => l.any (Nat.beq i))
theorem swap (hok : opsOk n ops = true) (hsel : Region.noSelect ops.toArray = true) {i j : Nat} (hi : i < ops.length) (hj : j < ops.length) (hne : i ≠ j) (hij : isAfter (opAt ops j) i = false) (hji : isAfter (opAt ops i) j = false) (hS : ∀ w, S w w) (hT : ∀ a b c, S a b → S b c → S a c) (hc : stillC (cs.getD i 3) = true) (hc2 : cs.getD i 3 = 0 ∨ stillC (cs.getD j 3) = true ∨ (cs.getD i 3 = 1 ∧ cs.getD j 3 = 2))
    {l : List Nat} {f : Nat → Value} {w : World} (h : R P n ops cs S Q (i :: j :: l) f w) : R P n ops cs S Q (j :: i :: l) f w := by
  obtain ⟨vi, hs, h⟩ := h.stl hc;have up : ∀ (u : Value) (w' : World), Stay S (cs.getD i 3) w w' → Stl P ops cs S i (put f (opAt ops j).dst u) w' vi := fun u w' hb => by
    unfold Stl;rw [put_wanted hok hj hi hji, put_run hok hsel hj hi hji]
    rcases hs with hs | ⟨h1, h2, h3⟩
    · exact .inl hs
    · refine .inr ⟨h1, h2, fun w2 h4 => h3 w2 ?_⟩
      rcases hb with hb | ⟨hb, hb2⟩ | hb
      · exact .inl hb
      · rcases h4 with h4 | ⟨_, h4⟩ | h4
        · exact .inl h4
        · exact .inr (.inl ⟨hb, hT _ _ _ hb2 h4⟩)
        · subst h4; exact .inr (.inl ⟨hb, hb2⟩)
      · subst hb; exact h4
  unfold R at h;rw [put_wanted hok hi hj hij, put_run hok hsel hi hj hij] at h;rw [R]
  rcases h with ⟨h1, h2⟩ | ⟨h1, ⟨h2, v, h3, h4⟩ | ⟨h2, h3⟩⟩
  · refine .inl ⟨h1, R.of_stl (up undef w (.inr (.inr rfl))) ?_⟩
    rw [put_other hok hi hj hne] at h2; exact h2
  · refine .inr ⟨h1, .inl ⟨h2, v, h3, R.of_stl (up v w (.inr (.inr rfl))) ?_⟩⟩
    rw [put_other hok hi hj hne] at h4; exact h4
  refine .inr ⟨h1, .inr ⟨h2, ?_⟩⟩;unfold Out at h3;rw [put_run hok hsel hi hj hij] at h3;refine Out.mono (K := fun v w' => (cs.getD j 3 = 2 → S w w') ∧ R P n ops cs S Q l (put (put f (opAt ops i).dst vi) (opAt ops j).dst v) w') h3 fun v w' hk => ⟨hk.1, R.of_stl (up v w' ?_) ?_⟩
  · rcases hc2 with e | e | ⟨e, e2⟩
    · exact .inl e
    · rw [h2] at e; cases e
    exact .inr (.inl ⟨e, hk.1 e2⟩)
  have := hk.2; rw [put_other hok hi hj hne] at this; exact this
theorem bubble (hok : opsOk n ops = true) (hsel : Region.noSelect ops.toArray = true) (hS : ∀ w, S w w) (hT : ∀ a b c, S a b → S b c → S a c) {j : Nat} (hj : j < ops.length) {l : List Nat} :
    ∀ (pre : List Nat), (∀ i ∈ pre, i < ops.length ∧ i ≠ j ∧ isAfter (opAt ops j) i = false ∧ isAfter (opAt ops i) j = false ∧ stillC (cs.getD i 3) = true ∧ (cs.getD i 3 = 0 ∨ stillC (cs.getD j 3) = true ∨ (cs.getD i 3 = 1 ∧ cs.getD j 3 = 2))) → ∀ f w, R P n ops cs S Q (pre ++ j :: l) f w → R P n ops cs S Q (j :: (pre ++ l)) f w
  | [], _, f, w, h => h
  | i :: pre, hp, f, w, h => by
    obtain ⟨h1, h2, h3, h4, h5, h6⟩ := hp i (List.mem_cons_self ..);exact swap hok hsel h1 hj h2 h3 h4 hS hT h5 h6 (R.tail (fun f w => bubble hok hsel hS hT hj pre (fun k hk => hp k (List.mem_cons_of_mem _ hk)) f w) h)
theorem pairsOk_pw {certs : List (Nat × Nat × List Nat)} : ∀ {l : List Nat}, pairsOk ops cs certs l = true → l.Pairwise fun i j => pairOk ops cs certs i j = true
  | [], _ => List.Pairwise.nil
  | i :: l, h => by
    unfold pairsOk at h;rw [z_, List.all_eq_true] at h;exact List.Pairwise.cons h.1 (pairsOk_pw h.2)
theorem R.any (hok : opsOk n ops = true) (hsel : Region.noSelect ops.toArray = true) (hS : ∀ w, S w w) (hT : ∀ a b c, S a b → S b c → S a c) {certs : List (Nat × Nat × List Nat)} : ∀ (k : Nat) (rem : List Nat) (listed : Array Bool) (a : Act) (f : Nat → Value) (w : World), rem.length = k → listed.size = ops.length → Clo ops.toArray .any listed →
    (∀ i, i ∈ rem ↔ i < ops.length ∧ listed.getD i false = false) → rem.Nodup → (rem.Pairwise fun i j => pairOk ops cs certs i j = true) → Fr a n f → R P n ops cs S Q rem f w → wpAny P .any ops.toArray (lift n Q) k listed a w := by
  intro k
  induction k with
  | zero =>
    intro rem listed a f w hl hsz hclo hmem hnd hpw ha h;have : rem = [] := List.eq_nil_of_length_eq_zero hl;subst this;refine ⟨?_, f, ha, h⟩;rw [List.eq_nil_iff_forall_not_mem];intro j hj;obtain ⟨h1, h2, _, _⟩ := ready_after hj;exact v_ ((hmem j).2 ⟨h2, h1⟩) (by simp)
  | succ k ih =>
    intro rem listed a f w hl hsz hclo hmem hnd hpw ha h;refine ⟨fun hr => ?_, fun j hj => ?_⟩
    · cases rem with
      | nil => simp at hl
      | cons r rem' =>
        exfalso;obtain ⟨h1, h2⟩ := (hmem r).1 (List.mem_cons_self ..);have : r ∈ Region.ready .any ops.toArray listed := by
          refine mem_ready.2 ⟨getD_in (by omega) h2, opAt ops r, by unfold opAt; rw [List.getElem?_toArray, j_, i_ h1]; rfl, fun e he hb => ?_⟩;have haf : isAfter (opAt ops r) e.on = true := by
            unfold isAfter; rw [Array.any_eq_true']; exact ⟨e, he, by rw [hb, Nat.beq_refl]; rfl⟩
          have hlt := (opsOk_at hok h1).2.2.2 e.on haf
          cases hle : listed.getD e.on false with
          | true => rfl
          | false =>
            have hm := (hmem e.on).2 ⟨by omega, hle⟩
            rcases List.mem_cons.1 hm with e1 | e1
            · omega
            · have hp := (List.pairwise_cons.1 hpw).1 _ e1
              unfold pairOk at hp;rw [haf] at hp; simp at hp
        rw [hr] at this; simp at this
    · obtain ⟨h1, h2, h3, h4⟩ := ready_after hj
      have hjm := (hmem j).2 ⟨h2, h1⟩;obtain ⟨pre, post, rfl⟩ := List.append_of_mem hjm;have hb := bubble (P := P) (cs := cs) (S := S) (Q := Q) hok hsel hS hT h2 (l := post) pre (fun i hi => by
        obtain ⟨h5, h6⟩ := (hmem i).1 (List.mem_append_left _ hi);have hne : i ≠ j := fun e => by
          subst e;exact (List.nodup_append.1 hnd).2.2 i hi i (List.mem_cons_self ..) rfl
        have hp : pairOk ops cs certs i j = true := (List.pairwise_append.1 hpw).2.2 i hi j (List.mem_cons_self ..);unfold pairOk at hp;rw [z_, Bool.or_eq_true] at hp;have hnaf : isAfter (opAt ops j) i = false := by
          cases hq : isAfter (opAt ops j) i with
          | false => rfl
          | true => have := h4 i hq; rw [h6] at this; cases this
        refine ⟨h5, hne, hnaf, by simpa using hp.1, ?_⟩
        rcases hp.2 with hp | hp
        · rw [z_, Bool.or_eq_true] at hp
          refine ⟨hp.1, ?_⟩
          rcases hp.2 with q | q
          · rw [Bool.or_eq_true] at q
            exact q.elim (fun q => .inl (o_ q)) (fun q => .inr (.inl q))
          · rw [z_] at q
            exact .inr (.inr ⟨o_ q.1, o_ q.2⟩)
        · exfalso
          rw [List.any_eq_true] at hp;obtain ⟨c, _, hc⟩ := hp;rw [z_, z_] at hc;obtain ⟨m, hm⟩ := pathB_reach hc.2
          cases m with
          | zero => unfold reach at hm; simp at hm; exact hne hm.symm
          | succ m =>
            unfold reach at hm;rw [Bool.or_eq_true] at hm
            rcases hm with hm | hm
            · simp at hm; exact hne hm.symm
            · rw [h3] at hm
              simp only at hm;rw [Array.any_eq_true'] at hm;obtain ⟨e, he, hm⟩ := hm;rw [z_] at hm;have haf : isAfter (opAt ops j) e.on = true := by
                unfold isAfter; rw [Array.any_eq_true']; exact ⟨e, he, by rw [hm.1, Nat.beq_refl]; rfl⟩
              have := hclo.reach _ _ hm.2 (h4 e.on haf);rw [h6] at this; cases this) f w h
      have hperm : (pre ++ post).length = k := (by simp at hl ⊢; omega);have hnd' : (pre ++ post).Nodup := by
        refine hnd.sublist ?_;exact List.Sublist.append_left (List.sublist_cons_self ..) pre
      have hpw' : (pre ++ post).Pairwise fun i j => pairOk ops cs certs i j = true := hpw.sublist (List.Sublist.append_left (List.sublist_cons_self ..) pre);have hmem' : ∀ i, i ∈ pre ++ post ↔ i < ops.length ∧ (listed.setIfInBounds j true).getD i false = false := fun i => by
        by_cases e : j = i
        · subst e
          rw [set_self (by omega)];constructor
          · intro hm
            exfalso;have hd := List.nodup_append.1 hnd
            rcases List.mem_append.1 hm with q | q
            · exact hd.2.2 j q j (List.mem_cons_self ..) rfl
            · exact (List.nodup_cons.1 hd.2.1).1 q
          · intro q; cases q.2
        · rw [set_other e, ← hmem i]
          simp only [List.mem_append, List.mem_cons];constructor
          · rintro (q | q)
            · exact .inl q
            · exact .inr (.inr q)
          · rintro (q | q | q)
            · exact .inl q
            · exact v_ q.symm e
            · exact .inr q
      have next : ∀ (v : Value) (w' : World), R P n ops cs S Q (pre ++ post) (put f (opAt ops j).dst v) w' → wpAny P .any ops.toArray (lift n Q) k (listed.setIfInBounds j true) (a.put (opAt ops j).dst v) w' := fun v w' hR =>
        ih (pre ++ post) _ _ _ w' hperm (by simp [hsz]) (hclo.set hj) hmem' hnd' hpw' (ha.put (by
          cases hd : (opAt ops j).dst with
          | none => rfl
          | some d => have := ((opsOk_at hok h2).1 d hd).2; simpa [inn, Nat.blt_eq] using this) v) hR
      unfold wpOp;rw [h3];simp only;rw [ha.yf];unfold R at hb
      rcases hb with ⟨q1, q2⟩ | ⟨q1, ⟨q2, v, q3, q4⟩ | ⟨q2, q3⟩⟩
      · rw [a_ (by rw [q1]; decide)]; exact next _ _ q2
      · rw [b_ q1]
        refine .inl (Out.wp (K := fun v' w' => v' = v ∧ w' = w) ha (.inl ⟨v, w, q3 w (.inr (.inr rfl)), rfl, rfl⟩) ?_);rintro v' w' ⟨rfl, rfl⟩;exact next _ _ q4
      · rw [b_ q1]
        exact .inl (Out.wp ha q3 fun v w' hk => next v w' hk.2)
theorem W.reord {f : Nat → Value} {w : World} {id : Nat} (l : List Nat) (cs : List Nat) (S : World → World → Prop) (hS : ∀ w, S w w) (hT : ∀ a b c, S a b → S b c → S a c) (certs : List (Nat × Nat × List Nat)) (hm : P.follows .mixedOrders = true) (hok : opsOk n ops = true) (hsel : Region.noSelect ops.toArray = true) (hp : permOk ops l = true) (hpp : pairsOk ops cs certs l = true)
    (h : ∀ w1, Below w.heap.size w w1 → w1.heap.size = w.heap.size → R P n ops cs S Q l f w1) : W P n (.region id ops.toArray true) Q f w := fun a ha => by
  refine wp_region_any hm ?_;unfold permOk at hp;rw [z_, z_, z_, List.all_eq_true, List.all_eq_true] at hp;obtain ⟨⟨⟨p1, p2⟩, p3⟩, p4⟩ := hp;have hlen := o_ p1;have p3' : l.Nodup := e_ p3;have := R.any (P := P) (Q := Q) (certs := certs) hok hsel hS hT ops.length l (Array.replicate ops.length false) a f { w with drawn := w.drawn + 1 } hlen (by simp) (Clo.start _ _ _) (fun i => by
    have hg : ∀ i, (Array.replicate ops.length false).getD i false = false := fun i => getD_replicate_false _ _;constructor
    · intro hi; exact ⟨by simpa [Nat.blt_eq] using p2 i hi, hg i⟩
    · intro hi
      obtain ⟨k, hk, hk2⟩ := List.any_eq_true.1 (p4 i (by simpa using hi.1));rw [o_ hk2]; exact hk) p3' (pairsOk_pw hpp) ha (h { w with drawn := w.drawn + 1 } (Below.refl _ _).drew rfl)
  simpa using this
end
section
variable {P : Program} {n : Nat} {ops : List Oper} {cs : List Nat} {S : World → World → Prop} {Q : Post} {f : Nat → Value} {w : World} {i : Nat} {l : List Nat}
theorem R.nil (h : Q .normal f w) : R P n ops cs S Q [] f w := h
theorem R.skip (hw : Region.wanted (opAt ops i) (yf ops.toArray f) = false) (h : R P n ops cs S Q l (put f (opAt ops i).dst undef) w) : R P n ops cs S Q (i :: l) f w := .inl ⟨hw, h⟩
theorem R.pure {v : Value} (hw : Region.wanted (opAt ops i) (yf ops.toArray f) = true) (hc : Nat.beq (cs.getD i 3) 0 = true) (hr : ∀ w2, (execOp (ev f) (opAt ops i)).run P w2 = .ok (.value v) w2) (h : R P n ops cs S Q l (put f (opAt ops i).dst v) w) : R P n ops cs S Q (i :: l) f w :=
  .inr ⟨hw, .inl ⟨by rw [o_ hc]; rfl, v, fun w2 _ => hr w2, h⟩⟩
theorem R.read {v : Value} (hw : Region.wanted (opAt ops i) (yf ops.toArray f) = true) (hc : Nat.beq (cs.getD i 3) 1 = true) (hS : S w w) (hr : ∀ w2, S w w2 → (execOp (ev f) (opAt ops i)).run P w2 = .ok (.value v) w2) (h : R P n ops cs S Q l (put f (opAt ops i).dst v) w) : R P n ops cs S Q (i :: l) f w :=
  .inr ⟨hw, .inl ⟨by rw [o_ hc]; rfl, v, fun w2 hb => hr w2 (by
    rcases hb with e | ⟨_, e⟩ | e
    · rw [o_ hc] at e; cases e
    · exact e
    · subst e; exact hS), h⟩⟩
theorem R.still {v : Value} (hw : Region.wanted (opAt ops i) (yf ops.toArray f) = true) (hc : Nat.beq (cs.getD i 3) 4 = true) (hr : (execOp (ev f) (opAt ops i)).run P w = .ok (.value v) w) (h : R P n ops cs S Q l (put f (opAt ops i).dst v) w) : R P n ops cs S Q (i :: l) f w :=
  .inr ⟨hw, .inl ⟨by rw [o_ hc]; rfl, v, fun w2 hb => by
    rcases hb with e | ⟨e, _⟩ | e
    · rw [o_ hc] at e; cases e
    · rw [o_ hc] at e; cases e
    · subst e; exact hr, h⟩⟩
theorem Rp (v : Value) (hr : ∀ w2, Runs P f (opAt ops i) w2 v) (h : R P n ops cs S Q l (put f (opAt ops i).dst v) w) (hw : Region.wanted (opAt ops i) (yf ops.toArray f) = true := by rfl) (hc : Nat.beq (cs.getD i 3) 0 = true := by rfl) : R P n ops cs S Q (i :: l) f w := R.pure hw hc hr h
theorem R.s (v : Value) (hr : Runs P f (opAt ops i) w v) (h : R P n ops cs S Q l (put f (opAt ops i).dst v) w) (hw : Region.wanted (opAt ops i) (yf ops.toArray f) = true := by rfl) (hc : Nat.beq (cs.getD i 3) 4 = true := by rfl) : R P n ops cs S Q (i :: l) f w := R.still hw hc hr h
theorem R.eff (hc : Nat.beq (cs.getD i 3) 3 = true) (h : L P n ops.toArray (fun _ f' w' => R P n ops cs S Q l f' w') [opAt ops i] f w) : R P n ops cs S Q (i :: l) f w := by
  have hc' := o_ hc;obtain ⟨_, ⟨h1, h2⟩ | ⟨h1, h2⟩⟩ := h
  · refine .inr ⟨h1, .inr ⟨by rw [hc']; rfl, Out.mono (K := fun v w' => R P n ops cs S Q l (put f (opAt ops i).dst v) w') h2 fun v w' hk => ⟨fun e => by omega, hk⟩⟩⟩
  exact .inl ⟨h1, h2⟩
theorem R.make (hc : Nat.beq (cs.getD i 3) 2 = true) (h : L P n ops.toArray (fun _ f' w' => S w w' ∧ R P n ops cs S Q l f' w') [opAt ops i] f w) : R P n ops cs S Q (i :: l) f w := by
  have hc' := o_ hc;obtain ⟨_, ⟨h1, h2⟩ | ⟨h1, h2⟩⟩ := h
  · exact .inr ⟨h1, .inr ⟨by rw [hc']; rfl, Out.mono (K := fun v w' => S w w' ∧ R P n ops cs S Q l (put f (opAt ops i).dst v) w') h2 fun v w' hk => ⟨fun _ => hk.1, hk.2⟩⟩⟩
  exact .inl ⟨h1, h2.2⟩
def Mk (w w' : World) : Prop := Below w.heap.size w w'
theorem Mk.refl (w : World) : Mk w w := Below.refl _ _
theorem Mk.trans (a b c : World) (h : Mk a b) (k : Mk b c) : Mk a c := bch h k
end
end Go.Proofs.Ytkajcjefckjijaa.Fx
namespace Go.Proofs.Ytkajcjefckjijaa.Fx
open Go.RowKit
theorem u8e {a c : Int} (h : 0 ≤ c ∧ c ≤ 255) (e : a = c) : IntKind.u8.wrap a = c := by subst e; exact IntWalk.u8_in _ h
def flat (s : Nat) (F : Nat → Nat → Value) : Nat → Value := fun p => F (p / s) (p % s)
theorem flat_at {s k j p : Nat} {F : Nat → Nat → Value} (hp : p = s * k + j) (hj : j < s) : flat s F p = F k j := by
  subst hp;have hs : 0 < s := by omega
  unfold flat;rw [Nat.add_comm, Nat.add_mul_div_left _ _ hs, Nat.div_eq_of_lt hj, r_, Nat.add_mul_mod_self_left, Nat.mod_eq_of_lt hj]
theorem flat_cell {s k j p : Nat} {F : Nat → Nat → Value} {v : Value} (hp : p = s * k + j) (hj : j < s) (e : F k j = v) : flat s F p = v := (flat_at hp hj).trans e
theorem flat_cong {s n : Nat} {F G : Nat → Nat → Value} (h : ∀ k, k < n → ∀ j, j < s → F k j = G k j) : ∀ p, p < n * s → flat s F p = flat s G p := fun p hp => by
  have hs : 0 < s := Nat.pos_of_ne_zero fun e => by subst e; simp at hp
  unfold flat;exact h _ (Nat.div_lt_of_lt_mul (by rw [Nat.mul_comm]; exact hp)) _ (Nat.mod_lt _ hs)
def Arr (w : World) (a : Option Addr) (n s : Nat) (x : Nat → Value) : Prop := 0 < n → ∃ b off, a = some ⟨b, off, none⟩ ∧ Cel w b off (n * s) x
section
variable {w w' : World} {a : Option Addr} {n s : Nat} {x : Nat → Value}
theorem Arr.below {B : Nat} (h : Arr w a n s x) (hb : Below B w w') (hB : ∀ b off, a = some ⟨b, off, none⟩ → b < B) : Arr w' a n s x := fun h0 => by
  obtain ⟨b, off, e, hc⟩ := h h0;exact ⟨b, off, e, hc.below hb (hB b off e)⟩
theorem Arr.up (h : Arr w a n s x) (hb : Below w.heap.size w w') (hs : Nat.blt 0 s = true) : Arr w' a n s x := fun h0 => by
  obtain ⟨b, off, e, hc⟩ := h h0;have hs' : 0 < s := by simpa [Nat.blt_eq] using hs
  exact ⟨b, off, e, hc.below hb (hc.lt (Nat.mul_pos h0 hs'))⟩
theorem Arr.at {F : Nat → Nat → Value} (h : Arr w a n s (flat s F)) {k : Nat} (hk : k < n) : ∃ b off, a = some ⟨b, off, none⟩ ∧ Cel w b (off + s * k) s (F k) := by
  obtain ⟨b, off, e, hc⟩ := h (by omega);refine ⟨b, off, e, fun i hi => ?_⟩;have hlt : s * k + i < n * s := by
    have h1 : (k + 1) * s ≤ n * s := Nat.mul_le_mul_right s hk;rw [Nat.add_mul, Nat.one_mul, Nat.mul_comm k s] at h1;omega
  have := hc (s * k + i) hlt;rw [flat_at rfl hi, ← Nat.add_assoc] at this;exact this
theorem Own.arr {B : Nat} {E : TypeId} {c : Nat} (h : Own w B E s (.slice a n c) n x) : Arr w a n s x := fun h0 => by
  obtain ⟨g, cap, e, _, _, _, hc⟩ := h.form h0;simp only [Value.slice.injEq, true_and] at e;exact ⟨g, 0, e.1, hc⟩
theorem Own.addr {B : Nat} {E : TypeId} {c : Nat} (h : Own w B E s (.slice a n c) n x) (h0 : 0 < n) : ∃ g, a = some ⟨g, 0, none⟩ := by
  obtain ⟨g, cap, e, _⟩ := h.form h0;simp only [Value.slice.injEq, true_and] at e;exact ⟨g, e.1⟩
end
def Ty (w : World) (g : Nat) (T : TypeId) : Prop := ∃ c, w.heap[g]? = some (.cells c T (0, 0))
theorem Ty.ne {w : World} {g g' : Nat} {T T' : TypeId} (h : Ty w g T) (h' : Ty w g' T') (ne : T ≠ T') : g ≠ g' := fun e => by
  subst e;obtain ⟨c, h⟩ := h;obtain ⟨c', h'⟩ := h';rw [h] at h';simp only [Option.some.injEq, Obj.cells.injEq] at h';exact ne h'.2.1
theorem Blk.ty {w : World} {g n : Nat} {x : Nat → Value} {T : TypeId} (h : Blk w g n x T) : Ty w g T := ⟨_, h⟩
theorem Own.ty {w : World} {B : Nat} {E : TypeId} {s : Nat} {v : Value} {n : Nat} {x : Nat → Value} (h : Own w B E s v n x) {g : Nat} (hg : v.ownBlock = some g) : Ty w g E := by
  rcases h.2 with ⟨rfl, _⟩ | ⟨g', cap, cur, rfl, hb, hgg, _⟩
  · cases hg
  simp only [Value.ownBlock, Option.some.injEq] at hg; subst hg;exact ⟨_, hgg⟩
structure ChT (Ts : List TypeId) (w w' : World) : Prop where
  os : w'.os = w.os
  tape : w'.tape = w.tape
  output : w'.output = w.output
  size : w.heap.size ≤ w'.heap.size
  block : ∀ k, k < w.heap.size → (∀ T, Ty w k T → Ts.contains T = false) → w'.heap[k]? = w.heap[k]?
theorem Ty.only {w : World} {k : Nat} {T T' : TypeId} (h : Ty w k T) (h' : Ty w k T') : T' = T := Classical.byContradiction fun ne => Ty.ne h' h ne rfl
section
variable {w w' : World} {T : TypeId} {Ts : List TypeId}
theorem ChT.of_stp {g : Nat} (hs : Stp g w w') (ht : Ty w g T) : ChT [T] w w' := ⟨hs.os, hs.tape, hs.output, hs.size, fun k hk hn => hs.block k hk fun e => by
  have := hn T (by rw [e]; exact ht);simp at this⟩
theorem ChT.of_grown {B : Nat} {s : Nat} {v : Value} {n : Nat} {x : Nat → Value} (hg : w.grownBy w' v.ownBlock) (h : Own w B T s v n x) : ChT [T] w w' := ⟨hg.os, hg.tape, hg.output, hg.size, fun k hk hn => hg.block k hk fun e => by
  have := hn T (h.ty e.symm);simp at this⟩
theorem ChT.of_below (h : Below w.heap.size w w') : ChT Ts w w' := ⟨h.os, h.tape, h.output, h.size, fun k hk _ => h.block k hk⟩
theorem ChT.refl (w : World) : ChT Ts w w := ⟨rfl, rfl, rfl, n_ _, fun _ _ _ => rfl⟩
theorem ChT.trans (a b c : World) (h : ChT Ts a b) (k : ChT Ts b c) : ChT Ts a c := ⟨k.os.trans h.os, k.tape.trans h.tape, k.output.trans h.output, g_ h.size k.size, fun i hi hn =>
  have e := h.block i hi hn
  (k.block i (h_ hi h.size) fun T ⟨cc, ht⟩ => hn T ⟨cc, by rw [← e]; exact ht⟩).trans e⟩
theorem ChT.wide {Us : List TypeId} (h : ChT Ts w w') (hs : Ts.all Us.contains = true) : ChT Us w w' := ⟨h.os, h.tape, h.output, h.size, fun k hk hn => h.block k hk fun T ht => by
  cases hq : Ts.contains T with
  | false => rfl
  | true =>
    have h1 := hn T ht;rw [List.all_eq_true.1 hs T (List.contains_iff_mem.1 hq)] at h1; cases h1⟩
theorem Blk.chT {b n : Nat} {x : Nat → Value} {T0 : TypeId} (h : Blk w b n x T0) (hs : ChT Ts w w') (ne : Ts.contains T0 = false) : Blk w' b n x T0 := (hs.block b h.lt fun _ ht => by rw [Ty.only h.ty ht]; exact ne).trans h
theorem Own.chT {B : Nat} {E : TypeId} {s : Nat} {v : Value} {n : Nat} {x : Nat → Value} (h : Own w B E s v n x) (hs : ChT Ts w w') (ne : Ts.contains E = false) : Own w' B E s v n x := by
  refine ⟨h.1, ?_⟩
  rcases h.2 with a | ⟨g, cap, cur, rfl, hb, hg, rest⟩
  · exact .inl a
  exact .inr ⟨g, cap, cur, rfl, hb, (hs.block g (k_.1 hg).1 fun _ ht => by rw [Ty.only ⟨_, hg⟩ ht]; exact ne).trans hg, rest⟩
theorem Own.mono {B B' : Nat} {E : TypeId} {s : Nat} {v : Value} {n : Nat} {x : Nat → Value} (h : Own w B E s v n x) (hB : B' ≤ B) : Own w B' E s v n x := by
  refine ⟨h.1, ?_⟩
  rcases h.2 with a | ⟨g, cap, cur, rfl, hb, rest⟩
  · exact .inl a
  exact .inr ⟨g, cap, cur, rfl, g_ hB hb, rest⟩
theorem Own.congV {B : Nat} {E : TypeId} {s : Nat} {v v' : Value} {n : Nat} {x : Nat → Value} (h : Own w B E s v n x) (e : v = v') : Own w B E s v' n x := e ▸ h
end
section
variable {P : Program} {f : Nat → Value} {w : World} {o : Oper}
theorem x_shr {T T' : TypeId} {x y : Operand} {k yk : IntKind} {a q : Int} {b : Nat} (ho : o.op = .binOp .shr T x y T') (hx : ev f x = .int k a) (hy : ev f y = .int yk b) (hb : b ≤ k.bits) (hq : (2 : Int) ^ b = q) : Runs P f o w (.int k (a / q)) := by
  unfold Runs execOp;simp only [ho, hx, hy];have hr : (binOp .shr T (.int k a) (.int yk (b : Int))).run P w = .ok (.int k (a / q)) w := by
    simp only [binOp];rw [shift_shr _ _ _ _ (by omega) (by omega), show (b : Int).toNat = b by omega, hq];simp
  simp only [Sem.run_bind, run_eqGuard_ints, Result.andThen_ok, hr, Sem.run_pure]
end
theorem ovr_ones {n o m : Nat} {x y : Nat → Value} (hx : ∀ j, j < n → (x j).oneCell' = true) (hy : ∀ j, j < m → (y j).oneCell' = true) : ∀ j, j < n → (ovr x o m y j).oneCell' = true := fun j hj => by
  unfold ovr; split
  · rename_i h; exact hy _ (by omega)
  · exact hx j hj
section
variable {P : Program} {f : Nat → Value} {w : World} {o : Oper}
theorem x_indexV {T E : TypeId} {x ix : Operand} {k : IntKind} {j m : Nat} {y : Nat → Value} {v : Value} (ho : o.op = .index T x ix) (hx : ev f x = .agg (varr m y)) (hi : ev f ix = .int k (j : Int)) (hu : P.underlying T = some (.array m E)) (hz : (P.info? E).map (·.size) = some 1) (hE : oneT P E = true) (hj : j < m) (hv : y j = v) : Runs P f o w v := by
  subst hv;obtain ⟨z, hz1, hz2⟩ := Option.map_eq_some_iff.1 hz;unfold Runs execOp;simp only [ho, hx, hi];unfold oneT at hE
  cases hq : P.underlying E with
  | none => rw [hq] at hE; cases hE
  | some d =>
    rw [hq] at hE
    cases d <;> first
      | (cases hE; done)
      | (simp [Instr.index, asIntOf, underlying, hu, sizeOf, typeInfo, hz1, hz2, part, isAgg, hq, varr_get y hj]; intro h9; omega)
      | simp [Instr.index, asIntOf, underlying, hu, hj, sizeOf, typeInfo, hz1, hz2, part, isAgg, hq, varr_get y hj]
end
end Go.Proofs.Ytkajcjefckjijaa.Fx
namespace Go.Proofs.Ytkajcjefckjijaa
open Go.RowKit Rt
open Fx (x_move x_assign x_field x_load1 x_pickF x_pickT x_nil x_conv x_indexS x_index x_leqF x_loadA x_len x_gtrF x_build x_eqlF x_eqlT Lv sN Ln Ws Qv Wl Rp Wc Qs Wr Sb Lk Wk rC rV sR)
section
structure LdM where
  s : StM
  id : Nat → Int
  par : Nat → Int
  R : Nat → Nat → Int
  g : Nat → Nat → Int
  tb : Nat
  ta : Option Addr
  tn : Nat
  tc : Nat
  t : Nat → Nat → Int
  ra : Nat → Option Addr
  rn : Nat → Nat
  rc : Nat → Nat
  rq : Nat → Nat → Int
def ldY (m : LdM) : Nat → Value := fun p => if p < 20 then stY m.s p else if p = 20 then .pointer (some ⟨m.tb, 0, none⟩) else .slice (m.ra (p - 21)) (m.rn (p - 21)) (m.rc (p - 21))
def grY (x : Nat → Int) : Nat → Value := fun p => if p = 0 then .int .i64 (x 0) else if p = 3 then .int .i64 (x 3) else .int .u64 (x p)
def ndX (m : LdM) : Nat → Value := Fx.flat 56 fun k => ndY (m.id k) (m.par k) (m.R k)
def grX (m : LdM) : Nat → Value := Fx.flat 5 fun k => grY (m.g k)
def trX (t : Nat → Nat → Int) : Nat → Value := Fx.flat 2 fun k => Fx.rv .u64 (t k)
structure Ldg (w : World) (p : Nat) (m : LdM) : Prop where
  c : Fx.Cel w p 0 27 (ldY m)
  an : Fx.Arr w m.s.na m.s.nn 56 (ndX m)
  ag : Fx.Arr w m.s.ga m.s.gn 5 (grX m)
  tc : Fx.Cel w m.tb 0 1 (fun _ => .slice m.ta m.tn m.tc)
  at2 : Fx.Arr w m.ta m.tn 2 (trX m.t)
  ar : ∀ i, i < 6 → Fx.Arr w (m.ra i) (m.rn i) 1 (Fx.rv .u64 (m.rq i))
  bn : m.s.nn ≤ 1000000
  bg : m.s.gn ≤ 1000000
  bt : m.tn ≤ 1000000
  br : ∀ i, i < 6 → m.rn i ≤ 1000000
section
variable {w w' : World} {p : Nat} {m : LdM}
theorem Ldg.n (h : Ldg w p m) : Nds w m.s.na m.s.nn m.id m.par m.R := fun _ hk => h.an.at hk
theorem Ldg.g (h : Ldg w p m) : ∀ k, k < m.s.gn → ∃ b off, m.s.ga = some ⟨b, off, none⟩ ∧ Fx.Cel w b (off + 5 * k) 5 (grY (m.g k)) := fun _ hk => h.ag.at hk
theorem Ldg.t (h : Ldg w p m) : ∀ k, k < m.tn → ∃ b off, m.ta = some ⟨b, off, none⟩ ∧ Fx.Cel w b (off + 2 * k) 2 (Fx.rv .u64 (m.t k)) := fun _ hk => h.at2.at hk
theorem Ldg.r (h : Ldg w p m) : ∀ i, i < 6 → ∀ k, k < m.rn i → ∃ b off, m.ra i = some ⟨b, off, none⟩ ∧ Fx.Cel w b (off + k) 1 (fun _ => .int .u64 (m.rq i k)) := fun i hi k hk => by
  obtain ⟨b, off, e, hc⟩ := h.ar i hi (by omega);refine ⟨b, off, e, fun j hj => ?_⟩;obtain rfl : j = 0 := by omega
  exact hc k (by omega)
theorem Ldg.below (h : Ldg w p m) (hb : Below w.heap.size w w') : Ldg w' p m where
  c := h.c.below hb (h.c.lt (by omega))
  an := h.an.up hb rfl
  ag := h.ag.up hb rfl
  tc := h.tc.below hb (h.tc.lt (by omega))
  at2 := h.at2.up hb rfl
  ar := fun i hi => (h.ar i hi).up hb rfl
  bn := h.bn
  bg := h.bg
  bt := h.bt
  br := h.br
end
def firstI (P : Nat → Bool) : Nat → Int
  | 0 => -1
  | n + 1 => if 0 ≤ firstI P n then firstI P n else if P n then (n : Int) else -1
theorem firstI_none {P : Nat → Bool} : ∀ {n : Nat}, (∀ i, i < n → P i = false) → firstI P n = -1
  | 0, _ => rfl
  | n + 1, h => by
    have := firstI_none (P := P) (n := n) fun i hi => h i (by omega);simp only [firstI]; rw [this, a_ (by omega), h n (by omega)]; rfl
theorem firstI_hit {P : Nat → Bool} {k : Nat} (hb : ∀ i, i < k → P i = false) (hk : P k = true) : ∀ {n : Nat}, k < n → firstI P n = (k : Int)
  | 0, h => v_ h (by omega)
  | n + 1, h => by
    simp only [firstI];by_cases e : k = n
    · subst e; rw [firstI_none hb, a_ (by omega), hk]; rfl
    · rw [firstI_hit hb hk (n := n) (by omega), b_ (by omega)]
theorem firstI_spec (P : Nat → Bool) : ∀ n : Nat, (∃ k : Nat, k < n ∧ firstI P n = (k : Int) ∧ P k = true) ∨ (firstI P n = -1 ∧ ∀ i, i < n → P i = false)
  | 0 => .inr ⟨rfl, fun i h => v_ h (by omega)⟩
  | n + 1 => by
    rcases firstI_spec P n with ⟨k, hk, e, hp⟩ | ⟨e, hp⟩
    · exact .inl ⟨k, by omega, by simp only [firstI]; rw [e, b_ (by omega)], hp⟩
    · by_cases h : P n = true
      · exact .inl ⟨n, by omega, by simp only [firstI]; rw [e, a_ (by omega), h]; rfl, h⟩
      · rw [A_] at h
        refine .inr ⟨by simp only [firstI]; rw [e, a_ (by omega), h]; rfl, fun i hi => ?_⟩;by_cases e2 : i = n
        · subst e2; exact h
        · exact hp i (by omega)
def LdM.node (m : LdM) (id : Int) : Int := firstI (fun i => decide (m.id i = id)) m.s.nn
structure TreeR (w : World) (tb : Nat) (ta : Option Addr) (tn tc : Nat) (t : Nat → Nat → Int) : Prop where
  tc : Fx.Cel w tb 0 1 (fun _ => .slice ta tn tc)
  t : ∀ k, k < tn → ∃ b off, ta = some ⟨b, off, none⟩ ∧ Fx.Cel w b (off + 2 * k) 2 (Fx.rv .u64 (t k))
  bt : tn ≤ 1000000
theorem TreeR.below {w w' : World} {tb : Nat} {ta : Option Addr} {tn tc : Nat} {t : Nat → Nat → Int} (h : TreeR w tb ta tn tc t) (hb : Below w.heap.size w w') : TreeR w' tb ta tn tc t where
  tc := h.tc.below hb (h.tc.lt (by omega))
  t := fun k hk => by obtain ⟨b, off, e, hc⟩ := h.t k hk; exact ⟨b, off, e, hc.below hb (hc.lt (by omega))⟩
  bt := h.bt
end
end Go.Proofs.Ytkajcjefckjijaa
namespace Go.Proofs.Ytkajcjefckjijaa
open Go.RowKit
set_option linter.unusedVariables false
namespace Rt
structure NdM where
  id : Int
  par : Int
  R : Nat → Int
structure GrM where
  o : Int
  r : Int
  n : Int
  a : Int
  b : Int
def nd0 : NdM := ⟨0, 0, fun _ => 0⟩
def gr0 : GrM := ⟨0, 0, 0, 0, 0⟩
structure SnM where
  inn : Nat → Bool
  left : Nat → Bool
  known : Nat → Int
  ns : List NdM
  gs : List GrM
def sn0 : SnM := ⟨fun _ => false, fun _ => false, fun _ => 0, [], []⟩
def ndA (l : List NdM) (k : Nat) : NdM := l.getD k nd0
def grA (l : List GrM) (k : Nat) : GrM := l.getD k gr0
def nodeI (l : List NdM) (x : Int) : Int := firstI (fun i => decide ((ndA l i).id = x)) l.length
def endsN (l : List NdM) : Nat → Int → Bool
  | 0, _ => false
  | f + 1, x => if x = 0 then true else if nodeI l x < 0 then false else endsN l f (ndA l (nodeI l x).toNat).par
def grLt (x y : GrM) : Prop := x.o < y.o ∨ (x.o = y.o ∧ x.r < y.r)
instance (x y : GrM) : Decidable (grLt x y) := by unfold grLt; infer_instance
def NdOk (l : List NdM) (k : Nat) : Prop := (ndA l k).id ≠ 0 ∧ may (ndA l k).R = true ∧ endsN l 33 (ndA l k).id = true
def GrOk (l : List NdM) (g : GrM) : Prop := 1 ≤ g.o ∧ g.o ≤ 6 ∧ g.r ≠ 0 ∧ 0 ≤ nodeI l g.n ∧ 1 ≤ g.a ∧ g.a ≤ 1125899906842624 ∧ g.b ≠ g.r
structure MayP (m : SnM) : Prop where
  kn : ∀ i, i < 6 → m.known i ≤ 1099511627776
  nn : m.ns.length ≤ 32
  gn : m.gs.length ≤ 4096
  nr : ∀ k, k + 1 < m.ns.length → (ndA m.ns k).id < (ndA m.ns (k + 1)).id
  gr : ∀ k, k + 1 < m.gs.length → grLt (grA m.gs k) (grA m.gs (k + 1))
  li : ∀ i, i < 6 → m.left i = true → m.inn i = true
  nd : ∀ k, k < m.ns.length → NdOk m.ns k
  gd : ∀ k, k < m.gs.length → GrOk m.ns (grA m.gs k)
open Classical in
noncomputable def mayS (m : SnM) : Bool := decide (MayP m)
def byI (x : Int) : UInt8 := UInt8.ofNat (x % 256).toNat
def be : Nat → Int → List UInt8
  | 0, _ => []
  | k + 1, n => byI (n / 256 ^ k) :: be k n
def flag (b c : Bool) : UInt8 := (if b then 1 else 0) + (if c then 2 else 0)
def flagsB (m : SnM) : List UInt8 := (List.range 6).map fun i => flag (m.inn i) (m.left i)
def rowB (x : Nat → Int) (n : Nat) : List UInt8 := (List.range n).flatMap fun i => be 8 (x i)
def ndB (x : NdM) : List UInt8 := be 8 x.id ++ be 8 x.par ++ rowB x.R 54
def grB (g : GrM) : List UInt8 := byI g.o :: (be 8 g.r ++ be 8 g.n ++ be 8 g.a ++ be 8 g.b)
def bodyB (m : SnM) : List UInt8 := [76, 83, 78, 80] ++ flagsB m ++ rowB m.known 6 ++ be 2 m.ns.length ++ m.ns.flatMap ndB ++ be 2 m.gs.length ++ m.gs.flatMap grB
def bytesB (m : SnM) : List UInt8 := bodyB m ++ be 4 (Crc.I (Crc.sum (bodyB m)))
open Classical in
noncomputable def putB (m : SnM) : List UInt8 := if MayP m then bytesB m else []
def valB (l : List UInt8) : Int := l.foldl (fun n c => n * 256 + Crc.J c) 0
abbrev Ct := Nat × Bool
def cutS (l : List UInt8) (s : Ct) (k : Nat) : Ct := if s.2 = true ∨ l.length - s.1 < k then (s.1, true) else (s.1 + k, false)
def cutV (l : List UInt8) (s : Ct) (k : Nat) : Int := if s.2 = true ∨ l.length - s.1 < k then 0 else valB ((l.drop s.1).take k)
def cutN (l : List UInt8) (k : Nat) : Nat → Ct → Ct
  | 0, s => s
  | n + 1, s => cutS l (cutN l k n s) k
def rowV (l : List UInt8) (s : Ct) (k i : Nat) : Int := cutV l (cutN l k i s) k
def i64w (x : Int) : Int := IntKind.i64.wrap x
def ndV (l : List UInt8) (s : Ct) : NdM := ⟨rowV l s 8 0, rowV l s 8 1, fun p => i64w (rowV l s 8 (2 + p))⟩
def grV (l : List UInt8) (s : Ct) : GrM := ⟨cutV l s 1, rowV l (cutS l s 1) 8 0, rowV l (cutS l s 1) 8 1, i64w (rowV l (cutS l s 1) 8 2), rowV l (cutS l s 1) 8 3⟩
def ndS (l : List UInt8) (s : Ct) : Ct := cutN l 8 56 s
def grS (l : List UInt8) (s : Ct) : Ct := cutN l 8 4 (cutS l s 1)
def ndsV (l : List UInt8) : Nat → Ct → List NdM × Ct
  | 0, s => ([], s)
  | n + 1, s => if s.2 = true then ([], s) else (ndV l s :: (ndsV l n (ndS l s)).1, (ndsV l n (ndS l s)).2)
def grsV (l : List UInt8) : Nat → Ct → List GrM × Ct
  | 0, s => ([], s)
  | n + 1, s => if s.2 = true then ([], s) else (grV l s :: (grsV l n (grS l s)).1, (grsV l n (grS l s)).2)
def s4 (l : List UInt8) : Ct := cutS l (0, false) 4
def s10 (l : List UInt8) : Ct := cutN l 1 6 (s4 l)
def s58 (l : List UInt8) : Ct := cutN l 8 6 (s10 l)
def s60 (l : List UInt8) : Ct := cutS l (s58 l) 2
def nnV (l : List UInt8) : Nat := (cutV l (s58 l) 2).toNat
def nsV (l : List UInt8) : List NdM × Ct := ndsV l (nnV l) (s60 l)
def gnV (l : List UInt8) : Nat := (cutV l (nsV l).2 2).toNat
def gsV (l : List UInt8) : List GrM × Ct := grsV l (gnV l) (cutS l (nsV l).2 2)
def rawV (l : List UInt8) : SnM := ⟨fun i => decide (rowV l (s4 l) 1 i % 2 = 1), fun i => decide (rowV l (s4 l) 1 i / 2 % 2 = 1), fun i => rowV l (s10 l) 8 i, (nsV l).1, (gsV l).1⟩
def GetP (l : List UInt8) : Prop := (gsV l).2.2 = false ∧ l ≠ [] ∧ putB (rawV l) = l
open Classical in
noncomputable def getV (l : List UInt8) : SnM := if GetP l then rawV l else sn0
open Classical in
noncomputable def getE (l : List UInt8) : Int := if GetP l then 0 else 5
def ndJ (x y : NdM) : NdM := ⟨x.id, x.par, joinM x.R y.R⟩
def grJ (x y : GrM) : GrM := ⟨x.o, x.r, x.n, x.a, mxI x.b y.b⟩
def GrBad (x y : GrM) : Prop := x.n ≠ y.n ∨ x.a ≠ y.a ∨ (x.b ≠ y.b ∧ x.b ≠ 0 ∧ y.b ≠ 0)
instance (x y : GrM) : Decidable (GrBad x y) := by unfold GrBad; infer_instance
def mergeN : List NdM → List NdM → Option (List NdM)
  | [], b => some b
  | x :: a, [] => some (x :: a)
  | x :: a, y :: b => if x.id < y.id then (mergeN a (y :: b)).map (x :: ·) else if y.id < x.id then (mergeN (x :: a) b).map (y :: ·) else if x.par ≠ y.par then none else (mergeN a b).map (ndJ x y :: ·)
termination_by a b => a.length + b.length
def mergeG : List GrM → List GrM → Option (List GrM)
  | [], b => some b
  | x :: a, [] => some (x :: a)
  | x :: a, y :: b => if grLt x y then (mergeG a (y :: b)).map (x :: ·) else if grLt y x then (mergeG (x :: a) b).map (y :: ·) else if GrBad x y then none else (mergeG a b).map (grJ x y :: ·)
termination_by a b => a.length + b.length
def joinR (a b : SnM) (l : List NdM) (g : List GrM) : SnM := ⟨fun i => a.inn i || b.inn i, fun i => a.left i || b.left i, fun i => mxI (a.known i) (b.known i), l, g⟩
open Classical in
noncomputable def joinS (a b : SnM) : SnM × Int :=
  if ¬ MayP a ∨ ¬ MayP b then (sn0, 1) else
  match mergeN a.ns b.ns with
  | none => (sn0, 9)
  | some l => match mergeG a.gs b.gs with
    | none => (sn0, 14)
    | some g => if MayP (joinR a b l g) then (joinR a b l g, 0) else (sn0, 6)
def SameNd (x y : NdM) : Prop := x.id = y.id ∧ x.par = y.par ∧ ∀ p, p < 54 → x.R p = y.R p
structure SameSn (a b : SnM) : Prop where
  inn : ∀ i, i < 6 → a.inn i = b.inn i
  left : ∀ i, i < 6 → a.left i = b.left i
  known : ∀ i, i < 6 → a.known i = b.known i
  nn : a.ns.length = b.ns.length
  gn : a.gs.length = b.gs.length
  n : ∀ k, k < a.ns.length → SameNd (ndA a.ns k) (ndA b.ns k)
  g : ∀ k, k < a.gs.length → grA a.gs k = grA b.gs k
open Classical in
noncomputable def lessS (a b : SnM) : Bool := decide ((joinS a b).2 = 0 ∧ SameSn (joinS a b).1 b)
end Rt
end Go.Proofs.Ytkajcjefckjijaa
namespace Go.Proofs.Ytkajcjefckjijaa
open Go.RowKit Rt
open Fx (x_move x_assign x_field x_load1 x_pickF x_pickT x_nil x_conv x_indexS x_index x_leqF x_loadA x_len x_gtrF x_build x_eqlF x_eqlT Lv sN Ln Ws Qv Wl Rp Wc Qs Wr Sb Lk Wk rC rV sR)
namespace Rt
def U64r (x : Int) : Prop := 0 ≤ x ∧ x ≤ 18446744073709551615
def I64r (x : Int) : Prop := -9223372036854775808 ≤ x ∧ x ≤ 9223372036854775807
def Kr (K : Nat → Int) : Prop := ∀ i, i < 6 → U64r (K i)
theorem Kr.kd {K : Nat → Int} (h : Kr K) : Fx.Kd (List.replicate 6 (some .u64)) (Fx.rv .u64 K) := Fx.kd_rv fun i hi => Fx.wfu64 (h i hi)
theorem Kr.mx {K L : Nat → Int} (h : Kr K) (h2 : Kr L) : Kr (fun p => mx6 (K p) (L p)) := fun i hi => by
  have q1 := h i hi; have q2 := h2 i hi; show U64r (mx6 (K i) (L i)); unfold mx6; split <;> assumption
theorem less_iff {D K : Nat → Int} : (∀ i, i < 6 → Fx.rv .u64 (fun p => mx6 (D p) (K p)) i = Fx.rv .u64 K i) ↔ ∀ i, i < 6 → D i ≤ K i := by
  have e : ∀ i, (Fx.rv .u64 (fun p => mx6 (D p) (K p)) i = Fx.rv .u64 K i) ↔ D i ≤ K i := fun i => by
    show Value.int .u64 (mx6 (D i) (K i)) = .int .u64 (K i) ↔ _;simp only [Value.int.injEq, true_and]; unfold mx6; split <;> omega
  exact ⟨fun h i hi => (e i).1 (h i hi), fun h i hi => (e i).2 (h i hi)⟩
instance (D K : Nat → Int) : Decidable (∀ i, i < 6 → D i ≤ K i) := inferInstanceAs (Decidable (∀ i, i < 6 → D i ≤ K i))
def lessK (D K : Nat → Int) : Bool := decide (∀ i, i < 6 → D i ≤ K i)
def mayV6 (K : Nat → Int) : Bool := lessK K fun _ => 1099511627776
theorem top_kr : Kr fun _ => 1099511627776 := fun _ _ => ⟨by show (0 : Int) ≤ 1099511627776; decide, by show (1099511627776 : Int) ≤ 18446744073709551615; decide⟩
end Rt
theorem g_join2 {w : World} {g : Nat} {T : TypeId} {x : Nat → Value} (D K : Nat → Int) (h : Fx.Blk w g (2 * 6) x T) (e : ∀ j, j < 2 * 6 → x j = vx (V2 D K) j) :
    Calls Try.prog 20 #[.slice (some ⟨g, 0, none⟩) 2 2] w fun e w' => e = .returned (.agg (Fx.varr 6 (Fx.rv .u64 fun p => mx6 (D p) (K p)))) ∧ Below w.heap.size w w' :=
  g_join (some ⟨g, 0, none⟩) 2 2 (V2 D K) w (by omega) (fun _ => ⟨n_ _, g, 0, rfl, (h.congr e).cel⟩)
theorem Rt.V2_cells (z : Nat → Value) (D K : Nat → Int) : ∀ j, j < 2 * 6 → Fx.ovr (Fx.ovr z (0 * 6) 6 (Fx.rv .u64 D)) (1 * 6) 6 (Fx.rv .u64 K) j = vx (V2 D K) j := fun j hj => by
  unfold Fx.ovr vx;by_cases c : j < 6
  · rw [a_ (by omega), b_ (by omega), show j / 6 = 0 by omega, show j % 6 = j by omega]; rfl
  · rw [b_ (by omega), show j / 6 = 1 by omega, show j % 6 = j - 1 * 6 by omega]; rfl
theorem v_less (D K : Nat → Int) (w : World) (hD : Kr D) (hK : Kr K) :
    Calls Try.prog 66 #[.agg (Fx.varr 6 (Fx.rv .u64 D)), .agg (Fx.varr 6 (Fx.rv .u64 K))] w fun e w' => e = .returned (.bool (lessK D K)) ∧ Below w.heap.size w w' := by
 refine Fx.enter Try.func66 rfl (n := 11) rfl (by rfl) ?_;refine Ws (Wl (Fx.L.box (m := 6) (y := Fx.rv .u64 D) (by rfl) rfl rfl (Fx.cells_agg _ _) rfl fun g1 w1 eg1 m1 s1 z1 => ?_));have b1 := s1.below (Below.refl w.heap.size w) (Below.refl w.heap.size w).size (Below.refl w.heap.size w).size;have lg1 : w.heap.size ≤ g1 := by rw [eg1]; exact (Below.refl w.heap.size w).size
 have tg1 : g1 < w1.heap.size := m1.lt;clear eg1;refine Fx.L.box (m := 6) (y := Fx.rv .u64 K) (by rfl) rfl rfl (Fx.cells_agg _ _) rfl fun g2 w2 eg2 m2 s2 z2 => ?_;have m3 := m1.stp s2 m1.ne;have b2 := s2.below b1 b1.size b1.size;have lg2 : w.heap.size ≤ g2 := by rw [eg2]; exact b1.size
 have ng2m3 : g1 ≠ g2 := by rw [eg2]; exact l_ (m1.lt)
 have tg2 : g2 < w2.heap.size := m2.lt;clear eg2;refine Lv (.bool false) (x_assign rfl rfl) (Ln (sN (Ws ?_)));refine Fx.W.reord [0, 1, 4, 2, 3, 5, 6] [4, 4, 2, 2, 1, 0, 0] Fx.Mk Fx.Mk.refl Fx.Mk.trans (certs := [(2, 0, [0]), (3, 0, [2, 0]), (2, 1, [1]), (3, 1, [2, 1]), (3, 2, [2]), (5, 2, [3, 2]), (6, 2, [2]), (5, 3, [3]), (6, 3, [3])]) (by kernel_rfl) (by kernel_rfl) (by kernel_rfl) (by kernel_rfl) (by kernel_rfl) fun wt1 hbwt1 hzwt1 => ?_;have s3 : Fx.Stp w2.heap.size w2 wt1 := Sb hbwt1;have m4 := m3.stp s3 m3.ne;have m5 := m2.stp s3 m2.ne;have b3 := s3.below b2 b2.size b2.size;refine Fx.R.s (.agg (Fx.varr 6 (Fx.rv .u64 D))) (x_loadA (x := Fx.rv .u64 D) (y := Fx.rv .u64 D) rfl rfl (by kernel_rfl) (by kernel_rfl) m4.cel (i := 0) (by omega) (by omega) (fun j _ => by rw [r_])) ?_;refine Fx.R.s (.agg (Fx.varr 6 (Fx.rv .u64 K))) (x_loadA (x := Fx.rv .u64 K) (y := Fx.rv .u64 K) rfl rfl (by kernel_rfl) (by kernel_rfl) m5.cel (i := 0) (by omega) (by omega) (fun j _ => by rw [r_])) ?_;refine Fx.R.read (v := .agg (Fx.varr 6 (Fx.rv .u64 K))) (by rfl) (by rfl) (Fx.Mk.refl _) (fun v1 hv1 => x_loadA (x := Fx.rv .u64 K) (y := Fx.rv .u64 K) rfl rfl (by kernel_rfl) (by kernel_rfl) (m5.cel.below hv1 (by have := m5.lt; omega)) (i := 0) (by omega) (by omega) (fun j _ => by rw [r_])) ?_;refine Fx.R.make (by rfl) ?_;refine Fx.L.bslice (vs := [(0, .agg (Fx.varr 6 (Fx.rv .u64 D))), (1, .agg (Fx.varr 6 (Fx.rv .u64 K)))]) (s := 6) (zc := Fx.rv .u64 (fun _ => 0)) (y := Fx.ovr (Fx.ovr (fun j => (Fx.rv .u64 (fun _ => 0)) (j % 6)) (0 * 6) 6 (Fx.rv .u64 D)) (1 * 6) 6 (Fx.rv .u64 K)) (by rfl) rfl rfl Try.underlying102 (by kernel_rfl) (by rfl) (by rfl) (by kernel_rfl) (by rw [Fx.fill_step (off := 0 * 6) (s := 6) (y := Fx.rv .u64 D) rfl (Fx.cells_agg _ _) (by rfl)]; rw [Fx.fill_step (off := 1 * 6) (s := 6) (y := Fx.rv .u64 K) rfl (Fx.cells_agg _ _) (by rfl)]; rfl) rfl fun g3 w3 eg3 m6 s4 z3 => ?_;have b4 := s4.below b3 b3.size b3.size;have lg3 : w.heap.size ≤ g3 := by rw [eg3]; exact b3.size
 have ng3m7 : g1 ≠ g3 := by rw [eg3]; exact l_ (m4.lt)
 have ng3m8 : g2 ≠ g3 := by rw [eg3]; exact l_ (m5.lt)
 have tg3 : g3 < w3.heap.size := m6.lt;clear eg3;refine Ln ⟨s4.old, ?_⟩;refine Fx.R.make (by rfl) ?_;refine Fx.L.call (by rfl) (rC (args := [.slice (some ⟨g3, 0, none⟩) (2) (2)]) rfl rfl Try.func20 rfl rfl) rfl ((g_join2 D K m6 (V2_cells _ D K)).mono ?_);rintro e w4 ⟨he, hb1⟩;refine ⟨.agg (Fx.varr 6 (Fx.rv .u64 (fun p => mx6 (D p) (K p)))), by rw [he], ?_⟩;clear he;have s5 := Sb hb1;have b5 := s5.below b4 b4.size b4.size;refine Ln ⟨s5.old, ?_⟩;by_cases c10 : ∀ i, i < 6 → (Fx.rv .u64 (fun p => mx6 (D p) (K p))) i = (Fx.rv .u64 K) i
 ·refine Rp (.bool true) (fun v1 => Fx.x_eqlA (n := 6) (ks := List.replicate 6 (some .u64)) (X := Fx.rv .u64 (fun p => mx6 (D p) (K p))) (Y := Fx.rv .u64 K) 12 true rfl rfl rfl (Fx.yesb c10) (hD.mx hK).kd hK.kd rfl (by kernel_rfl) (by kernel_rfl) (by kernel_rfl) (by kernel_rfl) (by kernel_rfl)) (Rp (.bool true) (fun v1 => x_assign rfl rfl) (Fx.R.nil (sN (Wr (⟨.bool true, rV Try.results66 (by exact rfl), ?_⟩)))));exact ⟨u_ (fun q => Ending.returned (Value.bool q)) (Eq.symm (c_ (less_iff.1 c10))), b5⟩
 refine Rp (.bool false) (fun v1 => Fx.x_eqlA (n := 6) (ks := List.replicate 6 (some .u64)) (X := Fx.rv .u64 (fun p => mx6 (D p) (K p))) (Y := Fx.rv .u64 K) 12 false rfl rfl rfl (Fx.nob c10) (hD.mx hK).kd hK.kd rfl (by kernel_rfl) (by kernel_rfl) (by kernel_rfl) (by kernel_rfl) (by kernel_rfl)) (Rp (.bool false) (fun v1 => x_assign rfl rfl) (Fx.R.nil (sN (Wr (⟨.bool false, rV Try.results66 (by exact rfl), ?_⟩)))));exact ⟨u_ (fun q => Ending.returned (Value.bool q)) (Eq.symm (d_ (fun h => c10 (less_iff.2 h)))), b5⟩
theorem v_may1 (k : Int) (w : World) :
    Calls Try.prog 68 #[.int .i64 (k)] w fun e w' => e = .returned (.int .u64 1099511627776) ∧ w' = w := by
 refine Fx.enter Try.func68 rfl (n := 3) rfl (by rfl) ?_;refine Ws (Wl (Lv (.int .u64 (0)) (x_assign rfl rfl) (Ln (sN (Ws (Wl (Lv (.int .u64 (1099511627776)) (x_assign rfl rfl) (Ln (sN (Wr (⟨.int .u64 (1099511627776), rV Try.results68 (by exact rfl), ?_⟩)))))))))));exact ⟨rfl, rfl⟩
theorem v_eachm (w : World) :
    Calls Try.prog 67 #[.func (.func 68) #[] #[]] w fun e w' => e = .returned (.agg (Fx.varr 6 (Fx.rv .u64 (fun _ => 1099511627776)))) ∧ Below w.heap.size w w' := by
 refine Fx.enter Try.func67 rfl (n := 14) rfl (by rfl) ?_;refine Ws (Wl (Fx.L.new (m := 6) (y := Fx.rv .u64 (fun _ => 0)) (by rfl) rfl (by kernel_rfl) rfl fun g1 w1 eg1 m1 s1 z1 => ?_));have b1 := s1.below (Below.refl w.heap.size w) (Below.refl w.heap.size w).size (Below.refl w.heap.size w).size;have lg1 : w.heap.size ≤ g1 := by rw [eg1]; exact (Below.refl w.heap.size w).size
 have tg1 : g1 < w1.heap.size := m1.lt;clear eg1;refine Ln (sN (Ws (Ws (Wl (Lv (.int .i64 (0)) (x_move rfl rfl) (Ln (sN (Fx.W.block ?_))))))));have m2 : Fx.Blk w1 g1 6 (Fx.rv .u64 (eachT (fun _ => 1099511627776) 0)) 25 := m1;refine Fx.W.loop (fun f w_ => ∃ k : Nat, k ≤ 6 ∧ f 0 = .func (.func 68) #[] #[] ∧ f 2 = (pt g1) ∧ f 4 = .int .i64 (k : Int) ∧ Fx.Blk w_ g1 6 (Fx.rv .u64 (eachT (fun _ => 1099511627776) k)) 25 ∧ Below w.heap.size w w_) (fun f _ => (6 - (intOf (f 4)).toNat)) ⟨0, by omega, (by rfl), (by rfl), Fx.ic, m2, b1⟩ ?_;rintro f1 w2 ⟨k, hk, h1, h2, h3, m3, b2⟩;refine Ws (Wl ?_);by_cases c5 : (k : Int) < 6
 ·refine Lv (.bool true) (Fx.x_lssT rfl h3 rfl c5) (Ln (sN (Ws (Wc (b := true) rfl (fun _ => Wk (sN (Ws (Fx.W.block (Ws (Wl (Lv (.int .i64 (k : Int)) (x_move rfl h3) ?_))))))) (fun h => nomatch h)))));refine Lv (.int .i64 (k : Int)) (x_assign rfl rfl) (Ln (sN (Wl (Lv (.int .i64 (k : Int)) (x_move rfl rfl) (Lv (.func (.func 68) #[] #[]) (x_move rfl h1) (Lv (.int .i64 (k : Int)) (x_move rfl rfl) (Fx.L.call (by rfl) (Fx.r_clo (args := [.int .i64 (k : Int)]) rfl rfl rfl (all := #[.int .i64 (k : Int)]) rfl Try.func68 rfl rfl) rfl ((v_may1 (k : Int) _).mono ?_))))))));rintro e v1 ⟨he, hv1⟩;subst v1;refine ⟨.int .u64 (1099511627776), by rw [he], ?_⟩;clear he;refine Lv (pf g1 k) (x_index rfl h2 rfl Try.underlying25 (s := 1) (by kernel_rfl) (by omega) (by omega) (by omega)) (Fx.L.store1 (x := Fx.rv .u64 (eachT (fun _ => 1099511627776) k)) (u := .int .u64 (1099511627776)) (by rfl) rfl rfl rfl rfl (by rfl) (by kernel_rfl) m3 (i := k) (by omega) fun w3 m4 s2 z2 => ?_);have m5 : Fx.Blk w3 g1 6 (Fx.rv .u64 (upd (eachT (fun _ => 1099511627776) k) k 1099511627776)) 25 := m4.to (Fx.updV_rv _ _ _ _);have b3 := s2.below b2 b2.size (by omega);refine Ln (Fx.blkN (sN (Wl (Lv (.int .i64 ((k : Int) + 1)) (Fx.x_add rfl h3 rfl Fx.io) (Lv (.int .i64 ((k : Int) + 1)) (x_move rfl rfl) (Ln ?_))))));have m6 := m5.to (u_ (Fx.rv .u64) (eachT_succ (fun _ => 1099511627776) k));refine Fx.lpN ⟨k + 1, by omega, h1, h2, Fx.ic, m6, b3⟩ ?_;show (6 - (intOf (.int .i64 ((k : Int) + 1))).toNat) < _;simp only [h3, intOf]; omega
 refine Lv (.bool false) (Fx.x_lssF rfl h3 rfl c5) (Ln (sN (Ws (Wc (b := false) rfl (fun h => nomatch h) (fun _ => Fx.W.exit (Fx.seqX (Fx.lpX (Fx.blkX (sN (Ws (Wl (Lv (.agg (Fx.varr 6 (Fx.rv .u64 (eachT (fun _ => 1099511627776) k)))) (x_loadA (x := Fx.rv .u64 (eachT (fun _ => 1099511627776) k)) (y := Fx.rv .u64 (eachT (fun _ => 1099511627776) k)) rfl h2 (by kernel_rfl) (by kernel_rfl) m3.cel (i := 0) (by omega) (by omega) (fun j _ => by rw [r_])) (Fx.L.storeA (x := Fx.rv .u64 (eachT (fun _ => 1099511627776) k)) (y := Fx.rv .u64 (eachT (fun _ => 1099511627776) k)) (by rfl) rfl rfl h2 rfl (fun _ _ => rfl) (by kernel_rfl) m3 (i := 0) (by omega) fun w4 m7 s3 z3 => ?_)))))))))))));have m8 : Fx.Blk w4 g1 6 (Fx.rv .u64 (eachT (fun _ => 1099511627776) k)) 25 := Fx.ovr_all m7;have b4 := s3.below b2 b2.size (by omega);refine Ln (sN (Wr (⟨.agg (Fx.varr 6 (Fx.rv .u64 (eachT (fun _ => 1099511627776) k))), rV Try.results67 ⟨_, h2, Fx.run_loadV m8.cel (by kernel_rfl) (by kernel_rfl)⟩, ?_⟩)));have e6 : k = 6 := by omega
 exact ⟨by rw [e6, eachT_end], b4⟩
theorem v_mayv (K : Nat → Int) (w : World) (hK : Kr K) :
    Calls Try.prog 36 #[.agg (Fx.varr 6 (Fx.rv .u64 K))] w fun e w' => e = .returned (.bool (mayV6 K)) ∧ Below w.heap.size w w' := by
 refine Fx.enter Try.func36 rfl (n := 6) rfl (by rfl) ?_;refine Ws (Wl (Fx.L.box (m := 6) (y := Fx.rv .u64 K) (by rfl) rfl rfl (Fx.cells_agg _ _) rfl fun g1 w1 eg1 m1 s1 z1 => ?_));have b1 := s1.below (Below.refl w.heap.size w) (Below.refl w.heap.size w).size (Below.refl w.heap.size w).size;have lg1 : w.heap.size ≤ g1 := by rw [eg1]; exact (Below.refl w.heap.size w).size
 have tg1 : g1 < w1.heap.size := m1.lt;clear eg1;refine Lv (.bool false) (x_assign rfl rfl) (Ln (sN (Ws ?_)));refine Fx.W.quiet (fun v1 => Below w1.heap.size w1 v1) (by kernel_rfl) (by kernel_rfl) (Below.refl _ _).drew ?_;refine Qv (.agg (Fx.varr 6 (Fx.rv .u64 K))) (fun v1 hv1 => x_loadA (x := Fx.rv .u64 K) (y := Fx.rv .u64 K) rfl rfl (by kernel_rfl) (by kernel_rfl) (m1.cel.below hv1 (by have := m1.lt; omega)) (i := 0) (by omega) (by omega) (fun j _ => by rw [r_])) (Fx.Qt.call (v := .agg (Fx.varr 6 (Fx.rv .u64 (fun _ => 1099511627776)))) (by rfl) (fun v1 hv1 => rC (args := [.func (.func 68) #[] #[]]) rfl rfl Try.func67 rfl rfl) rfl (fun v1 hv1 => (v_eachm _).mono fun e v2 h => ⟨h.1, bch hv1 h.2⟩) ?_);by_cases c5 : (lessK K (fun _ => 1099511627776)) = true
 ·refine Fx.Qt.call (v := .bool true) (by rfl) (fun v1 hv1 => rC (args := [.agg (Fx.varr 6 (Fx.rv .u64 K)), .agg (Fx.varr 6 (Fx.rv .u64 (fun _ => 1099511627776)))]) rfl rfl Try.func66 rfl rfl) rfl (fun v1 hv1 => (v_less K (fun _ => 1099511627776) _ hK top_kr).mono fun e v2 h => ⟨by rw [h.1, c5], bch hv1 h.2⟩) ?_;refine Qv (.bool true) (fun v1 hv1 => x_assign rfl rfl) (Fx.Qt.nil ?_);intro wb1 hbwb1;have s2 : Fx.Stp w1.heap.size w1 wb1 := Sb hbwb1;have b2 := s2.below b1 b1.size b1.size;refine sN (Wr (⟨.bool true, rV Try.results36 (by exact rfl), ?_⟩));exact ⟨u_ (fun q => Ending.returned (Value.bool q)) c5.symm, b2⟩
 rw [A_] at c5;refine Fx.Qt.call (v := .bool false) (by rfl) (fun v1 hv1 => rC (args := [.agg (Fx.varr 6 (Fx.rv .u64 K)), .agg (Fx.varr 6 (Fx.rv .u64 (fun _ => 1099511627776)))]) rfl rfl Try.func66 rfl rfl) rfl (fun v1 hv1 => (v_less K (fun _ => 1099511627776) _ hK top_kr).mono fun e v2 h => ⟨by rw [h.1, c5], bch hv1 h.2⟩) ?_;refine Qv (.bool false) (fun v1 hv1 => x_assign rfl rfl) (Fx.Qt.nil ?_);intro wb2 hbwb2;have s3 : Fx.Stp w1.heap.size w1 wb2 := Sb hbwb2;have b3 := s3.below b1 b1.size b1.size;refine sN (Wr (⟨.bool false, rV Try.results36 (by exact rfl), ?_⟩));exact ⟨u_ (fun q => Ending.returned (Value.bool q)) c5.symm, b3⟩
theorem Rt.le_step6 {K : Nat → Int} {b : Int} {i : Nat} (h : ∀ q, q < i → K q ≤ b) (hk : K i ≤ b) : ∀ q, q < i + 1 → K q ≤ b := fun q hq => by
  by_cases e : q = i
  · rw [e]; exact hk
  · exact h q (by omega)
theorem r6_may (K : Nat → Int) (w : World) :
    Calls Try.prog 44 #[.agg (Fx.varr 6 (Fx.rv .u64 K))] w fun e w' => e = .returned (.bool (mayV6 K)) ∧ Below w.heap.size w w' := by
 refine Fx.enter Try.func44 rfl (n := 12) rfl (by rfl) ?_;refine Ws (Wl (Fx.L.box (m := 6) (y := Fx.rv .u64 K) (by rfl) rfl rfl (Fx.cells_agg _ _) rfl fun g1 w1 eg1 m1 s1 z1 => ?_));have b1 := s1.below (Below.refl w.heap.size w) (Below.refl w.heap.size w).size (Below.refl w.heap.size w).size;have lg1 : w.heap.size ≤ g1 := by rw [eg1]; exact (Below.refl w.heap.size w).size
 have tg1 : g1 < w1.heap.size := m1.lt;clear eg1;refine Lv (.bool false) (x_assign rfl rfl) (Ln (sN (Ws (Ws (Wl (Lv (.int .i64 (0)) (x_assign rfl rfl) (Ln (sN (Fx.W.block (Fx.W.loop (fun f w_ => ∃ i : Nat, i ≤ 6 ∧ (∀ q, q < i → K q ≤ 1099511627776) ∧ f 1 = (pt g1) ∧ f 3 = .int .i64 (i : Int) ∧ Fx.Blk w_ g1 6 (Fx.rv .u64 K) 25 ∧ Below w.heap.size w w_) (fun f _ => (6 - (intOf (f 3)).toNat)) ⟨0, by omega, (fun q h => v_ h (by omega)), (by rfl), Fx.ic, m1, b1⟩ ?_))))))))));rintro f1 w2 ⟨i, hi, hall, h1, h2, m2, b2⟩;refine Ws (Ws (Wl (Lv (.int .i64 (i : Int)) (x_move rfl h2) ?_)));by_cases c5 : (i : Int) < 6
 ·refine Lv (.bool true) (Fx.x_lssT rfl rfl rfl c5) (Ln (sN (Wc (b := true) rfl (fun _ => Wk (sN (Ws (Fx.W.block (Ws (Wl (Lv (.int .i64 (i : Int)) (x_move rfl h2) ?_))))))) (fun h => nomatch h))));refine Lv (pf g1 i) (x_index rfl h1 rfl Try.underlying25 (s := 1) (by kernel_rfl) (by omega) (by omega) (by omega)) (Lv (.int .u64 (K i)) (x_load1 (x := Fx.rv .u64 K) rfl rfl (by kernel_rfl) m2.cel (i := i) (by omega) (by omega) rfl) ?_);by_cases c11 : 1099511627776 < (K i)
  ·refine Lv (.bool true) (Fx.x_gtrT rfl rfl rfl c11) (Ln (sN (Wc (b := true) rfl (fun _ => Ws (Wl (Lv (.bool false) (x_assign rfl rfl) ?_))) (fun h => nomatch h))));refine Ln (sN (Wr (Fx.blkR (sR (Fx.lpR (Fx.blkR (sR (⟨.bool false, rV Try.results44 (by exact rfl), ?_⟩))))))));exact ⟨u_ (fun q => Ending.returned (Value.bool q)) (Eq.symm (d_ (fun h => by have : K i ≤ 1099511627776 := h i (by omega); omega))), b2⟩
  refine Lv (.bool false) (x_gtrF rfl rfl rfl c11) (Ln (sN (Wc (b := false) rfl (fun h => nomatch h) (fun _ => Wk (Fx.blkN (sN (Wl (Lv (.int .i64 (i : Int)) (x_move rfl h2) (Lv (.int .i64 ((i : Int) + 1)) (Fx.x_add rfl rfl rfl Fx.io) (Lv (.int .i64 ((i : Int) + 1)) (x_assign rfl rfl) (Ln (Fx.lpN ⟨i + 1, by omega, (le_step6 hall (by omega)), h1, Fx.ic, m2, b2⟩ ?_))))))))))));show (6 - (intOf (.int .i64 ((i : Int) + 1))).toNat) < _;simp only [h2, intOf]; omega
 refine Lv (.bool false) (Fx.x_lssF rfl rfl rfl c5) (Ln (sN (Wc (b := false) rfl (fun h => nomatch h) (fun _ => Fx.W.exit (Fx.seqX (Fx.lpX (Fx.blkX (sN (Ws (Wl (Lv (.bool true) (x_assign rfl rfl) (Ln (sN (Wr (⟨.bool true, rV Try.results44 (by exact rfl), ?_⟩)))))))))))))));exact ⟨u_ (fun q => Ending.returned (Value.bool q)) (Eq.symm (c_ (fun q hq => hall q (by omega)))), b2⟩
end Go.Proofs.Ytkajcjefckjijaa
namespace Go.Proofs.Ytkajcjefckjijaa.Fx
open Go.RowKit
section
variable {P : Program} {n : Nat} {Q : Post} {f : Nat → Value} {w : World} {ops : Array Oper} {rest : List Oper} {o : Oper}
theorem x_and {T T' : TypeId} {x y : Operand} {k : IntKind} {a b c : Int} (ho : o.op = .binOp .and T x y T') (hx : ev f x = .int k a) (hy : ev f y = .int k b) (hc : bits .and k a b = c) : Runs P f o w (.int k c) :=
  x_int ho hx hy (by simp [binOp, intBits_and, hc])
theorem x_or {T T' : TypeId} {x y : Operand} {k : IntKind} {a b c : Int} (ho : o.op = .binOp .or T x y T') (hx : ev f x = .int k a) (hy : ev f y = .int k b) (hc : bits .or k a b = c) : Runs P f o w (.int k c) :=
  x_int ho hx hy (by simp [binOp, intBits_or, hc])
theorem runs_e {k : IntKind} {a b : Int} (h : Runs P f o w (.int k a)) (e : a = b) : Runs P f o w (.int k b) := e ▸ h
theorem x_sl {T E : TypeId} {x : Operand} {lo hi : Option Operand} {a : Option Addr} {k c s j h : Nat} (ho : o.op = .slice T x lo hi none) (hx : ev f x = .slice a k c)
    (hl : lo.map (ev f) = (if j = 0 ∧ lo = none then none else some (.int .i64 j))) (hh : hi.map (ev f) = (if h = k ∧ hi = none then none else some (.int .i64 h)))
    (hu : P.underlying T = some (.slice E)) (hs : (P.info? E).map (·.size) = some s) (h1 : j ≤ h) (h2 : h ≤ c) :
    Runs P f o w (.slice (if c = j then a else a.map (·.add (j * s))) (h - j) (c - j)) := by
  obtain ⟨i, hi', hi2⟩ := Option.map_eq_some_iff.1 hs;unfold Runs execOp;simp only [ho, hx, hl, hh];have e1 : (j : Int) ≤ (h : Int) := by omega
  have e2 : (h : Int) ≤ (c : Int) := by omega
  by_cases c1 : j = 0 ∧ lo = none
  · obtain ⟨rfl, _⟩ := c1
    by_cases c2 : h = k ∧ hi = none
    · obtain ⟨rfl, _⟩ := c2
      simp [*, Instr.sliceAt, Instr.slice, underlying, Instr.sliceBounds, sizeOf, typeInfo]
    simp [*, Instr.sliceAt, Instr.slice, underlying, Instr.sliceBounds, Instr.sliceBound, asIntOf, sizeOf, typeInfo]
  by_cases c2 : h = k ∧ hi = none
  · obtain ⟨rfl, _⟩ := c2
    simp [*, Instr.sliceAt, Instr.slice, underlying, Instr.sliceBounds, Instr.sliceBound, asIntOf, sizeOf, typeInfo]
  simp [*, Instr.sliceAt, Instr.slice, underlying, Instr.sliceBounds, Instr.sliceBound, asIntOf, sizeOf, typeInfo]
theorem L.sl {w0 : World} {T E : TypeId} {x : Operand} {lo hi : Option Operand} {a : Option Addr} {k c s j h : Nat} {y : Nat → Value} (hw : Region.wanted o (yf ops f) = true) (hd : inn n o.dst = true) (ho : o.op = .slice T x lo hi none) (hx : ev f x = .slice a k c)
    (hl : lo.map (ev f) = (if j = 0 ∧ lo = none then none else some (.int .i64 j))) (hh : hi.map (ev f) = (if h = k ∧ hi = none then none else some (.int .i64 h)))
    (hu : P.underlying T = some (.slice E)) (hs : (P.info? E).map (·.size) = some s) (h1 : j ≤ h) (h2 : h ≤ k) (h3 : k ≤ c) (hA : Arr w0 a k s y)
    (hc : ∀ a', Arr w0 a' (h - j) s (fun p => y (j * s + p)) → L P n ops Q rest (put f o.dst (.slice a' (h - j) (c - j))) w) : L P n ops Q (o :: rest) f w := by
  refine Lv _ (x_sl ho hx hl hh hu hs h1 (by omega)) (hc _ fun h0 => ?_) hw hd;obtain ⟨b, off, rfl, hcel⟩ := hA (by omega);rw [a_ (by omega)];refine ⟨b, off + j * s, by simp [addr_add], fun p hp => ?_⟩;have hlt : j * s + p < k * s := by
    have e : (h - j) * s = h * s - j * s := Nat.sub_mul _ _ _;have := Nat.mul_le_mul_right s h1;have := Nat.mul_le_mul_right s h2;omega
  have := hcel (j * s + p) hlt;rw [show off + j * s + p = off + (j * s + p) by omega]; exact this
theorem L.mk0 {T E : TypeId} {x y : Operand} {kl kc : IntKind} {c s bytes : Nat} (hw : Region.wanted o (yf ops f) = true) (hd : inn n o.dst = true) (ho : o.op = .makeSlice T x y) (hx : ev f x = .int kl 0) (hy : ev f y = .int kc (c : Int))
    (hu : P.underlying T = some (.slice E)) (hi : (P.info? E).map (fun i => (i.size, i.bytes)) = some (s, bytes)) (hz : ((P.info? E).bind (·.zero)).map (·.cells.size) = some s) (hb : c * bytes ≤ 140737488355328) (h63 : c ≤ 140737488355328)
    (h : ∀ g w', g = w.heap.size → (∀ B z, B ≤ g → Own w' B E s (.slice (some ⟨g, 0, none⟩) 0 c) 0 z) → Stp w.heap.size w w' → L P n ops Q rest (put f o.dst (.slice (some ⟨g, 0, none⟩) 0 c)) w') : L P n ops Q (o :: rest) f w := by
  obtain ⟨i, hi1, hi2⟩ := Option.map_eq_some_iff.1 hi;obtain ⟨z, hz1, hz2⟩ := Option.map_eq_some_iff.1 hz;obtain ⟨i2, hi3, hz3⟩ := Option.bind_eq_some_iff.1 hz1;rw [hi1] at hi3;injection hi3 with hi3;subst hi3;injection hi2 with hs1 hs2;have hb' : i.bytes * c ≤ 281474976710656 := by rw [hs2, Nat.mul_comm]; omega
  have h63' : (c : Int) ≤ 9223372036854775807 := by omega
  have hb2 : (i.bytes : Int) * (c : Int) ≤ 281474976710656 := by
    have h : ((i.bytes * c : Nat) : Int) ≤ 281474976710656 := by omega
    rwa [Int.natCast_mul] at h
  have hr := run_make (P := P) w T E i z hu hi1 hz3 kl kc 0 c (x_ _) (by omega) hb2 h63';simp only [Int.toNat_zero, Int.toNat_natCast] at hr;have hrun : (execOp (ev f) o).run P w = .ok (.value (.slice (some ⟨w.heap.size, 0, none⟩) 0 c)) (w.alloc (.cells (madeCells z.cells (c * i.size)) E)) := by
    unfold execOp;simp only [ho, hx, hy, Sem.run_bind, hr, Result.andThen_ok, Sem.run_pure]
  refine L.val hw hrun hd (h _ _ rfl (fun B x hB => ⟨by simp, .inr ⟨w.heap.size, c, _, rfl, hB, heap_alloc_new w _, t_ _, by unfold maxLen; omega, ?_, by simp⟩⟩) (Stp.alloc _ _));rw [size_madeCells, hs1]
theorem L.appG {B : Nat} {E T : TypeId} {s bytes k m c c2 : Nat} {x y : Nat → Value} {b off b2 off2 : Nat} {sx xx : Operand} (hw : Region.wanted o (yf ops f) = true) (ho : o.op = .call { callee := .builtin .append, args := #[sx, xx], argTypes := #[T, T] }) (hsx : ev f sx = .slice (some ⟨b, off, none⟩) k c) (hxx : ev f xx = .slice (some ⟨b2, off2, none⟩) m c2)
    (hu : P.underlying T = some (.slice E)) (hi : (P.info? E).map (fun i => (i.size, i.bytes)) = some (s, bytes)) (hz : ((P.info? E).bind (·.zero)).map (·.cells.size) = some s) (hs : Nat.blt 0 s = true) (hd : inn n o.dst = true)
    (hx : Cel w b off (k * s) x) (hy : Cel w b2 off2 (m * s) y) (hg : c < k + m) (hkc : k ≤ c) (hbytes : (k + m) * bytes ≤ 140737488355328) (h63 : k + m ≤ 140737488355328) (hB : B ≤ w.heap.size)
    (h : ∀ g cap w', g = w.heap.size → Own w' B E s (.slice (some ⟨g, 0, none⟩) (k + m) cap) (k + m) (appX x (k * s) y) → Stp w.heap.size w w' → L P n ops Q rest (put f o.dst (.slice (some ⟨g, 0, none⟩) (k + m) cap)) w') : L P n ops Q (o :: rest) f w := by
  obtain ⟨i, hi1, hi2⟩ := Option.map_eq_some_iff.1 hi;obtain ⟨z, hz1, hz2⟩ := Option.map_eq_some_iff.1 hz;obtain ⟨i2, hi3, hz3⟩ := Option.bind_eq_some_iff.1 hz1;rw [hi1] at hi3;injection hi3 with hi3;subst hi3;injection hi2 with hs1 hs2;subst hs1 hs2;have lst : ∀ {b off q : Nat} {x : Nat → Value}, Cel w b off q x → ∀ j v, ((List.range q).map x)[j]? = some v → w.cell? ((⟨b, off, none⟩ : Addr).add j) = some v := fun {b off q x} hc j v hj => by
    by_cases hjl : j < q
    · simp [hjl] at hj
      rw [addr_add, ← hj]; exact hc j hjl
    · rw [List.getElem?_eq_none (by simp; omega)] at hj; cases hj
  have hr := run_append_grow (P := P) w T o.type E i z hu hi1 hz3 ⟨b, off, none⟩ k c ((List.range (k * i.size)).map x) (by simp) (lst hx) ⟨b2, off2, none⟩ m c2 ((List.range (m * i.size)).map y) (by simp) (lst hy) hg (by omega) (growslice_fits (by omega) hbytes);have hrun : (execOp (ev f) o).run P w = .ok (.value (.slice (some ⟨w.heap.size, 0, none⟩) (k + m) (grownCap w (k + m) c E))) (w.drew.alloc (.cells (((List.range (k * i.size)).map x).toArray ++ ((List.range (m * i.size)).map y).toArray ++ Builtin.zeroCells z.cells (grownCap w (k + m) c E - (k + m))) E)) := by
    unfold execOp;simp only [ho];unfold resolve invoke;simp only [List.map_toArray, List.map_cons, List.map_nil, hsx, hxx];unfold builtin;simp only [Sem.run_bind, Sem.run_pure, Result.andThen_ok, hr]
  have hge := grownCap_ge w (k + m) c E;have hcm : grownCap w (k + m) c E ≤ maxLen := grownCap_le_maxLen w (k + m) c E (by unfold maxLen; omega);refine L.val hw hrun hd (h _ _ _ rfl ⟨by simp, .inr ⟨w.heap.size, _, _, rfl, hB, heap_alloc_new w.drew _, hge, hcm, ?_, ?_⟩⟩ ?_)
  · simp only [Array.size_append, List.size_toArray, size_zeroCells, hz2, List.length_map, List.length_range, ← Nat.add_mul]
    congr 1; omega
  · simp only [Array.toList_append, List.append_assoc]
    rw [Nat.add_mul, ← appX_list, ← List.append_assoc, List.take_left' (by simp)]
  exact ⟨rfl, rfl, rfl, by simp, fun q hq _ => heap_alloc_old w.drew _ hq⟩
theorem L.mark {T E : TypeId} {x : Operand} {g m q c : Nat} {y : Nat → Value} (hw : Region.wanted o (yf ops f) = true) (hd : inn n o.dst = true) (ho : o.op = .convert T T x) (hx : ev f x = .slice (some ⟨g, 0, none⟩) m c)
    (hu : P.underlying T = some (.slice E)) (he : P.underlying E = some (.int .u8)) (hb : Blk w g q y E)
    (h : ∀ w', Cel w' g 0 q y → Stp g w w' → L P n ops Q rest (put f o.dst (.slice (some ⟨g, 0, none⟩) m c)) w') : L P n ops Q (o :: rest) f w := by
  have hb0 : w.heap[g]? = some (.cells (varr q y) E (0, 0)) := hb;have hsh : w.shape? g = some (E, q) := by
    unfold World.shape?;rw [hb0];simp [varr_size]
  obtain ⟨w', hw'⟩ : ∃ w', w' = w.freeze ⟨g, q, none⟩ 1 := ⟨_, rfl⟩;have hrun : (execOp (ev f) o).run P w = .ok (.value (.slice (some ⟨g, 0, none⟩) m c)) w' := by
    unfold execOp;simp [ho, hx, convert, run_underlying hu, run_underlying he, markStringish, hsh, hw']
  have hother : ∀ k, k ≠ g → w'.heap[k]? = w.heap[k]? := fun k hk => by
    rw [hw'];unfold World.freeze;rw [a_ (by decide)];show (w.heap.modify g _)[k]? = _;rw [Array.getElem?_modify, a_ (fun e => hk e.symm)]
  have hat : ∃ fz, w'.heap[g]? = some (.cells (varr q y) E fz) := by
    rw [hw'];unfold World.freeze;rw [a_ (by decide)];refine ⟨?_, ?_⟩
    rotate_left
    · show (w.heap.modify g _)[g]? = _
      rw [Array.getElem?_modify, b_ rfl, hb0];rfl
  obtain ⟨fz, hat⟩ := hat;refine L.val hw hrun hd (h _ ?_ ?_)
  · intro j hj
    rw [r_];unfold World.cell?;simp only [hat];exact varr_get y hj
  refine ⟨by rw [hw']; unfold World.freeze; rw [a_ (by decide)], by rw [hw']; unfold World.freeze; rw [a_ (by decide)], by rw [hw']; unfold World.freeze; rw [a_ (by decide)], ?_, fun k _ hk => hother k hk⟩;rw [hw']; unfold World.freeze; rw [a_ (by decide)];show w.heap.size ≤ (w.heap.modify g _).size;rw [Array.size_modify]; exact n_ _
def strL (l : List UInt8) : ByteArray := ⟨l.toArray⟩
def byY (l : List UInt8) : Nat → Value := fun q => .int .u8 ((l.getD q 0).toNat : Int)
theorem strL_list (l : List UInt8) : (strL l).toList = l := by
  unfold strL;simp
theorem x_bstr {S T E : TypeId} {x : Operand} {a : Option Addr} {m c : Nat} {l : List UInt8} (ho : o.op = .convert S T x) (hx : ev f x = .slice a m c) (hu : P.underlying S = some (.slice E)) (he : P.underlying E = some (.int .u8)) (ht : P.underlying T = some .string)
    (hm : m = l.length) (hA : Arr w a m 1 (byY l)) : Runs P f o w (.string (strL l)) := by
  subst hm;unfold Runs execOp;simp only [ho, hx, Sem.run_bind, run_convert_bytes_string w S T E a l.length c hu he ht];by_cases h0 : 0 < l.length
  · obtain ⟨b, off, rfl, hc⟩ := hA h0
    have hl : (loadCells (⟨b, off, none⟩ : Addr) l.length).run P w = .ok ((l.map fun u => (u.toNat : Int)).map (Value.int .u8)).toArray w := by
      have := run_loadCells_list (P := P) w ⟨b, off, none⟩ ((l.map fun u => (u.toNat : Int)).map (Value.int .u8)) (by
        intro j v hj;rw [List.map_map] at hj;by_cases hjl : j < l.length
        · have h1 := hc j (by omega)
          rw [addr_add, h1];rw [List.getElem?_map, i_ hjl] at hj;simp at hj;unfold byY;rw [j_, i_ hjl, ← hj]; rfl
        · rw [List.getElem?_eq_none (by simp; omega)] at hj; cases hj)
      rwa [show ((l.map fun u => (u.toNat : Int)).map (Value.int .u8)).length = l.length by simp] at this
    rw [run_bytesToString w _ l.length c (l.map fun u => (u.toNat : Int)) hl];have e : ∀ (l : List UInt8) (s : ByteArray), (l.map fun u => (u.toNat : Int)).foldl (fun r n => r.push (UInt8.ofNat n.toNat)) s = ⟨s.data ++ l.toArray⟩ := by
      intro l
      induction l with
      | nil => intro s; simp
      | cons u l ih =>
        intro s;rw [List.map_cons, List.foldl_cons, ih]
        congr 1
        apply Array.ext';simp [ByteArray.push]
    rw [e];simp [strL, ByteArray.empty, ByteArray.emptyWithCapacity];rfl
  have e : l = [] := List.length_eq_zero_iff.1 (by omega);subst e;simp [Conv.bytesToString, strL]
  cases a with
  | none => rfl
  | some ad => simp [loadCells, loadCellsFrom]; rfl
theorem x_eqlS {T T' : TypeId} {x y : Operand} {l l' : List UInt8} (ho : o.op = .binOp .eql T x y T') (hx : ev f x = .string (strL l)) (hy : ev f y = .string (strL l')) : Runs P f o w (.bool (decide (l = l'))) := by
  unfold Runs execOp;simp only [ho, hx, hy];have hg : (eqGuard .eql T x y (.string (strL l)) (.string (strL l'))).run P w = .ok () w := by unfold eqGuard; rfl
  simp only [Sem.run_bind, hg, Result.andThen_ok];simp [binOp, Op.stringOp, strL_list];by_cases h : l = l'
  · simp [h]
  simp [h]
end
end Go.Proofs.Ytkajcjefckjijaa.Fx
namespace Go.Proofs.Ytkajcjefckjijaa
open Go.RowKit Rt
open Fx (x_move x_assign x_field x_load1 x_pickF x_pickT x_nil x_conv x_indexS x_index x_leqF x_loadA x_len x_gtrF x_build x_eqlF x_eqlT Lv sN Ln Ws Qv Wl Rp Wc Qs Wr Sb Lk Wk rC rV sR)
namespace Rt
theorem be_len : ∀ (k : Nat) (x : Int), (be k x).length = k
  | 0, _ => rfl
  | k + 1, x => by show (be k x).length + 1 = k + 1; rw [be_len]
theorem be_get : ∀ (k : Nat) (x : Int) (j : Nat), j < k → (be k x)[j]? = some (byI (x / 256 ^ (k - 1 - j)))
  | 0, _, j, h => v_ h (m_ _)
  | k + 1, x, 0, _ => by show some (byI (x / 256 ^ k)) = _; rw [show k + 1 - 1 - 0 = k by omega]
  | k + 1, x, j + 1, h => by
    show (be k x)[j]? = _;rw [be_get k x j (by omega), show k + 1 - 1 - (j + 1) = k - 1 - j by omega]
theorem be_step {k j : Nat} {x : Int} (h : j < k) : (be k x).take (j + 1) = (be k x).take j ++ [byI (x / 256 ^ (k - 1 - j))] := by
  rw [List.take_add_one, be_get k x j h]; rfl
theorem by8 {x : Int} {i sh : Nat} (h0 : 0 ≤ x) (hs : sh = 8 * i) : IntKind.u8.wrap (x / (2 : Int) ^ sh) = ((byI (x / 256 ^ i)).toNat : Int) := by
  have e : (2 : Int) ^ sh = 256 ^ i := by rw [hs, Int.pow_mul]; rfl
  rw [e];have h1 : 0 ≤ x / 256 ^ i := Int.ediv_nonneg h0 (Int.pow_nonneg (by decide));generalize x / 256 ^ i = y at h1;unfold byI;simp only [IntKind.wrap, IntKind.bits, IntKind.signed];simp;omega
theorem byY_app {l r : List UInt8} {n m : Nat} (hn : n = l.length) : ∀ j, j < (n + m) * 1 → Fx.appX (Fx.byY l) (n * 1) (Fx.byY r) j = Fx.byY (l ++ r) j := fun j hj => by
  subst hn;unfold Fx.appX;rw [Nat.mul_one];unfold Fx.byY;by_cases c : j < l.length
  · rw [b_ c, j_, j_, List.getElem?_append_left c]
  · rw [a_ c, j_, j_, List.getElem?_append_right (by omega)]
theorem byY_one (l : List UInt8) (j : Nat) : (Fx.byY l j).oneCell' = true := rfl
theorem shr0 {x : Int} {k w8 : Nat} (h8 : w8 = 8 * k) (hx : 0 ≤ x ∧ x < 256 ^ k) : x / (2 : Int) ^ w8 = 0 := by
  have e : (2 : Int) ^ w8 = 256 ^ k := by rw [h8, Int.pow_mul]; rfl
  rw [e]; exact Int.ediv_eq_zero_of_lt hx.1 hx.2
end Rt
theorem o_width (k w8 : Nat) (hk : k = 1 ∨ k = 2 ∨ k = 4 ∨ k = 8) (h8 : w8 = 8 * k) (w : World) :
    Calls Try.prog 82 #[.int .i64 (k : Int)] w fun e w' => e = .returned (.int .i64 (w8 : Int)) ∧ w' = w := by
 refine Fx.enter Try.func82 rfl (n := 22) rfl (by rfl) ?_;refine Ws (Wl (Lv (.int .i64 (0)) (x_assign rfl rfl) (Ln (sN (Ws (Wl (Lv (.int .i64 (0)) (x_assign rfl rfl) (Ln (sN (Ws (Ws (Wl (Lv (.int .i64 (k : Int)) (x_move rfl rfl) (Ln (sN (Fx.W.block (Ws (Fx.W.block (Ws (Fx.W.block (Ws (Fx.W.block (Ws (Fx.W.block (Ws (Ws (Ws (Wl ?_))))))))))))))))))))))))))));by_cases c6 : (k : Int) = 8
 ·refine Lv (.bool true) (x_eqlT rfl rfl rfl c6) (Lv (.bool true) (x_assign rfl rfl) (Ln (sN (Wc (b := true) rfl (fun _ => Fx.W.exit (Fx.seqX (Fx.seqX (Fx.blkX (sN (Wl (Lv (.int .i64 (0)) (x_move rfl rfl) ?_))))))) (fun h => nomatch h)))));refine Lv (.int .i64 (32)) (Fx.x_add rfl rfl rfl Fx.io) (Lv (.int .i64 (32)) (x_assign rfl rfl) (Ln (Fx.blkN (sN (Wl (Lv (.int .i64 (32)) (x_move rfl rfl) (Lv (.int .i64 (48)) (Fx.x_add rfl rfl rfl Fx.io) (Lv (.int .i64 (48)) (x_assign rfl rfl) (Ln (Fx.blkN (sN (Wl (Lv (.int .i64 (48)) (x_move rfl rfl) (Lv (.int .i64 (56)) (Fx.x_add rfl rfl rfl Fx.io) (Lv (.int .i64 (56)) (x_assign rfl rfl) (Ln (Fx.blkN (sN (Ws (Wl (Lv (.int .i64 (56)) (x_move rfl rfl) (Lv (.int .i64 (64)) (Fx.x_add rfl rfl rfl Fx.io) (Lv (.int .i64 (64)) (x_assign rfl rfl) (Ln (sN (Fx.W.exit (Fx.blkX (sN (Ws (Wl (Lv (.int .i64 (64)) (x_move rfl rfl) (Lv (.int .i64 (64)) (x_assign rfl rfl) (Ln (sN (Wr (⟨.int .i64 (64), rV Try.results82 (by exact rfl), ?_⟩))))))))))))))))))))))))))))))))))));exact ⟨u_ (fun q => Ending.returned (Value.int .i64 q)) (by omega), rfl⟩
 refine Lv (.bool false) (x_eqlF rfl rfl rfl c6) (Lv (.bool false) (x_assign rfl rfl) (Ln (sN (Wc (b := false) rfl (fun h => nomatch h) (fun _ => Wk (sN (Ws (Ws (Wl ?_)))))))));by_cases c8 : (k : Int) = 4
 ·refine Lv (.bool true) (x_eqlT rfl rfl rfl c8) (Lv (.bool true) (x_assign rfl rfl) (Ln (sN (Wc (b := true) rfl (fun _ => Fx.W.exit (Fx.seqX (Fx.seqX (Fx.blkO rfl (Fx.seqX (Fx.blkX (sN (Wl (Lv (.int .i64 (0)) (x_move rfl rfl) ?_))))))))) (fun h => nomatch h)))));refine Lv (.int .i64 (16)) (Fx.x_add rfl rfl rfl Fx.io) (Lv (.int .i64 (16)) (x_assign rfl rfl) (Ln (Fx.blkN (sN (Wl (Lv (.int .i64 (16)) (x_move rfl rfl) (Lv (.int .i64 (24)) (Fx.x_add rfl rfl rfl Fx.io) (Lv (.int .i64 (24)) (x_assign rfl rfl) (Ln (Fx.blkN (sN (Ws (Wl (Lv (.int .i64 (24)) (x_move rfl rfl) (Lv (.int .i64 (32)) (Fx.x_add rfl rfl rfl Fx.io) (Lv (.int .i64 (32)) (x_assign rfl rfl) (Ln (sN (Fx.W.exit (Fx.blkX (sN (Ws (Wl (Lv (.int .i64 (32)) (x_move rfl rfl) (Lv (.int .i64 (32)) (x_assign rfl rfl) (Ln (sN (Wr (⟨.int .i64 (32), rV Try.results82 (by exact rfl), ?_⟩)))))))))))))))))))))))))))));exact ⟨u_ (fun q => Ending.returned (Value.int .i64 q)) (by omega), rfl⟩
 refine Lv (.bool false) (x_eqlF rfl rfl rfl c8) (Lv (.bool false) (x_assign rfl rfl) (Ln (sN (Wc (b := false) rfl (fun h => nomatch h) (fun _ => Wk (sN (Ws (Ws (Wl ?_)))))))));by_cases c10 : (k : Int) = 2
 ·refine Lv (.bool true) (x_eqlT rfl rfl rfl c10) (Lv (.bool true) (x_assign rfl rfl) (Ln (sN (Wc (b := true) rfl (fun _ => Fx.W.exit (Fx.seqX (Fx.seqX (Fx.blkO rfl (Fx.seqX (Fx.blkO rfl (Fx.seqX (Fx.blkX (sN (Wl (Lv (.int .i64 (0)) (x_move rfl rfl) ?_))))))))))) (fun h => nomatch h)))));refine Lv (.int .i64 (8)) (Fx.x_add rfl rfl rfl Fx.io) (Lv (.int .i64 (8)) (x_assign rfl rfl) (Ln (Fx.blkN (sN (Ws (Wl (Lv (.int .i64 (8)) (x_move rfl rfl) (Lv (.int .i64 (16)) (Fx.x_add rfl rfl rfl Fx.io) (Lv (.int .i64 (16)) (x_assign rfl rfl) (Ln (sN (Fx.W.exit (Fx.blkX (sN (Ws (Wl (Lv (.int .i64 (16)) (x_move rfl rfl) (Lv (.int .i64 (16)) (x_assign rfl rfl) (Ln (sN (Wr (⟨.int .i64 (16), rV Try.results82 (by exact rfl), ?_⟩))))))))))))))))))))));exact ⟨u_ (fun q => Ending.returned (Value.int .i64 q)) (by omega), rfl⟩
 refine Lv (.bool false) (x_eqlF rfl rfl rfl c10) (Lv (.bool false) (x_assign rfl rfl) (Ln (sN (Wc (b := false) rfl (fun h => nomatch h) (fun _ => Wk (sN (Ws (Wl ?_))))))));by_cases c12 : (k : Int) = 1
 ·refine Lv (.bool true) (x_eqlT rfl rfl rfl c12) (Lv (.bool true) (x_assign rfl rfl) (Ln (sN (Wc (b := true) rfl (fun _ => Fx.W.exit (Fx.seqX (Fx.blkO rfl (Fx.seqX (Fx.blkO rfl (Fx.seqX (Fx.blkO rfl (Fx.seqX (Fx.blkX (sN (Ws ?_))))))))))) (fun h => nomatch h)))));refine Wl (Lv (.int .i64 (0)) (x_move rfl rfl) (Lv (.int .i64 (8)) (Fx.x_add rfl rfl rfl Fx.io) (Lv (.int .i64 (8)) (x_assign rfl rfl) (Ln (sN (Fx.W.exit (Fx.blkX (sN (Ws (Wl (Lv (.int .i64 (8)) (x_move rfl rfl) (Lv (.int .i64 (8)) (x_assign rfl rfl) (Ln (sN (Wr (⟨.int .i64 (8), rV Try.results82 (by exact rfl), ?_⟩))))))))))))))));exact ⟨u_ (fun q => Ending.returned (Value.int .i64 q)) (by omega), rfl⟩
 refine Lv (.bool false) (x_eqlF rfl rfl rfl c12) (Lv (.bool false) (x_assign rfl rfl) (Ln (sN (Wc (b := false) rfl (fun h => nomatch h) (fun _ => Wk (sN (Fx.W.exit (Fx.blkO rfl (Fx.seqX (Fx.blkO rfl (Fx.seqX (Fx.blkO rfl (Fx.seqX (Fx.blkO rfl (Fx.seqX (Fx.blkX (sN (Ws (Wl (Lv (.int .i64 (0)) (x_move rfl rfl) (Lv (.int .i64 (0)) (x_assign rfl rfl) (Ln (sN (Wr (⟨.int .i64 (0), rV Try.results82 (by exact rfl), ?_⟩)))))))))))))))))))))))));exfalso; omega
theorem Rt.byY_app1 {l : List UInt8} {n : Nat} {b : UInt8} {z : Nat → Value} (hn : n = l.length) : ∀ q, q < (n + 1) * 1 → Fx.appX (Fx.byY l) (n * 1) (Fx.ovr z (0 * 1) 1 (fun _ => .int .u8 (b.toNat : Int))) q = Fx.byY (l ++ [b]) q := fun q hq => by
  subst hn;unfold Fx.appX Fx.byY Fx.ovr;rw [Nat.mul_one];by_cases c : q < l.length
  · rw [b_ c, j_, j_, List.getElem?_append_left c]
  · have e : q = l.length := by omega
    subst e;rw [a_ c, b_ (by omega)];simp
theorem o_put (a : Option Addr) (m c : Nat) (l : List UInt8) (x : Int) (k : Nat) (w : World) (hk : k = 1 ∨ k = 2 ∨ k = 4 ∨ k = 8) (hx : 0 ≤ x ∧ x < 256 ^ k) (hm : m = l.length) (hl : m ≤ 100000000) (hb : Fx.Arr w a m 1 (Fx.byY l)) :
    Calls Try.prog 74 #[.slice a (m) (c), .int .u64 (x), .int .i64 (k : Int)] w fun e w' => ∃ a' c', e = .returned (.tuple #[.slice a' (m + k) c', .int .i64 0]) ∧ Fx.Own w' w.heap.size 5 1 (.slice a' (m + k) c') (m + k) (Fx.byY (l ++ be k x)) ∧ Below w.heap.size w w' := by
 obtain ⟨w8, hw8⟩ : ∃ q, q = 8 * k := ⟨_, rfl⟩;refine Fx.enter Try.func74 rfl (n := 41) rfl (by rfl) ?_;refine Ws (Wl (Lv (.slice none 0 0) (x_assign rfl rfl) (Lv (.int .i64 (0)) (x_assign rfl rfl) (Ln (sN (Ws (Wl (Lv (.int .i64 (k : Int)) (x_move rfl rfl) (Fx.L.call (by rfl) (rC (args := [.int .i64 (k : Int)]) rfl rfl Try.func82 rfl rfl) rfl ((o_width k w8 hk hw8 _).mono ?_))))))))));rintro e v1 ⟨he, hv1⟩;subst v1;refine ⟨.int .i64 (w8 : Int), by rw [he], ?_⟩;clear he;refine Lv (.int .i64 (w8 : Int)) (x_assign rfl rfl) (Ln (sN (Ws (Fx.W.block (Ws (Wl (Lv (.int .i64 (w8 : Int)) (x_move rfl rfl) (Lv (.bool false) (x_eqlF rfl rfl rfl (by omega)) (Lv (.bool false) (x_assign rfl rfl) (Ln (sN (Wc (b := false) rfl (fun h => nomatch h) (fun _ => Ws (Wl (Lv (.int .u64 (x)) (x_move rfl rfl) (Lv (.int .i64 (w8 : Int)) (x_move rfl rfl) (Lv (.int .u64 (0)) (Fx.runs_e (Fx.x_shr (b := w8) (q := (2 : Int) ^ w8) rfl rfl rfl (by have : IntKind.u64.bits = 64 := rfl; omega) rfl) (shr0 hw8 hx)) (Lv (.bool false) (x_gtrF rfl rfl rfl (by decide)) (Lv (.bool false) (x_assign rfl rfl) (Ln (sN (Wc (b := false) rfl (fun h => nomatch h) (fun _ => Wk (Fx.blkN (sN (Ws (Wl (Lv (.slice a (m) (c)) (x_move rfl rfl) (Lv (.int .i64 (m : Int)) (x_len rfl rfl rfl (by kernel_rfl)) (Lv (.int .i64 (k : Int)) (x_move rfl rfl) (Lv (.int .i64 ((k : Int) + (m : Int))) (Fx.x_add rfl rfl rfl Fx.io) (Fx.L.mk0 (c := k + m) (s := 1) (bytes := 1) (by rfl) (by rfl) rfl rfl rfl Try.underlying30 (by kernel_rfl) (by kernel_rfl) (by omega) (by omega) fun g1 w1 eg1 ho1 s1 => ?_))))))))))))))))))))))))))))))));have lg1 : w.heap.size ≤ g1 := by rw [eg1]; exact (Below.refl w.heap.size w).size
 have b1 := s1.below (Below.refl w.heap.size w) (Below.refl w.heap.size w).size (Below.refl w.heap.size w).size;have m1 := ho1 w.heap.size (Fx.byY []) lg1;refine Lv (.slice a (m) (c)) (x_move rfl rfl) (Fx.L.appAny (B := w.heap.size) (s := 1) (bytes := 1) (k := 0) (m := m) (v := .slice (some ⟨g1, 0, none⟩) (0) (k + m)) (x := Fx.byY []) (by rfl) rfl rfl rfl Try.underlying30 (by kernel_rfl) (by kernel_rfl) rfl rfl m1 (hb.up b1 rfl) (fun j _ => byY_one _ j) (by omega) (by omega) b1.size fun vv1 w2 ho2 hg1 hgv1 => ?_);rw [r_] at ho2;obtain ⟨a1, cap1, rfl⟩ := ho2.val;have m2 : Fx.Own w2 w.heap.size 5 1 (.slice a1 (m) (cap1)) m (Fx.byY l) := (ho2.congr (fun j hj => byY_app (l := []) (r := l) (n := 0) (m := m) rfl j (by omega)));have b2 : Below w.heap.size w w2 := Fx.Below.grow b1 hg1 b1.size (fun q hq => (m1.ge hq).1);refine Lv (.slice a1 (m) (cap1)) (x_assign rfl rfl) (Ln (sN (Ws (Ws ?_))));have m3 : Fx.Own w2 w.heap.size 5 1 (.slice a1 (m) (cap1)) m (Fx.byY (l ++ (be k x).take 0)) := by rw [List.take_zero, List.append_nil]; exact m2
 refine Wl (Lv (.int .i64 (w8 : Int)) (x_move rfl rfl) (Lv (.int .i64 ((w8 : Int) - 8)) (Fx.x_sub rfl rfl rfl Fx.io) (Lv (.int .i64 ((w8 : Int) - 8)) (x_assign rfl rfl) (Ln (sN (Fx.W.block (Fx.W.loop (fun f w_ => ∃ j : Nat, ∃ n : Nat, ∃ ao : Option Addr, ∃ co : Nat, j ≤ k ∧ n = m + j ∧ f 1 = .int .u64 (x) ∧ f 8 = .int .i64 ((w8 : Int) - 8 * (j : Int) - 8) ∧ f 9 = .slice ao (n) (co) ∧ Fx.Own w_ w.heap.size 5 1 (.slice ao (n) (co)) n (Fx.byY (l ++ (be k x).take j)) ∧ Below w.heap.size w w_) (fun f _ => (intOf (f 8) + 8).toNat) ⟨0, m, a1, cap1, by omega, by omega, Fx.ic, Fx.ic, (by rfl), m3, b2⟩ ?_)))))));rintro f1 w3 ⟨j, n, ao, co, hj, hn, h1, h2, h3, m4, b3⟩;refine Ws (Ws (Wl (Lv (.int .i64 ((w8 : Int) - 8 * (j : Int) - 8)) (x_move rfl h2) ?_)));by_cases c30 : 0 ≤ ((w8 : Int) - 8 * (j : Int) - 8)
 ·refine Lv (.bool true) (Fx.x_geqT rfl rfl rfl c30) (Ln (sN (Wc (b := true) rfl (fun _ => Wk (sN (Ws (Fx.W.block ?_)))) (fun h => nomatch h))));obtain ⟨sh, hsh⟩ : ∃ sh : Nat, (w8 : Int) - 8 * (j : Int) - 8 = (sh : Int) := ⟨8 * (k - 1 - j), by omega⟩;have hbs := be_step (x := x) (show j < k by omega);refine Wl (Lv (.slice ao (n) (co)) (x_move rfl h3) (Lv (.int .u64 (x)) (x_move rfl h1) (Lv (.int .i64 (sh : Int)) (x_move rfl (h2.trans (u_ (Value.int .i64) hsh))) (Lv (.int .u64 (x / (2 : Int) ^ sh)) (Fx.x_shr (b := sh) (q := (2 : Int) ^ sh) rfl rfl rfl (by have : IntKind.u64.bits = 64 := rfl; omega) rfl) (Lv (.int .u8 ((byI (x / 256 ^ (k - 1 - j))).toNat : Int)) (x_conv rfl rfl (by kernel_rfl) Try.underlying5 (by8 hx.1 (by omega))) (Fx.L.bslice (vs := [(0, .int .u8 ((byI (x / 256 ^ (k - 1 - j))).toNat : Int))]) (s := 1) (zc := Fx.rv .u8 (fun _ => 0)) (y := Fx.ovr (fun j => (Fx.rv .u8 (fun _ => 0)) (j % 1)) (0 * 1) 1 (fun _ => .int .u8 ((byI (x / 256 ^ (k - 1 - j))).toNat : Int))) (by rfl) rfl rfl Try.underlying30 (by kernel_rfl) (by rfl) (by rfl) (by kernel_rfl) (by rw [Fx.fill_step (off := 0 * 1) (s := 1) (y := fun _ => .int .u8 ((byI (x / 256 ^ (k - 1 - j))).toNat : Int)) rfl (Fx.cells_one (by rfl)) (by rfl)]; rfl) rfl fun g2 w4 eg2 m5 s2 z1 => ?_))))));have m6 := m4.stp s2 (m4.notNew (n_ _));have b4 := s2.below b3 b3.size b3.size;have lg2 : w.heap.size ≤ g2 := by rw [eg2]; exact b3.size
  have ng2m6 : (.slice ao (n) (co) : Value).ownBlock ≠ some g2 := by rw [eg2]; exact m4.notNew (n_ _)
  have tg2 : g2 < w4.heap.size := m5.lt;clear eg2;refine Fx.L.app (B := w.heap.size) (s := 1) (bytes := 1) (k := n) (m := 1) (v := .slice ao (n) (co)) (x := Fx.byY (l ++ (be k x).take j)) (by rfl) rfl rfl rfl Try.underlying30 (by kernel_rfl) (by kernel_rfl) rfl rfl m6 m5.cel (fun j hj => by unfold Fx.ovr; split <;> rfl) (by omega) (by omega) (by omega) b4.size fun g3 cap2 w5 ho3 hg2 hgv2 hlt1 => ?_
  have m7 : Fx.Own w5 w.heap.size 5 1 (.slice (some ⟨g3, 0, none⟩) (n + 1) cap2) (n + 1) (Fx.byY (l ++ (be k x).take (j + 1))) := (ho3.congr (fun q hq => by rw [hbs, ← List.append_assoc]; exact byY_app1 (by rw [q_, List.length_take, be_len, ← hm]; omega) q hq));have b5 : Below w.heap.size w w5 := Fx.Below.grow b4 hg2 b4.size (fun q hq => (m6.ge hq).1);refine Lv (.slice (some ⟨g3, 0, none⟩) (n + 1) (cap2)) (x_assign rfl rfl) (Ln (Fx.blkN (sN (Wl (Lv (.int .i64 (sh : Int)) (x_move rfl (h2.trans (u_ (Value.int .i64) hsh))) (Lv (.int .i64 ((sh : Int) - 8)) (Fx.x_sub rfl rfl rfl Fx.io) (Lv (.int .i64 ((sh : Int) - 8)) (x_assign rfl rfl) (Ln ?_))))))))
  skip
  refine Fx.lpN ⟨j + 1, n + 1, (some ⟨g3, 0, none⟩), cap2, by omega, by omega, (h1.trans Fx.ic), Fx.ic, (by rfl), m7, b5⟩ ?_;show (intOf (.int .i64 ((sh : Int) - 8)) + 8).toNat < _;simp only [h2, intOf]; omega
 refine Lv (.bool false) (Fx.x_geqF rfl rfl rfl c30) (Ln (sN (Wc (b := false) rfl (fun h => nomatch h) (fun _ => Fx.W.exit (Fx.seqX (Fx.lpX (Fx.blkX (sN (Ws (Wl (Lv (.slice ao (n) (co)) (x_move rfl h3) (Lv (.slice ao (n) (co)) (x_assign rfl rfl) (Lv (.int .i64 (0)) (x_assign rfl rfl) (Ln (sN (Wr (⟨.tuple #[.slice ao (n) (co), .int .i64 (0)], Fx.retV2 Try.results74 (by exact rfl) (by exact rfl), ?_⟩)))))))))))))))));refine ⟨ao, co, by rw [show m + k = n by omega], ?_, b3⟩;have q9 := m4;rw [show j = k by omega, List.take_of_length_le (by rw [be_len]; exact n_ _)] at q9;rw [show m + k = n by omega]; exact q9
end Go.Proofs.Ytkajcjefckjijaa
namespace Go.Proofs.Ytkajcjefckjijaa.Fx
open Go.RowKit Go.MapKept
def Mp (w : World) (b n : Nat) (key : Nat → Int) (val : Nat → Value) : Prop :=
  ∃ es clock, w.heap[b]? = some (.map es clock) ∧ Stamped es clock ∧ es.size = n ∧ ∀ i, i < n → ∃ e, es[i]? = some e ∧ e.key = .int .u64 (key i) ∧ e.val = val i
def putI {α : Type} (f : Nat → α) (j : Nat) (v : α) : Nat → α := fun i => if i = j then v else f i
section
variable {w w' : World} {b n : Nat} {key : Nat → Int} {val : Nat → Value}
theorem Mp.lt (h : Mp w b n key val) : b < w.heap.size := by
  obtain ⟨es, c, h, _⟩ := h;exact (k_.1 h).1
theorem Mp.keep (h : Mp w b n key val) (e : w'.heap[b]? = w.heap[b]?) : Mp w' b n key val := by
  obtain ⟨es, c, h1, h2⟩ := h;exact ⟨es, c, e.trans h1, h2⟩
theorem Mp.stp {g : Nat} (h : Mp w b n key val) (hs : Stp g w w') (ne : b ≠ g) : Mp w' b n key val := h.keep (hs.block b h.lt ne)
theorem Mp.up (h : Mp w b n key val) (hb : Below w.heap.size w w') : Mp w' b n key val := h.keep (hb.block b h.lt)
theorem Mp.noTy {T : TypeId} (h : Mp w b n key val) (ht : Ty w b T) : False := by
  obtain ⟨es, c, h, _⟩ := h;obtain ⟨cs, ht⟩ := ht;rw [h] at ht; cases ht
theorem Mp.chT {Ts : List TypeId} (h : Mp w b n key val) (hs : ChT Ts w w') (_ : True) : Mp w' b n key val := h.keep (hs.block b h.lt fun _ ht => (h.noTy ht).elim)
theorem Mp.ne {g : Nat} {T : TypeId} (h : Mp w b n key val) (ht : Ty w g T) : g ≠ b := fun e => h.noTy (e ▸ ht)
theorem Mp.cong {key' : Nat → Int} {val' : Nat → Value} (h : Mp w b n key val) (e : ∀ i, i < n → key i = key' i ∧ val i = val' i) : Mp w b n key' val' := by
  obtain ⟨es, c, h1, h2, h3, h4⟩ := h;exact ⟨es, c, h1, h2, h3, fun i hi => by
    obtain ⟨x, a, d, f⟩ := h4 i hi;exact ⟨x, a, by rw [d, (e i hi).1], by rw [f, (e i hi).2]⟩⟩
theorem Mp.inj (h : Mp w b n key val) : ∀ i j, i < n → j < n → key i = key j → i = j := fun i j hi hj e => by
  obtain ⟨es, c, _, ⟨_, _, hk⟩, hn, hg⟩ := h;obtain ⟨x, hx, kx, _⟩ := hg i hi;obtain ⟨y, hy, ky, _⟩ := hg j hj;rw [k_] at hx hy;obtain ⟨hi', hx⟩ := hx;obtain ⟨hj', hy⟩ := hy;have hp := List.pairwise_iff_getElem.1 hk;have key2 : ∀ a c (ha : a < es.size) (hc : c < es.size), a < c → es[a].key ≠ es[c].key := fun a c ha hc hac => by
    have := hp a c (by simpa using ha) (by simpa using hc) hac
    simpa only [List.getElem_map, Array.getElem_toList] using this
  rcases Nat.lt_trichotomy i j with h1 | h1 | h1
  · exact v_ (by rw [hx, hy, kx, ky, e]) (key2 i j hi' hj' h1)
  · exact h1
  · exact v_ (by rw [hx, hy, kx, ky, e]) (key2 j i hj' hi' h1)
end
section
variable {P : Program} {f : Nat → Value} {w : World} {o : Oper}
variable {b n : Nat} {key : Nat → Int} {val : Nat → Value}
theorem Mp.find (h : Mp w b n key val) {es : Array MapEntry} {c : Nat} (he : w.heap[b]? = some (.map es c)) (k : Int) :
    (Instr.findNow (.int .u64) (.int .u64 k) es.toList 0 = some none ∧ ∀ i, i < n → key i ≠ k) ∨ ∃ j, j < n ∧ key j = k ∧ Instr.findNow (.int .u64) (.int .u64 k) es.toList 0 = some (some (j, val j)) := by
  obtain ⟨es', c', h1, h2, h3, h4⟩ := h;rw [he] at h1;simp only [Option.some.injEq, Obj.map.injEq] at h1;obtain ⟨rfl, rfl⟩ := h1;have hkeys : ∀ x ∈ es.toList, IsKey (.int .u64) x.key := fun x hx => by
    obtain ⟨i, hi, e⟩ := List.getElem_of_mem hx;obtain ⟨y, hy, ky, _⟩ := h4 i (by simpa [← h3] using hi);have : y = x := by
      have h5 : es.toList[i]? = some x := (by rw [i_ hi, e]);rw [Array.getElem?_toList, hy] at h5;exact p_ h5
    rw [← this, ky]; exact rfl
  rcases findNow_spec (d := .int .u64) (k := .int .u64 k) rfl es.toList 0 hkeys with ⟨h5, h6⟩ | ⟨j, e, h5, h6, h7⟩
  · left
    refine ⟨h5, fun i hi e => ?_⟩;obtain ⟨y, hy, ky, _⟩ := h4 i hi;exact h6 y (Array.mem_toList_iff.2 (Array.mem_of_getElem? hy)) (by rw [ky, e])
  right;have hj : j < n := by
    rw [Array.getElem?_toList] at h6;rw [← h3]; exact (k_.1 h6).1
  obtain ⟨y, hy, ky, vy⟩ := h4 j hj;rw [Array.getElem?_toList, hy] at h6;obtain rfl := p_ h6;rw [ky] at h7;simp only [Value.int.injEq, true_and] at h7;exact ⟨j, hj, h7, by rw [h5, r_, vy]⟩
theorem run_lookup_mp {T K E : TypeId} {k : Int} {ok : Bool} {z : Value} (h : Mp w b n key val) (hu : P.underlying T = some (.map K E)) (hk : P.underlying K = some (.int .u64)) (hz : (zeroValue E).run P w = .ok z w) :
    ((∀ i, i < n → key i ≠ k) → (Instr.lookup T (.map (some b)) (.int .u64 k) ok).run P w = .ok (if ok then .tuple #[z, .bool false] else z) w) ∧
    ∀ j, j < n → key j = k → (Instr.lookup T (.map (some b)) (.int .u64 k) ok).run P w = .ok (if ok then .tuple #[val j, .bool true] else val j) w := by
  have hm := h;obtain ⟨es, c, h1, _⟩ := hm;have hck : (Instr.checkKey es.isEmpty 10000 K (.int .u64 k)).run P w = .ok () w := run_checkKey hk (show IsKey (.int .u64) (.int .u64 k) from rfl) _ 9999
  rcases h.find h1 k with ⟨h5, h6⟩ | ⟨j, hj, hkj, h5⟩
  · refine ⟨fun _ => ?_, fun j hj e => v_ e (h6 j hj)⟩
    have hf := run_findKey (w := w) hk h5;unfold Instr.lookup;simp only [Sem.run_bind, run_underlying hu, Result.andThen_ok, Go.MapKept.run_getObj_map h1, Sem.run_pure, hck, hf, hz]
  refine ⟨fun hno => v_ hkj (hno j hj), fun j2 hj2 e => ?_⟩;obtain rfl : j2 = j := h.inj j2 j hj2 hj (e.trans hkj.symm);have hf := run_findKey (w := w) hk h5;unfold Instr.lookup;simp only [Sem.run_bind, run_underlying hu, Result.andThen_ok, Go.MapKept.run_getObj_map h1, Sem.run_pure, hck, hf]
theorem x_look2N {T K E : TypeId} {x ix : Operand} {k : Int} {z : Value} (ho : o.op = .lookup T x ix true) (hx : ev f x = .map (some b)) (hi : ev f ix = .int .u64 k) (h : Mp w b n key val) (hu : P.underlying T = some (.map K E)) (hk : P.underlying K = some (.int .u64)) (hz : (zeroValue E).run P w = .ok z w) (hn : ∀ i, i < n → key i ≠ k) : Runs P f o w (.tuple #[z, .bool false]) := by
  unfold Runs execOp;simp only [ho, hx, hi, Sem.run_bind, ((run_lookup_mp (ok := true) h hu hk hz).1 hn), Result.andThen_ok, Sem.run_pure]; rfl
theorem x_look2Y {T K E : TypeId} {x ix : Operand} {k : Int} {z v : Value} {j : Nat} (ho : o.op = .lookup T x ix true) (hx : ev f x = .map (some b)) (hi : ev f ix = .int .u64 k) (h : Mp w b n key val) (hu : P.underlying T = some (.map K E)) (hk : P.underlying K = some (.int .u64)) (hz : (zeroValue E).run P w = .ok z w) (hj : j < n) (he : key j = k) (hv : val j = v) : Runs P f o w (.tuple #[v, .bool true]) := by
  subst hv;unfold Runs execOp;simp only [ho, hx, hi, Sem.run_bind, ((run_lookup_mp (ok := true) h hu hk hz).2 j hj he), Result.andThen_ok, Sem.run_pure]; rfl
end
section
variable {P : Program} {w : World} {b n : Nat} {key : Nat → Int} {val : Nat → Value}
theorem set_at {w : World} {b : Nat} {o o' : Obj} (hb : w.heap[b]? = some o) : ({ w with heap := w.heap.setIfInBounds b o' } : World).heap[b]? = some o' ∧ Stp b w { w with heap := w.heap.setIfInBounds b o' } ∧ ({ w with heap := w.heap.setIfInBounds b o' } : World).heap.size = w.heap.size := by
  obtain ⟨h1, h2⟩ := heap_set (o' := o') hb;exact ⟨h1, ⟨rfl, rfl, rfl, by simp, fun k _ hne => h2 k hne⟩, by simp⟩
theorem run_update_mp {T K E : TypeId} {k : Int} {v : Value} (h : Mp w b n key val) (hu : P.underlying T = some (.map K E)) (hk : P.underlying K = some (.int .u64)) :
    (∀ j, j < n → key j = k → ∃ w', (Instr.mapUpdate T (.map (some b)) (.int .u64 k) v).run P w = .ok () w' ∧ Mp w' b n key (putI val j v) ∧ Stp b w w' ∧ w'.heap.size = w.heap.size) ∧
    ((∀ i, i < n → key i ≠ k) → ∃ w', (Instr.mapUpdate T (.map (some b)) (.int .u64 k) v).run P w = .ok () w' ∧ Mp w' b (n + 1) (putI key n k) (putI val n v) ∧ Stp b w w' ∧ w'.heap.size = w.heap.size) := by
  have hm := h;obtain ⟨es, c, h1, h2, h3, h4⟩ := hm;have hck : (Instr.checkKey false 10000 K (.int .u64 k)).run P w = .ok () w := run_checkKey hk (show IsKey (.int .u64) (.int .u64 k) from rfl) _ 9999
  rcases h.find h1 k with ⟨h5, h6⟩ | ⟨j, hj, hkj, h5⟩
  · refine ⟨fun j hj e => v_ e (h6 j hj), fun _ => ?_⟩
    have hf := run_findKey (w := w) hk h5;obtain ⟨s1, s2, s3⟩ := set_at (o' := .map (es.push { key := .int .u64 k, val := v, born := c }) (c + 1)) h1;have hr : (Instr.mapUpdate T (.map (some b)) (.int .u64 k) v).run P w = .ok () { w with heap := w.heap.setIfInBounds b (.map (es.push { key := .int .u64 k, val := v, born := c }) (c + 1)) } := by
      unfold Instr.mapUpdate;simp only [Sem.run_bind, run_underlying hu, Result.andThen_ok, Go.MapKept.run_getObj_map h1, hck, hf];exact run_setObj_map _ h1
    refine ⟨_, hr, ⟨_, _, s1, stamped_push h2 fun x hx e => ?_, by simp [h3], fun i hi => ?_⟩, s2, s3⟩
    · obtain ⟨i, hi, ei⟩ := List.getElem_of_mem hx
      obtain ⟨y, hy, ky, _⟩ := h4 i (by simpa [← h3] using hi);have e5 : es.toList[i]? = some x := (by rw [i_ hi, ei]);rw [Array.getElem?_toList, hy] at e5;obtain rfl := p_ e5;rw [ky] at e;simp only [Value.int.injEq, true_and] at e;exact h6 i (by simpa [← h3] using hi) e
    by_cases e : i = n
    · subst e
      refine ⟨_, by rw [Array.getElem?_push, b_ h3.symm], ?_, ?_⟩
      · show Value.int .u64 k = _; unfold putI; rw [b_ rfl]
      show v = _; unfold putI; rw [b_ rfl]
    obtain ⟨y, hy, ky, vy⟩ := h4 i (by omega);refine ⟨y, by rw [Array.getElem?_push, a_ (by omega)]; exact hy, ?_, ?_⟩
    · unfold putI; rw [a_ e]; exact ky
    unfold putI; rw [a_ e]; exact vy
  refine ⟨fun j2 hj2 e => ?_, fun hno => v_ hkj (hno j hj)⟩;obtain rfl : j2 = j := h.inj j2 j hj2 hj (e.trans hkj.symm);have hf := run_findKey (w := w) hk h5;obtain ⟨y, hy, ky, vy⟩ := h4 j2 hj;obtain ⟨s1, s2, s3⟩ := set_at (o' := .map (es.modify j2 fun e => { e with key := .int .u64 k, val := v }) c) h1;have hstay : (Instr.keyThatStays (((es[j2]?).map (·.key)).getD (.int .u64 k)) (.int .u64 k)).run P w = .ok (.int .u64 k) w := by
    rw [hy];show (Instr.keyThatStays y.key (.int .u64 k)).run P w = _;rw [ky, e];unfold Instr.keyThatStays;rw [b_ (by simp [Instr.sameBits])]; rfl
  have hr : (Instr.mapUpdate T (.map (some b)) (.int .u64 k) v).run P w = .ok () { w with heap := w.heap.setIfInBounds b (.map (es.modify j2 fun e => { e with key := .int .u64 k, val := v }) c) } := by
    unfold Instr.mapUpdate;simp only [Sem.run_bind, run_underlying hu, Result.andThen_ok, Go.MapKept.run_getObj_map h1, hck, hf, hstay];exact run_setObj_map _ h1
  refine ⟨_, hr, ⟨_, _, s1, stamped_modify h2 j2 _ (fun _ _ => rfl) (fun x _ hx => ?_), by simp [h3], fun i hi => ?_⟩, s2, s3⟩
  · rw [hy] at hx
    obtain rfl := p_ hx;show Value.int .u64 k = y.key;rw [ky, e]
  obtain ⟨z, hz, kz, vz⟩ := h4 i hi;by_cases e2 : j2 = i
  · subst e2
    refine ⟨{ z with key := .int .u64 k, val := v }, by rw [Array.getElem?_modify, b_ rfl, hz]; rfl, ?_, ?_⟩
    · show Value.int .u64 k = _; rw [e]
    show v = _; unfold putI; rw [b_ rfl]
  refine ⟨z, by rw [Array.getElem?_modify, a_ e2]; exact hz, kz, ?_⟩;unfold putI; rw [a_ (fun h => e2 h.symm)]; exact vz
end
def It (w : World) (r b n : Nat) (S : Nat → Bool) : Prop :=
  ∃ es clock since seen c0, w.heap[b]? = some (.map es clock) ∧ w.heap[r]? = some (.mapIter (some b) since seen c0) ∧ (∀ x ∈ es.toList, x.born < since) ∧ since ≤ c0 ∧ es.size = n ∧ (∀ x ∈ es.toList, x.born < clock) ∧ since ≤ clock ∧ (∀ (i j : Nat) (x y : MapEntry), es[i]? = some x → es[j]? = some y → x.born = y.born → i = j) ∧ ∀ i, i < n → ∃ e, es[i]? = some e ∧ seen.contains e.born = S i
section
variable {w w' : World} {r b n : Nat} {S : Nat → Bool}
theorem It.lt (h : It w r b n S) : r < w.heap.size := by
  obtain ⟨es, c, s, se, c0, _, h, _⟩ := h;exact (k_.1 h).1
theorem It.ltb (h : It w r b n S) : b < w.heap.size := by
  obtain ⟨es, c, s, se, c0, h, _⟩ := h;exact (k_.1 h).1
theorem It.keep (h : It w r b n S) (e : w'.heap[b]? = w.heap[b]?) (e2 : w'.heap[r]? = w.heap[r]?) : It w' r b n S := by
  obtain ⟨es, c, s, se, c0, h1, h2, h3⟩ := h;exact ⟨es, c, s, se, c0, e.trans h1, e2.trans h2, h3⟩
theorem It.up (h : It w r b n S) (hb : Below w.heap.size w w') : It w' r b n S := h.keep (hb.block b h.ltb) (hb.block r h.lt)
theorem It.noTy {T : TypeId} (h : It w r b n S) (ht : Ty w r T) : False := by
  obtain ⟨es, c, s, se, c0, _, h, _⟩ := h;obtain ⟨cs, ht⟩ := ht;rw [h] at ht; cases ht
theorem It.noTyb {T : TypeId} (h : It w r b n S) (ht : Ty w b T) : False := by
  obtain ⟨es, c, s, se, c0, h, _⟩ := h;obtain ⟨cs, ht⟩ := ht;rw [h] at ht; cases ht
theorem It.chT {Ts : List TypeId} (h : It w r b n S) (hs : ChT Ts w w') (_ : True) : It w' r b n S := h.keep (hs.block b h.ltb fun _ ht => (h.noTyb ht).elim) (hs.block r h.lt fun _ ht => (h.noTy ht).elim)
theorem It.rb (h : It w r b n S) : r ≠ b := fun e => by
  obtain ⟨es, c, s, se, c0, h1, h2, _⟩ := h;rw [e, h1] at h2; cases h2
end
def Itc (w : World) (r b i : Nat) : Prop :=
  ∃ es clock since seen e, w.heap[b]? = some (.map es clock) ∧ w.heap[r]? = some (.mapIter (some b) since (Array.push seen e.born) clock) ∧ es[i]? = some e ∧ (es.toList.map (·.born)).Nodup
section
variable {w w' : World} {r b i : Nat}
theorem Itc.lt (h : Itc w r b i) : r < w.heap.size := by
  obtain ⟨es, c, s, se, e, _, h, _⟩ := h;exact (k_.1 h).1
theorem Itc.ltb (h : Itc w r b i) : b < w.heap.size := by
  obtain ⟨es, c, s, se, e, h, _⟩ := h;exact (k_.1 h).1
theorem Itc.keep (h : Itc w r b i) (e : w'.heap[b]? = w.heap[b]?) (e2 : w'.heap[r]? = w.heap[r]?) : Itc w' r b i := by
  obtain ⟨es, c, s, se, x, h1, h2, h3⟩ := h;exact ⟨es, c, s, se, x, e.trans h1, e2.trans h2, h3⟩
theorem Itc.up (h : Itc w r b i) (hb : Below w.heap.size w w') : Itc w' r b i := h.keep (hb.block b h.ltb) (hb.block r h.lt)
theorem Itc.noTy {T : TypeId} (h : Itc w r b i) (ht : Ty w r T) : False := by
  obtain ⟨es, c, s, se, e, _, h, _⟩ := h;obtain ⟨cs, ht⟩ := ht;rw [h] at ht; cases ht
theorem Itc.noTyb {T : TypeId} (h : Itc w r b i) (ht : Ty w b T) : False := by
  obtain ⟨es, c, s, se, e, h, _⟩ := h;obtain ⟨cs, ht⟩ := ht;rw [h] at ht; cases ht
theorem Itc.chT {Ts : List TypeId} (h : Itc w r b i) (hs : ChT Ts w w') (_ : True) : Itc w' r b i := h.keep (hs.block b h.ltb fun _ ht => (h.noTyb ht).elim) (hs.block r h.lt fun _ ht => (h.noTy ht).elim)
end
def Fam (w : World) (n : Nat) (pb : Nat → Nat) (s : Nat) (x : Nat → Nat → Value) (T : TypeId) : Prop := ∀ i, i < n → Blk w (pb i) s (x i) T
section
variable {w w' : World} {n s : Nat} {pb : Nat → Nat} {x : Nat → Nat → Value} {T : TypeId}
theorem Fam.up (h : Fam w n pb s x T) (hb : Below w.heap.size w w') : Fam w' n pb s x T := fun i hi => (h i hi).stp (Sb hb) (l_ (h i hi).lt)
theorem Fam.chT {Ts : List TypeId} (h : Fam w n pb s x T) (hs : ChT Ts w w') (ne : Ts.contains T = false) : Fam w' n pb s x T := fun i hi => (h i hi).chT hs ne
theorem Fam.stp {g : Nat} (h : Fam w n pb s x T) (hs : Stp g w w') (ne : ∀ i, i < n → pb i ≠ g) : Fam w' n pb s x T := fun i hi => (h i hi).stp hs (ne i hi)
theorem Fam.put {j : Nat} {y : Nat → Value} (h : Fam w n pb s x T) (hs : Stp (pb j) w w') (hb : Blk w' (pb j) s y T) (hi : ∀ i k, i < n → k < n → pb i = pb k → i = k) (hj : j < n) : Fam w' n pb s (putI x j y) T := fun i hin => by
  unfold putI;by_cases e : i = j
  · subst e; rw [b_ rfl]; exact hb
  · rw [a_ e]; exact (h i hin).stp hs fun e2 => e (hi i j hin hj e2)
theorem Fam.to {x' : Nat → Nat → Value} (h : Fam w n pb s x T) (e : ∀ i, i < n → x i = x' i) : Fam w n pb s x' T := fun i hi => e i hi ▸ h i hi
theorem Fam.push {g : Nat} {y : Nat → Value} (h : Fam w n pb s x T) (hb : Blk w g s y T) : Fam w (n + 1) (putI pb n g) s (putI x n y) T := fun i hi => by
  unfold putI;by_cases e : i = n
  · rw [b_ e, b_ e]; exact hb
  · rw [a_ e, a_ e]; exact h i (by omega)
end
theorem run_makeMap' {P : Program} (t : TypeId) (w : World) : (Instr.makeMap t none).run P w = .ok (.map (some w.heap.size)) (w.alloc (.map #[] 0)) := rfl
section
variable {P : Program} {n0 : Nat} {Q : Post} {f : Nat → Value} {w : World} {ops : Array Oper} {rest : List Oper} {o : Oper} {b n : Nat} {key : Nat → Int} {val : Nat → Value}
theorem L.mupN {T K E : TypeId} {x ix v : Operand} {k : Int} {u : Value} (hw : Region.wanted o (yf ops f) = true) (hd : o.dst = none) (ho : o.op = .mapUpdate T x ix v) (hx : ev f x = .map (some b)) (hi : ev f ix = .int .u64 k) (hv : ev f v = u) (h : Mp w b n key val) (hu : P.underlying T = some (.map K E)) (hk : P.underlying K = some (.int .u64)) (hn : ∀ i, i < n → key i ≠ k)
    (hc : ∀ w', Mp w' b (n + 1) (putI key n k) (putI val n u) → Stp b w w' → w'.heap.size = w.heap.size → L P n0 ops Q rest f w') : L P n0 ops Q (o :: rest) f w := by
  obtain ⟨w', hr, h1, h2, h3⟩ := (run_update_mp (v := u) h hu hk).2 hn;have hrun : (execOp (ev f) o).run P w = .ok .skip w' := by
    unfold execOp;simp only [ho, hx, hi, hv, Sem.run_bind, hr, Result.andThen_ok, Sem.run_pure]
  refine L.unit hw hrun (by rw [hd]; rfl) ?_;rw [hd]; exact hc w' h1 h2 h3
theorem L.mkmap {T : TypeId} (hw : Region.wanted o (yf ops f) = true) (hd : inn n0 o.dst = true) (ho : o.op = .makeMap T none)
    (hc : ∀ g w', g = w.heap.size → Mp w' g 0 (fun _ => 0) (fun _ => .pointer none) → Stp w.heap.size w w' → w'.heap.size = w.heap.size + 1 → L P n0 ops Q rest (put f o.dst (.map (some g))) w') : L P n0 ops Q (o :: rest) f w := by
  have hrun : (execOp (ev f) o).run P w = .ok (.value (.map (some w.heap.size))) (w.alloc (.map #[] 0)) := by
    unfold execOp;simp only [ho, Option.map_none];simp [run_makeMap']
  refine L.val hw hrun hd (hc _ _ rfl ?_ (Stp.alloc _ _) (by simp));exact ⟨#[], 0, by rw [alloc_at, b_ rfl], stamped_empty 0, rfl, fun i hi => v_ hi (m_ _)⟩
theorem L.range {T K E : TypeId} {x : Operand} (hw : Region.wanted o (yf ops f) = true) (hd : inn n0 o.dst = true) (ho : o.op = .range T x) (hx : ev f x = .map (some b)) (h : Mp w b n key val) (hu : P.underlying T = some (.map K E))
    (hc : ∀ g w', g = w.heap.size → It w' g b n (fun _ => false) → Stp w.heap.size w w' → w'.heap.size = w.heap.size + 1 → L P n0 ops Q rest (put f o.dst (.pointer (some ⟨g, 0, none⟩))) w') : L P n0 ops Q (o :: rest) f w := by
  have hm := h;obtain ⟨es, c, h1, h2, h3, h4⟩ := hm;have hr := run_range_map (P := P) w T K E b es c hu h1;have hrun : (execOp (ev f) o).run P w = .ok (.value (.pointer (some ⟨w.heap.size, 0, none⟩))) (w.alloc (.mapIter (some b) c #[] c)) := by
    unfold execOp;simp only [ho, hx, Sem.run_bind, hr, Result.andThen_ok, Sem.run_pure]
  refine L.val hw hrun hd (hc _ _ rfl ?_ (Stp.alloc _ _) (by simp));refine ⟨es, c, c, #[], c, ?_, by rw [alloc_at, b_ rfl], h2.1, n_ _, h3, h2.1, n_ _, fun i j x y hx hy e => ?_, fun i hi => ?_⟩
  · rw [alloc_at, a_ (l_ h.lt)]; exact h1
  · rw [k_] at hx hy
    obtain ⟨hi', hx⟩ := hx;obtain ⟨hj', hy⟩ := hy;have hp := List.pairwise_iff_getElem.1 h2.2.1;have key2 : ∀ a c (ha : a < es.size) (hc : c < es.size), a < c → es[a].born ≠ es[c].born := fun a c ha hc hac => by
      have := hp a c (by simpa using ha) (by simpa using hc) hac
      simpa only [List.getElem_map, Array.getElem_toList] using this
    rcases Nat.lt_trichotomy i j with h5 | h5 | h5
    · exact v_ (by rw [hx, hy, e]) (key2 i j hi' hj' h5)
    · exact h5
    exact v_ (by rw [hx, hy, e]) (key2 j i hj' hi' h5)
  obtain ⟨e, he, _⟩ := h4 i hi;exact ⟨e, he, by simp⟩
theorem L.next {x : Operand} {r : Nat} {S : Nat → Bool} (hw : Region.wanted o (yf ops f) = true) (hd : inn n0 o.dst = true) (ho : o.op = .next x false) (hx : ev f x = .pointer (some ⟨r, 0, none⟩)) (h : Mp w b n key val) (hi : It w r b n S)
    (hc0 : (∀ i, i < n → S i = true) → L P n0 ops Q rest (put f o.dst (.tuple #[.bool false])) w)
    (hc1 : ∀ i w', i < n → S i = false → It w' r b n (putI S i true) → Itc w' r b i → Stp r w w' → w'.heap.size = w.heap.size → L P n0 ops Q rest (put f o.dst (.tuple #[.bool true, .int .u64 (key i), val i])) w') : L P n0 ops Q (o :: rest) f w := by
  obtain ⟨es, c, since, seen, c0, h1, h2, h3, h4, h5, h6, h7, h8, h9⟩ := hi;obtain ⟨es', c', k1, kst, _, k4⟩ := h;rw [h1] at k1;simp only [Option.some.injEq, Obj.map.injEq] at k1;obtain ⟨rfl, rfl⟩ := k1;have hrb : r ≠ b := fun e => by rw [e, h1] at h2; cases h2
  rcases run_next_at (P := P) w o.type r b since c0 seen es c h2 h1 h3 h4 with ⟨z, hr⟩ | ⟨e, he, w1, hw1, hr⟩
  · have hrun : (execOp (ev f) o).run P w = .ok (.value (.tuple #[.bool false])) w := by
      unfold execOp;simp only [ho, hx, Sem.run_bind, hr, Result.andThen_ok, Sem.run_pure]
    refine L.val hw hrun hd (hc0 fun i hi => ?_);obtain ⟨y, hy, hs⟩ := h9 i hi;rw [← hs]
    cases hq : seen.contains y.born with
    | true => rfl
    | false =>
      have hmem : y ∈ leftOf es seen := by
        unfold leftOf;rw [Array.mem_filter];exact ⟨Array.mem_of_getElem? hy, by rw [hq]; rfl⟩
      have := Array.size_pos_of_mem hmem;omega
  have hrun : (execOp (ev f) o).run P w = .ok (.value (.tuple #[.bool true, e.key, e.val])) (Go.ChangeMaps.setBlock w1 r (.mapIter (some b) since (seen.push e.born) c)) := by
    unfold execOp;simp only [ho, hx, Sem.run_bind, hr, Result.andThen_ok, Sem.run_pure]
  have hmem : e ∈ leftOf es seen := Array.mem_toList_iff.1 he;unfold leftOf at hmem;rw [Array.mem_filter] at hmem;obtain ⟨hme, hns⟩ := hmem;obtain ⟨i, hi, ei⟩ := Array.getElem_of_mem hme;have hes : es[i]? = some e := by rw [Array.getElem?_eq_getElem hi, ei]
  obtain ⟨y, hy, ky, vy⟩ := k4 i (by omega);rw [hes] at hy;obtain rfl := p_ hy;obtain ⟨y2, hy2, hs⟩ := h9 i (by omega);rw [hes] at hy2;obtain rfl := p_ hy2;have hsf : S i = false := by rw [← hs]; simpa using hns
  have hh : w1.os = w.os ∧ w1.tape = w.tape ∧ w1.output = w.output ∧ w1.heap = w.heap := by rcases hw1 with rfl | rfl <;> exact ⟨rfl, rfl, rfl, rfl⟩
  have hsz : (Go.ChangeMaps.setBlock w1 r (.mapIter (some b) since (seen.push e.born) c)).heap.size = w.heap.size := by
    show (w1.heap.setIfInBounds r _).size = _; rw [hh.2.2.2]; simp
  have hst : Stp r w (Go.ChangeMaps.setBlock w1 r (.mapIter (some b) since (seen.push e.born) c)) :=
    ⟨hh.1, hh.2.1, hh.2.2.1, by rw [hsz]; exact n_ _, fun k _ hne => by show (w1.heap.setIfInBounds r _)[k]? = _; rw [hh.2.2.2, Array.getElem?_setIfInBounds_ne (Ne.symm hne)]⟩
  have hrlt : r < w1.heap.size := by
    rcases hw1 with rfl | rfl <;> exact (k_.1 h2).1
  rw [ky, vy] at hrun;have q1 : (Go.ChangeMaps.setBlock w1 r (.mapIter (some b) since (seen.push e.born) c)).heap[b]? = some (.map es c) := by rw [hst.block b (k_.1 h1).1 (Ne.symm hrb)]; exact h1
  have q2 : (Go.ChangeMaps.setBlock w1 r (.mapIter (some b) since (seen.push e.born) c)).heap[r]? = some (.mapIter (some b) since (seen.push e.born) c) := by simp [Go.ChangeMaps.setBlock, hrlt]
  refine L.val hw hrun hd (hc1 i _ (by omega) hsf ⟨es, c, since, seen.push e.born, c, q1, q2, h3, h7, h5, h6, h7, h8, fun j hj => ?_⟩ ⟨es, c, since, seen, e, q1, q2, hes, kst.2.1⟩ hst hsz);obtain ⟨y3, hy3, hs3⟩ := h9 j hj;refine ⟨y3, hy3, ?_⟩;unfold putI;by_cases e5 : j = i
  · subst e5
    rw [hes] at hy3;obtain rfl := p_ hy3;rw [b_ rfl]; simp
  rw [a_ e5, ← hs3];have hne : y3.born ≠ e.born := fun e6 => e5 (h8 j i y3 e hy3 hes e6)
  cases hq : seen.contains y3.born with
  | true => simp at hq ⊢; exact .inl hq
  | false => simp at hq ⊢; exact ⟨hq, hne⟩
end
structure ChM (r : Nat) (w w' : World) : Prop where
  s : Stp r w w'
  no : ∀ T, ¬ Ty w r T
section
variable {w w' : World} {r b n : Nat}
theorem Mp.chm {m : Nat} {key : Nat → Int} {val : Nat → Value} (h : Mp w r m key val) (hs : Stp r w w') : ChM r w w' := ⟨hs, fun _ ht => h.noTy ht⟩
theorem It.chm {m q : Nat} {S : Nat → Bool} (h : It w r q m S) (hs : Stp r w w') : ChM r w w' := ⟨hs, fun _ ht => h.noTy ht⟩
theorem Itc.chm {q i : Nat} (h : Itc w r q i) (hs : Stp r w w') : ChM r w w' := ⟨hs, fun _ ht => h.noTy ht⟩
theorem Fam.chM {m s : Nat} {pb : Nat → Nat} {x : Nat → Nat → Value} {T : TypeId} (h : Fam w m pb s x T) (hc : ChM r w w') : Fam w' m pb s x T := fun i hi => (h i hi).stp hc.s fun e => hc.no T (e ▸ (h i hi).ty)
theorem Blk.chM {x : Nat → Value} {T : TypeId} (h : Blk w b n x T) (hc : ChM r w w') : Blk w' b n x T := h.stp hc.s fun e => hc.no T (e ▸ h.ty)
theorem Own.chM {B s : Nat} {E : TypeId} {v : Value} {x : Nat → Value} (h : Own w B E s v n x) (hc : ChM r w w') : Own w' B E s v n x := h.stp hc.s fun e => hc.no E (h.ty e)
theorem Mp.chM {key : Nat → Int} {val : Nat → Value} (h : Mp w b n key val) (hc : ChM r w w') (ne : b ≠ r) : Mp w' b n key val := h.stp hc.s ne
end
theorem look_cases (key : Nat → Int) (n : Nat) (k : Int) : (∃ j, j < n ∧ key j = k) ∨ ∀ i, i < n → key i ≠ k := by
  by_cases h : ∃ j, j < n ∧ key j = k
  · exact .inl h
  exact .inr fun i hi e => h ⟨i, hi, e⟩
theorem exists_min {p : Nat → Prop} (h : ∃ k, p k) : ∃ k, p k ∧ ∀ j, p j → k ≤ j := by
  obtain ⟨k, hk⟩ := h
  induction k using Nat.strongRecOn with
  | _ k ih =>
    by_cases h2 : ∃ j, j < k ∧ p j
    · obtain ⟨j, hj, hp⟩ := h2; exact ih j hj hp
    · exact ⟨k, hk, fun j hj => Nat.not_lt.1 fun hl => h2 ⟨j, hl, hj⟩⟩
open Classical in
theorem W.loopE {P : Program} {n : Nat} {c : Code} {Q : Post} {f : Nat → Value} {w : World} (I : Nat → (Nat → Value) → World → Prop) (k0 : Nat) (h0 : I k0 f w)
    (hr : ∀ k f w, I k f w → W P n c (loopK (fun f w => ∃ k', k' < k ∧ I k' f w) (fun _ _ => 0) 1 Q) f w) : W P n (.loop c) Q f w := by
  refine W.loop (fun f w => ∃ k, I k f w) (fun f w => if h : ∃ k, I k f w then (exists_min h).choose else 0) ⟨k0, h0⟩ fun f w h => ?_;refine (hr _ f w (exists_min h).choose_spec.1).mono fun e f' w' hq => ?_;rw [dif_pos h]
  cases e with
  | normal =>
    obtain ⟨⟨k', hk, hI⟩, _⟩ := hq;refine ⟨⟨k', hI⟩, ?_⟩;have h' : ∃ k, I k f' w' := ⟨k', hI⟩;show (if h : ∃ k, I k f' w' then (exists_min h).choose else 0) < _;rw [dif_pos h'];exact Nat.lt_of_le_of_lt ((exists_min h').choose_spec.2 k' hI) hk
  | _ => exact hq
structure ChX (Ts : List TypeId) (w w' : World) : Prop where
  os : w'.os = w.os
  tape : w'.tape = w.tape
  output : w'.output = w.output
  size : w.heap.size ≤ w'.heap.size
  block : ∀ k T, Ty w k T → Ts.contains T = false → w'.heap[k]? = w.heap[k]?
section
variable {w w' w2 : World} {Ts Us : List TypeId}
theorem ChX.refl (w : World) : ChX Ts w w := ⟨rfl, rfl, rfl, n_ _, fun _ _ _ _ => rfl⟩
theorem Ty.ltw {k : Nat} {T : TypeId} (h : Ty w k T) : k < w.heap.size := by
  obtain ⟨c, h⟩ := h;exact (k_.1 h).1
theorem ChX.trans (w w' w2 : World) (h : ChX Ts w w') (k : ChX Ts w' w2) : ChX Ts w w2 := ⟨k.os.trans h.os, k.tape.trans h.tape, k.output.trans h.output, g_ h.size k.size, fun i T ht hT => by
  have e := h.block i T ht hT;obtain ⟨c, hc⟩ := ht;exact (k.block i T ⟨c, e.trans hc⟩ hT).trans e⟩
theorem ChX.of_chT (h : ChT Ts w w') : ChX Ts w w' := ⟨h.os, h.tape, h.output, h.size, fun k T ht hT => h.block k ht.ltw fun T' ht' => by rw [Ty.only ht ht']; exact hT⟩
theorem ChX.of_below (h : Below w.heap.size w w') : ChX Ts w w' := .of_chT (.of_below h)
theorem ChX.wide (h : ChX Ts w w') (hs : Ts.all Us.contains = true) : ChX Us w w' := ⟨h.os, h.tape, h.output, h.size, fun k T ht hT => h.block k T ht (by
  cases e : Ts.contains T with
  | false => rfl
  | true =>
    have h1 : T ∈ Ts := (by simpa using e);have h2 := (List.all_eq_true.1 hs) T h1;rw [hT] at h2; cases h2)⟩
theorem Blk.chX {b n : Nat} {x : Nat → Value} {T : TypeId} (h : Blk w b n x T) (hs : ChX Ts w w') (ne : Ts.contains T = false) : Blk w' b n x T := (hs.block b T h.ty ne).trans h
theorem Fam.chX {n s : Nat} {pb : Nat → Nat} {x : Nat → Nat → Value} {T : TypeId} (h : Fam w n pb s x T) (hs : ChX Ts w w') (ne : Ts.contains T = false) : Fam w' n pb s x T := fun i hi => (h i hi).chX hs ne
theorem Own.chX {B s n : Nat} {E : TypeId} {v : Value} {x : Nat → Value} (h : Own w B E s v n x) (hs : ChX Ts w w') (ne : Ts.contains E = false) : Own w' B E s v n x := by
  refine ⟨h.1, ?_⟩
  rcases h.2 with hn | ⟨g, cap, cur, hv, hB, hg, rest⟩
  · exact .inl hn
  exact .inr ⟨g, cap, cur, hv, hB, (hs.block g E ⟨cur, hg⟩ ne).trans hg, rest⟩
end
end Go.Proofs.Ytkajcjefckjijaa.Fx
namespace Go.Proofs.Ytkajcjefckjijaa.Fx
open Go.RowKit
section
variable {P : Program} {n0 : Nat} {Q : Post} {f : Nat → Value} {w : World} {ops : Array Oper} {rest : List Oper} {o : Oper}
theorem x_hi {T E : TypeId} {x hi : Operand} {a : Option Addr} {B n c s : Nat} {k : IntKind} {j : Nat} {y : Nat → Value} (ho : o.op = .slice T x none (some hi) none) (hx : ev f x = .slice a n c) (hh : ev f hi = .int k (j : Int)) (hu : P.underlying T = some (.slice E)) (hs : (P.info? E).map (·.size) = some s) (hj : j ≤ n) (hown : Own w B E s (.slice a n c) n y) :
    Runs P f o w (.slice a j c) := by
  obtain ⟨i, hi', _⟩ := Option.map_eq_some_iff.1 hs;unfold Runs execOp;simp only [ho, hx, hh, Option.map_some, Option.map_none];have e1 : (0 : Int) ≤ (j : Int) := by omega
  rcases hown.2 with ⟨h1, rfl⟩ | ⟨g, cap, cur, h1, _, _, hn, _⟩
  · simp only [Value.slice.injEq] at h1
    obtain ⟨rfl, _, rfl⟩ := h1;obtain rfl : j = 0 := (by omega);simp [Instr.sliceAt, Instr.slice, underlying, hu, Instr.sliceBounds, Instr.sliceBound, asIntOf, sizeOf, typeInfo, hi']
  simp only [Value.slice.injEq] at h1;obtain ⟨rfl, _, rfl⟩ := h1;have hj2 : j ≤ c := by omega
  simp [Instr.sliceAt, Instr.slice, underlying, hu, Instr.sliceBounds, Instr.sliceBound, asIntOf, hj2, e1, sizeOf, typeInfo, hi', Addr.add]
theorem L.lo {T E : TypeId} {x lo : Operand} {a : Option Addr} {B n c s m : Nat} {k : IntKind} {j : Nat} {y : Nat → Value} (hw : Region.wanted o (yf ops f) = true) (hd : inn n0 o.dst = true) (ho : o.op = .slice T x (some lo) none none) (hx : ev f x = .slice a n c) (hl : ev f lo = .int k (j : Int)) (hu : P.underlying T = some (.slice E)) (hs : (P.info? E).map (·.size) = some s) (hj : n = j + m) (hown : Own w B E s (.slice a n c) n y)
    (hc : ∀ a', Arr w a' m s (fun p => y (j * s + p)) → L P n0 ops Q rest (put f o.dst (.slice a' m (c - j))) w) : L P n0 ops Q (o :: rest) f w := by
  by_cases h0 : n = 0
  · obtain rfl : j = 0 := by omega
    obtain rfl : m = 0 := (by omega);subst h0
    rcases hown.2 with ⟨h1, _⟩ | ⟨g, cap, cur, h1, _, _, hn, _⟩
    · simp only [Value.slice.injEq] at h1
      obtain ⟨rfl, _, rfl⟩ := h1;obtain ⟨i, hi', _⟩ := Option.map_eq_some_iff.1 hs;refine Lv _ (?_ : Runs P f o w (.slice none 0 0)) (hc none fun h => v_ h (Nat.lt_irrefl 0)) hw hd;unfold Runs execOp;simp only [ho, hx, hl, Option.map_some, Option.map_none];simp [Instr.sliceAt, Instr.slice, underlying, hu, Instr.sliceBounds, Instr.sliceBound, asIntOf, sizeOf, typeInfo, hi']
    simp only [Value.slice.injEq] at h1;obtain ⟨rfl, _, rfl⟩ := h1;exact Lv _ (x_sliceLo2 (A := if c = 0 then some ⟨g, 0, none⟩ else some ⟨g, 0 + 0 * s, none⟩) (n' := 0) (c' := c - 0) ho hx hl hu hs (n_ _) rfl rfl rfl) (hc _ fun h => v_ h (Nat.lt_irrefl 0)) hw hd
  obtain ⟨g, c2, e1, hB, hg, hnc, hcel⟩ := hown.form (by omega);simp only [Value.slice.injEq] at e1;obtain ⟨rfl, _, rfl⟩ := e1;refine Lv _ (x_sliceLo2 (A := if c = j then some ⟨g, 0, none⟩ else some ⟨g, 0 + j * s, none⟩) (n' := m) (c' := c - j) ho hx hl hu hs (by omega) rfl (by omega) rfl) (hc _ fun hm => ?_) hw hd;rw [a_ (by omega)];refine ⟨g, _, rfl, fun p hp => ?_⟩;have hlt : j * s + p < n * s := by
    have : n * s = j * s + m * s := (by rw [hj, Nat.add_mul]);omega
  have := hcel (j * s + p) hlt;rw [r_] at this;rw [r_]; exact this
theorem Own.arrLe {B n c s j : Nat} {E : TypeId} {a : Option Addr} {y : Nat → Value} (h : Own w B E s (.slice a n c) n y) (hj : j ≤ n) : Arr w a j s y := fun h0 => by
  obtain ⟨g, c2, e1, hB, hg, hnc, hcel⟩ := h.form (by omega);simp only [Value.slice.injEq] at e1;refine ⟨g, 0, e1.1, fun p hp => hcel p ?_⟩;exact h_ hp (Nat.mul_le_mul_right s hj)
theorem Own.weak {B B' n s : Nat} {E : TypeId} {v : Value} {y : Nat → Value} (h : Own w B E s v n y) (hB : B' ≤ B) : Own w B' E s v n y := by
  refine ⟨h.1, ?_⟩
  rcases h.2 with hn | ⟨g, cap, cur, hv, hb, rest⟩
  · exact .inl hn
  exact .inr ⟨g, cap, cur, hv, g_ hB hb, rest⟩
end
end Go.Proofs.Ytkajcjefckjijaa.Fx
namespace Go.Proofs.Ytkajcjefckjijaa
open Go.RowKit Rt
open Fx (x_move x_assign x_field x_load1 x_pickF x_pickT x_nil x_conv x_indexS x_index x_leqF x_loadA x_len x_gtrF x_build x_eqlF x_eqlT Lv sN Ln Ws Qv Wl Rp Wc Qs Wr Sb Lk Wk rC rV sR)
section
namespace Rt
structure ByP (q : Prop) (w : World) (B : Nat) (a : Option Addr) (n c : Nat) (l : List UInt8) : Prop where
  arr : Fx.Arr w a n 1 (Fx.byY l)
  len : n = l.length
  own : q → Fx.Own w B 5 1 (.slice a n c) n (Fx.byY l)
section
variable {q : Prop} {w w' w0 : World} {B B' n c : Nat} {a : Option Addr} {l : List UInt8}
theorem ByP.up (h : ByP q w B a n c l) (hb : Below w.heap.size w w') : ByP q w' B a n c l := ⟨h.arr.up hb rfl, h.len, fun x => (h.own x).up hb⟩
theorem ByP.of (h : Fx.Own w B' 5 1 (.slice a n c) n (Fx.byY l)) (hB : B ≤ B') (hn : n = l.length) : ByP q w B a n c l := ⟨h.arr, hn, fun _ => h.weak hB⟩
structure CtW (ls : List TypeId) (w0 w : World) : Prop where
  c : Fx.ChT ls w0 w
theorem CtW.refl (ls : List TypeId) (w : World) : CtW ls w w := ⟨Fx.ChT.refl w⟩
theorem CtW.up {ls : List TypeId} (h : CtW ls w0 w) (hb : Below w.heap.size w w') : CtW ls w0 w' := ⟨Fx.ChT.trans _ _ _ h.c (Fx.ChT.of_below hb)⟩
theorem CtW.chT {ls ls' : List TypeId} (h : CtW ls w0 w) (hc : Fx.ChT ls' w w') (hd : ls'.all ls.contains = true) : CtW ls w0 w' := ⟨Fx.ChT.trans _ _ _ h.c (hc.wide hd)⟩
end
theorem lt64 {k : Nat} {x : Int} (hk : k = 1 ∨ k = 2 ∨ k = 4 ∨ k = 8) (hx : 0 ≤ x ∧ x < 256 ^ k) : 0 ≤ x ∧ x ≤ 18446744073709551615 := by
  have e1 : (256 : Int) ^ 1 = 256 := by decide
  have e2 : (256 : Int) ^ 2 = 65536 := by decide
  have e4 : (256 : Int) ^ 4 = 4294967296 := by decide
  have e8 : (256 : Int) ^ 8 = 18446744073709551616 := by decide
  rcases hk with rfl | rfl | rfl | rfl <;> omega
theorem lt256_8 {x : Int} (h : 0 ≤ x ∧ x ≤ 18446744073709551615) : 0 ≤ x ∧ x < 256 ^ 8 := by
  have e8 : (256 : Int) ^ 8 = 18446744073709551616 := by decide
  omega
theorem rowB_succ (x : Nat → Int) (i : Nat) : rowB x (i + 1) = rowB x i ++ be 8 (x i) := by
  unfold rowB; rw [List.range_succ, List.flatMap_append]; simp
theorem rowB_len (x : Nat → Int) : ∀ n, (rowB x n).length = 8 * n
  | 0 => rfl
  | n + 1 => by rw [rowB_succ, q_, rowB_len x n, be_len]; omega
end Rt
theorem p_int (a : Option Addr) (m c : Nat) (l : List UInt8) (x : Int) (k : Nat) (w : World) (hk : k = 1 ∨ k = 2 ∨ k = 4 ∨ k = 8) (hx : 0 ≤ x ∧ x < 256 ^ k) (hm : m = l.length) (hl : m ≤ 100000000) (hb : Fx.Arr w a m 1 (Fx.byY l)) :
    Calls Try.prog 49 #[.slice a (m) (c), .int .i64 (x), .int .i64 (k : Int)] w fun e w' => ∃ a' c', e = .returned (.slice a' (m + k) c') ∧ Fx.Own w' w.heap.size 5 1 (.slice a' (m + k) c') (m + k) (Fx.byY (l ++ be k x)) ∧ Below w.heap.size w w' := by
 have hx64 := lt64 hk hx;refine Fx.enter Try.func49 rfl (n := 16) rfl (by rfl) ?_;refine Ws (Wl (Lv (.slice none 0 0) (x_assign rfl rfl) (Ln (sN (Ws (Wl (Lv (.slice a (m) (c)) (x_move rfl rfl) (Lv (.int .i64 (x)) (x_move rfl rfl) (Lv (.int .u64 (x)) (x_conv rfl rfl (by kernel_rfl) Try.underlying23 (Fx.u64e (by omega) rfl)) (Lv (.int .i64 (k : Int)) (x_move rfl rfl) (Fx.L.call (by rfl) (rC (args := [.slice a (m) (c), .int .u64 (x), .int .i64 (k : Int)]) rfl rfl Try.func74 rfl rfl) rfl ((o_put a m c l x k _ hk hx hm hl (hb.up (Below.refl w.heap.size w) rfl)).mono ?_))))))))))));rintro e9 w1 ⟨aq1, cq1, he, ho1, hb1⟩;refine ⟨_, he, ?_⟩;clear he;have s1 := Sb hb1;have b1 := s1.below (Below.refl w.heap.size w) (Below.refl w.heap.size w).size (Below.refl w.heap.size w).size;refine Lv (.tuple #[.slice aq1 (m + k) (cq1), .int .i64 (0)]) (x_move rfl rfl) (Lv (.slice aq1 (m + k) (cq1)) (Fx.x_extract rfl rfl rfl) (Lv (.int .i64 (0)) (Fx.x_extract rfl rfl rfl) (Lv (.slice aq1 (m + k) (cq1)) (x_assign rfl rfl) (Ln (sN (Ws (Wl (Lv (.slice aq1 (m + k) (cq1)) (x_move rfl rfl) (Lv (.slice aq1 (m + k) (cq1)) (x_assign rfl rfl) (Ln (sN (Wr (⟨.slice aq1 (m + k) (cq1), rV Try.results49 (by exact rfl), ?_⟩)))))))))))));exact ⟨aq1, cq1, rfl, ho1, b1⟩
theorem p_u64 (a : Option Addr) (m c : Nat) (l : List UInt8) (x : Int) (k : Nat) (w : World) (hk : k = 1 ∨ k = 2 ∨ k = 4 ∨ k = 8) (hx : 0 ≤ x ∧ x < 256 ^ k) (hm : m = l.length) (hl : m ≤ 100000000) (hb : Fx.Arr w a m 1 (Fx.byY l)) :
    Calls Try.prog 75 #[.slice a (m) (c), .int .u64 (x), .int .i64 (k : Int)] w fun e w' => ∃ a' c', e = .returned (.slice a' (m + k) c') ∧ Fx.Own w' w.heap.size 5 1 (.slice a' (m + k) c') (m + k) (Fx.byY (l ++ be k x)) ∧ Below w.heap.size w w' := by
 have hx64 := lt64 hk hx;refine Fx.enter Try.func75 rfl (n := 15) rfl (by rfl) ?_;refine Ws (Wl (Lv (.slice none 0 0) (x_assign rfl rfl) (Ln (sN (Ws (Wl (Lv (.slice a (m) (c)) (x_move rfl rfl) (Lv (.int .u64 (x)) (x_move rfl rfl) (Lv (.int .i64 (k : Int)) (x_move rfl rfl) (Fx.L.call (by rfl) (rC (args := [.slice a (m) (c), .int .u64 (x), .int .i64 (k : Int)]) rfl rfl Try.func74 rfl rfl) rfl ((o_put a m c l x k _ hk hx hm hl (hb.up (Below.refl w.heap.size w) rfl)).mono ?_)))))))))));rintro e9 w1 ⟨aq1, cq1, he, ho1, hb1⟩;refine ⟨_, he, ?_⟩;clear he;have s1 := Sb hb1;have b1 := s1.below (Below.refl w.heap.size w) (Below.refl w.heap.size w).size (Below.refl w.heap.size w).size;refine Lv (.tuple #[.slice aq1 (m + k) (cq1), .int .i64 (0)]) (x_move rfl rfl) (Lv (.slice aq1 (m + k) (cq1)) (Fx.x_extract rfl rfl rfl) (Lv (.int .i64 (0)) (Fx.x_extract rfl rfl rfl) (Lv (.slice aq1 (m + k) (cq1)) (x_assign rfl rfl) (Ln (sN (Ws (Wl (Lv (.slice aq1 (m + k) (cq1)) (x_move rfl rfl) (Lv (.slice aq1 (m + k) (cq1)) (x_assign rfl rfl) (Ln (sN (Wr (⟨.slice aq1 (m + k) (cq1), rV Try.results75 (by exact rfl), ?_⟩)))))))))))));exact ⟨aq1, cq1, rfl, ho1, b1⟩
theorem p_i64 (a : Option Addr) (m c : Nat) (l : List UInt8) (x : Int) (k : Nat) (w : World) (hk : k = 1 ∨ k = 2 ∨ k = 4 ∨ k = 8) (hx : 0 ≤ x ∧ x < 256 ^ k) (hm : m = l.length) (hl : m ≤ 100000000) (hb : Fx.Arr w a m 1 (Fx.byY l)) :
    Calls Try.prog 76 #[.slice a (m) (c), .int .i64 (x), .int .i64 (k : Int)] w fun e w' => ∃ a' c', e = .returned (.slice a' (m + k) c') ∧ Fx.Own w' w.heap.size 5 1 (.slice a' (m + k) c') (m + k) (Fx.byY (l ++ be k x)) ∧ Below w.heap.size w w' := by
 have hx64 := lt64 hk hx;refine Fx.enter Try.func76 rfl (n := 16) rfl (by rfl) ?_;refine Ws (Wl (Lv (.slice none 0 0) (x_assign rfl rfl) (Ln (sN (Ws (Wl (Lv (.slice a (m) (c)) (x_move rfl rfl) (Lv (.int .i64 (x)) (x_move rfl rfl) (Lv (.int .u64 (x)) (x_conv rfl rfl (by kernel_rfl) Try.underlying23 (Fx.u64e (by omega) rfl)) (Lv (.int .i64 (k : Int)) (x_move rfl rfl) (Fx.L.call (by rfl) (rC (args := [.slice a (m) (c), .int .u64 (x), .int .i64 (k : Int)]) rfl rfl Try.func74 rfl rfl) rfl ((o_put a m c l x k _ hk hx hm hl (hb.up (Below.refl w.heap.size w) rfl)).mono ?_))))))))))));rintro e9 w1 ⟨aq1, cq1, he, ho1, hb1⟩;refine ⟨_, he, ?_⟩;clear he;have s1 := Sb hb1;have b1 := s1.below (Below.refl w.heap.size w) (Below.refl w.heap.size w).size (Below.refl w.heap.size w).size;refine Lv (.tuple #[.slice aq1 (m + k) (cq1), .int .i64 (0)]) (x_move rfl rfl) (Lv (.slice aq1 (m + k) (cq1)) (Fx.x_extract rfl rfl rfl) (Lv (.int .i64 (0)) (Fx.x_extract rfl rfl rfl) (Lv (.slice aq1 (m + k) (cq1)) (x_assign rfl rfl) (Ln (sN (Ws (Wl (Lv (.slice aq1 (m + k) (cq1)) (x_move rfl rfl) (Lv (.slice aq1 (m + k) (cq1)) (x_assign rfl rfl) (Ln (sN (Wr (⟨.slice aq1 (m + k) (cq1), rV Try.results76 (by exact rfl), ?_⟩)))))))))))));exact ⟨aq1, cq1, rfl, ho1, b1⟩
theorem p_u32 (a : Option Addr) (m c : Nat) (l : List UInt8) (x : Int) (k : Nat) (w : World) (hk : k = 1 ∨ k = 2 ∨ k = 4 ∨ k = 8) (hx : 0 ≤ x ∧ x < 256 ^ k) (hm : m = l.length) (hl : m ≤ 100000000) (hb : Fx.Arr w a m 1 (Fx.byY l)) :
    Calls Try.prog 52 #[.slice a (m) (c), .int .u32 (x), .int .i64 (k : Int)] w fun e w' => ∃ a' c', e = .returned (.slice a' (m + k) c') ∧ Fx.Own w' w.heap.size 5 1 (.slice a' (m + k) c') (m + k) (Fx.byY (l ++ be k x)) ∧ Below w.heap.size w w' := by
 have hx64 := lt64 hk hx;refine Fx.enter Try.func52 rfl (n := 16) rfl (by rfl) ?_;refine Ws (Wl (Lv (.slice none 0 0) (x_assign rfl rfl) (Ln (sN (Ws (Wl (Lv (.slice a (m) (c)) (x_move rfl rfl) (Lv (.int .u32 (x)) (x_move rfl rfl) (Lv (.int .u64 (x)) (x_conv rfl rfl (by kernel_rfl) Try.underlying23 (Fx.u64e (by omega) rfl)) (Lv (.int .i64 (k : Int)) (x_move rfl rfl) (Fx.L.call (by rfl) (rC (args := [.slice a (m) (c), .int .u64 (x), .int .i64 (k : Int)]) rfl rfl Try.func74 rfl rfl) rfl ((o_put a m c l x k _ hk hx hm hl (hb.up (Below.refl w.heap.size w) rfl)).mono ?_))))))))))));rintro e9 w1 ⟨aq1, cq1, he, ho1, hb1⟩;refine ⟨_, he, ?_⟩;clear he;have s1 := Sb hb1;have b1 := s1.below (Below.refl w.heap.size w) (Below.refl w.heap.size w).size (Below.refl w.heap.size w).size;refine Lv (.tuple #[.slice aq1 (m + k) (cq1), .int .i64 (0)]) (x_move rfl rfl) (Lv (.slice aq1 (m + k) (cq1)) (Fx.x_extract rfl rfl rfl) (Lv (.int .i64 (0)) (Fx.x_extract rfl rfl rfl) (Lv (.slice aq1 (m + k) (cq1)) (x_assign rfl rfl) (Ln (sN (Ws (Wl (Lv (.slice aq1 (m + k) (cq1)) (x_move rfl rfl) (Lv (.slice aq1 (m + k) (cq1)) (x_assign rfl rfl) (Ln (sN (Wr (⟨.slice aq1 (m + k) (cq1), rV Try.results52 (by exact rfl), ?_⟩)))))))))))));exact ⟨aq1, cq1, rfl, ho1, b1⟩
theorem p_allu (a : Option Addr) (m c : Nat) (l : List UInt8) (ra : Option Addr) (n rc : Nat) (x : Nat → Int) (w : World) (hx : ∀ i, i < n → 0 ≤ x i ∧ x i ≤ 18446744073709551615) (hn : 0 < n) (hm : m = l.length) (hl : m + 8 * n ≤ 100000000) (hb : Fx.Arr w a m 1 (Fx.byY l)) (hr : Fx.Arr w ra n 1 (Fx.rv .u64 x)) :
    Calls Try.prog 50 #[.slice a (m) (c), .slice ra (n) (rc)] w fun e w' => ∃ a' c', e = .returned (.slice a' (m + 8 * n) c') ∧ Fx.Own w' w.heap.size 5 1 (.slice a' (m + 8 * n) c') (m + 8 * n) (Fx.byY (l ++ rowB x n)) ∧ Below w.heap.size w w' := by
 refine Fx.enter Try.func50 rfl (n := 18) rfl (by rfl) ?_;refine Ws (Wl (Lv (.slice none 0 0) (x_assign rfl rfl) (Ln (sN (Ws (Ws (Wl (Lv (.slice ra (n) (rc)) (x_move rfl rfl) (Lv (.int .i64 (n : Int)) (x_len rfl rfl rfl (by kernel_rfl)) (Lv (.int .i64 (0)) (x_move rfl rfl) (Ln (sN (Fx.W.block ?_)))))))))))));have hby1 : ByP (0 < 0) w w.heap.size a m c (l ++ rowB x 0) := ⟨by rw [show rowB x 0 = [] from rfl, List.append_nil]; exact hb, by rw [show rowB x 0 = [] from rfl, List.append_nil]; exact hm, fun h => v_ h (by decide)⟩;refine Fx.W.loop (fun f w_ => ∃ i : Nat, ∃ nb : Nat, ∃ ao : Option Addr, ∃ co : Nat, i ≤ n ∧ nb = m + 8 * i ∧ f 0 = .slice ao (nb) (co) ∧ f 7 = .slice ra (n) (rc) ∧ f 8 = .int .i64 (n : Int) ∧ f 9 = .int .i64 (i : Int) ∧ ByP (0 < i) w_ w.heap.size ao nb co (l ++ rowB x i) ∧ Below w.heap.size w w_) (fun f _ => (n - (intOf (f 9)).toNat)) ⟨0, m, a, c, by omega, by omega, (by rfl), (by rfl), Fx.ic, Fx.ic, hby1, (Below.refl w.heap.size w)⟩ ?_;rintro f1 w1 ⟨i, nb, ao, co, hi, hnb, h1, h2, h3, h4, m1, b1⟩;refine Ws (Wl ?_);by_cases c10 : (i : Int) < (n : Int)
 ·refine Lv (.bool true) (Fx.x_lssT rfl h4 h3 c10) (Ln (sN (Ws (Wc (b := true) rfl (fun _ => Wk (sN (Ws (Fx.W.block (Ws (Wl ?_)))))) (fun h => nomatch h)))));obtain ⟨bq1, oq1, eq1, m2⟩ := (hr.up b1 rfl) (by omega);have lbq1 : bq1 < w1.heap.size := m2.lt (by omega);refine Lv (pf bq1 (i + oq1)) (x_indexS rfl (h2.trans (u_ (fun q => Value.slice q (n) (rc)) eq1)) h4 Try.underlying69 (s := 1) (by kernel_rfl) (by omega) (by omega) (by omega)) (Lv (.int .u64 (x i)) (x_load1 (x := Fx.rv .u64 x) rfl rfl (by kernel_rfl) m2 (i := i) (by omega) (by omega) rfl) (Lv (.int .u64 (x i)) (x_assign rfl rfl) (Ln (sN (Wl (Lv (.slice ao (nb) (co)) (x_move rfl h1) (Lv (.int .u64 (x i)) (x_move rfl rfl) (Fx.L.call (by rfl) (rC (args := [.slice ao (nb) (co), .int .u64 (x i), .int .i64 (8)]) rfl rfl Try.func75 rfl rfl) rfl ((p_u64 ao nb co (l ++ rowB x i) (x i) 8 _ (by omega) (lt256_8 (hx i (by omega))) m1.len (by omega) m1.arr).mono ?_)))))))));rintro e9 w2 ⟨aq1, cq1, he, ho1, hb1⟩;refine ⟨_, he, ?_⟩;clear he;have s1 := Sb hb1;have b2 := s1.below b1 b1.size b1.size;have hby2 : ByP (0 < i + 1) w2 w.heap.size aq1 (nb + 8) cq1 (l ++ rowB x (i + 1)) := .of (by rw [rowB_succ, ← List.append_assoc]; exact ho1) b1.size (by rw [q_, rowB_len, ← hm]; omega);refine Lv (.slice aq1 (nb + 8) (cq1)) (x_assign rfl rfl) (Ln (Fx.blkN (sN (Wl (Lv (.int .i64 ((i : Int) + 1)) (Fx.x_add rfl h4 rfl Fx.io) (Lv (.int .i64 ((i : Int) + 1)) (x_move rfl rfl) (Ln (Fx.lpN ⟨i + 1, nb + 8, aq1, cq1, by omega, by omega, (by rfl), h2, (h3.trans Fx.ic), Fx.ic, hby2, b2⟩ ?_))))))));show (n - (intOf (.int .i64 ((i : Int) + 1))).toNat) < _;simp only [h4, intOf]; omega
 refine Lv (.bool false) (Fx.x_lssF rfl h4 h3 c10) (Ln (sN (Ws (Wc (b := false) rfl (fun h => nomatch h) (fun _ => Fx.W.exit (Fx.seqX (Fx.lpX (Fx.blkX (sN (Ws (Wl (Lv (.slice ao (nb) (co)) (x_move rfl h1) (Lv (.slice ao (nb) (co)) (x_assign rfl rfl) (Ln (sN (Wr (⟨.slice ao (nb) (co), rV Try.results50 (by exact rfl), ?_⟩)))))))))))))))));refine ⟨ao, co, by rw [show m + 8 * n = nb by omega], ?_, b1⟩;have q9 := m1.own (by omega);rw [show i = n by omega] at q9; rw [show m + 8 * n = nb by omega]; exact q9
theorem p_alli (a : Option Addr) (m c : Nat) (l : List UInt8) (ra : Option Addr) (n rc : Nat) (x : Nat → Int) (w : World) (hx : ∀ i, i < n → 0 ≤ x i ∧ x i ≤ 18446744073709551615) (hn : 0 < n) (hm : m = l.length) (hl : m + 8 * n ≤ 100000000) (hb : Fx.Arr w a m 1 (Fx.byY l)) (hr : Fx.Arr w ra n 1 (Fx.rv .i64 x)) :
    Calls Try.prog 51 #[.slice a (m) (c), .slice ra (n) (rc)] w fun e w' => ∃ a' c', e = .returned (.slice a' (m + 8 * n) c') ∧ Fx.Own w' w.heap.size 5 1 (.slice a' (m + 8 * n) c') (m + 8 * n) (Fx.byY (l ++ rowB x n)) ∧ Below w.heap.size w w' := by
 refine Fx.enter Try.func51 rfl (n := 18) rfl (by rfl) ?_;refine Ws (Wl (Lv (.slice none 0 0) (x_assign rfl rfl) (Ln (sN (Ws (Ws (Wl (Lv (.slice ra (n) (rc)) (x_move rfl rfl) (Lv (.int .i64 (n : Int)) (x_len rfl rfl rfl (by kernel_rfl)) (Lv (.int .i64 (0)) (x_move rfl rfl) (Ln (sN (Fx.W.block ?_)))))))))))));have hby1 : ByP (0 < 0) w w.heap.size a m c (l ++ rowB x 0) := ⟨by rw [show rowB x 0 = [] from rfl, List.append_nil]; exact hb, by rw [show rowB x 0 = [] from rfl, List.append_nil]; exact hm, fun h => v_ h (by decide)⟩;refine Fx.W.loop (fun f w_ => ∃ i : Nat, ∃ nb : Nat, ∃ ao : Option Addr, ∃ co : Nat, i ≤ n ∧ nb = m + 8 * i ∧ f 0 = .slice ao (nb) (co) ∧ f 7 = .slice ra (n) (rc) ∧ f 8 = .int .i64 (n : Int) ∧ f 9 = .int .i64 (i : Int) ∧ ByP (0 < i) w_ w.heap.size ao nb co (l ++ rowB x i) ∧ Below w.heap.size w w_) (fun f _ => (n - (intOf (f 9)).toNat)) ⟨0, m, a, c, by omega, by omega, (by rfl), (by rfl), Fx.ic, Fx.ic, hby1, (Below.refl w.heap.size w)⟩ ?_;rintro f1 w1 ⟨i, nb, ao, co, hi, hnb, h1, h2, h3, h4, m1, b1⟩;refine Ws (Wl ?_);by_cases c10 : (i : Int) < (n : Int)
 ·refine Lv (.bool true) (Fx.x_lssT rfl h4 h3 c10) (Ln (sN (Ws (Wc (b := true) rfl (fun _ => Wk (sN (Ws (Fx.W.block (Ws (Wl ?_)))))) (fun h => nomatch h)))));obtain ⟨bq1, oq1, eq1, m2⟩ := (hr.up b1 rfl) (by omega);have lbq1 : bq1 < w1.heap.size := m2.lt (by omega);refine Lv (pf bq1 (i + oq1)) (x_indexS rfl (h2.trans (u_ (fun q => Value.slice q (n) (rc)) eq1)) h4 Try.underlying73 (s := 1) (by kernel_rfl) (by omega) (by omega) (by omega)) (Lv (.int .i64 (x i)) (x_load1 (x := Fx.rv .i64 x) rfl rfl (by kernel_rfl) m2 (i := i) (by omega) (by omega) rfl) (Lv (.int .i64 (x i)) (x_assign rfl rfl) (Ln (sN (Wl (Lv (.slice ao (nb) (co)) (x_move rfl h1) (Lv (.int .i64 (x i)) (x_move rfl rfl) (Fx.L.call (by rfl) (rC (args := [.slice ao (nb) (co), .int .i64 (x i), .int .i64 (8)]) rfl rfl Try.func76 rfl rfl) rfl ((p_i64 ao nb co (l ++ rowB x i) (x i) 8 _ (by omega) (lt256_8 (hx i (by omega))) m1.len (by omega) m1.arr).mono ?_)))))))));rintro e9 w2 ⟨aq1, cq1, he, ho1, hb1⟩;refine ⟨_, he, ?_⟩;clear he;have s1 := Sb hb1;have b2 := s1.below b1 b1.size b1.size;have hby2 : ByP (0 < i + 1) w2 w.heap.size aq1 (nb + 8) cq1 (l ++ rowB x (i + 1)) := .of (by rw [rowB_succ, ← List.append_assoc]; exact ho1) b1.size (by rw [q_, rowB_len, ← hm]; omega);refine Lv (.slice aq1 (nb + 8) (cq1)) (x_assign rfl rfl) (Ln (Fx.blkN (sN (Wl (Lv (.int .i64 ((i : Int) + 1)) (Fx.x_add rfl h4 rfl Fx.io) (Lv (.int .i64 ((i : Int) + 1)) (x_move rfl rfl) (Ln (Fx.lpN ⟨i + 1, nb + 8, aq1, cq1, by omega, by omega, (by rfl), h2, (h3.trans Fx.ic), Fx.ic, hby2, b2⟩ ?_))))))));show (n - (intOf (.int .i64 ((i : Int) + 1))).toNat) < _;simp only [h4, intOf]; omega
 refine Lv (.bool false) (Fx.x_lssF rfl h4 h3 c10) (Ln (sN (Ws (Wc (b := false) rfl (fun h => nomatch h) (fun _ => Fx.W.exit (Fx.seqX (Fx.lpX (Fx.blkX (sN (Ws (Wl (Lv (.slice ao (nb) (co)) (x_move rfl h1) (Lv (.slice ao (nb) (co)) (x_assign rfl rfl) (Ln (sN (Wr (⟨.slice ao (nb) (co), rV Try.results51 (by exact rfl), ?_⟩)))))))))))))))));refine ⟨ao, co, by rw [show m + 8 * n = nb by omega], ?_, b1⟩;have q9 := m1.own (by omega);rw [show i = n by omega] at q9; rw [show m + 8 * n = nb by omega]; exact q9
theorem r_word (B : Nat) (a : Option Addr) (m c : Nat) (l : List UInt8) (x : Int) (k : Nat) (w : World) (hB : B ≤ w.heap.size) (hk : k = 1 ∨ k = 2 ∨ k = 4 ∨ k = 8) (hx : 0 ≤ x ∧ x < 256 ^ k) (hm : m = l.length) (hl : m ≤ 100000000) (ho : Fx.Own w B 5 1 (.slice a m c) m (Fx.byY l)) :
    Calls Try.prog 54 #[.slice a (m) (c), .int .u64 (x), .int .i64 (k : Int)] w fun e w' => ∃ a' c', e = .returned (.slice a' (m + k) c') ∧ Fx.Own w' B 5 1 (.slice a' (m + k) c') (m + k) (Fx.byY (l ++ be k x)) ∧ Fx.ChT [5] w w' ∧ Below B w w' := by
 refine Fx.enter Try.func54 rfl (n := 24) rfl (by rfl) ?_;refine Ws (Wl (Lv (.slice none 0 0) (x_assign rfl rfl) (Ln (sN (Ws (Ws ?_))))));have m1 : Fx.Own w B 5 1 (.slice a (m) (c)) m (Fx.byY (l ++ (be k x).take 0)) := by rw [List.take_zero, List.append_nil]; exact ho
 have hct : CtW [5] w w := .refl _ _;refine Wl (Lv (.int .i64 (k : Int)) (x_move rfl rfl) (Lv (.int .i64 ((k : Int) - 1)) (Fx.x_sub rfl rfl rfl Fx.io) (Lv (.int .i64 ((k : Int) - 1)) (x_assign rfl rfl) (Ln (sN (Fx.W.block (Fx.W.loop (fun f w_ => ∃ j : Nat, ∃ nb : Nat, ∃ ao : Option Addr, ∃ co : Nat, j ≤ k ∧ nb = m + j ∧ f 0 = .slice ao (nb) (co) ∧ f 1 = .int .u64 (x) ∧ f 7 = .int .i64 ((k : Int) - (j : Int) - 1) ∧ Fx.Own w_ B 5 1 (.slice ao (nb) (co)) nb (Fx.byY (l ++ (be k x).take j)) ∧ CtW [5] w w_ ∧ Below B w w_) (fun f _ => (intOf (f 7) + 1).toNat) ⟨0, m, a, c, by omega, by omega, (by rfl), Fx.ic, Fx.ic, m1, hct, (Below.refl B w)⟩ ?_)))))));rintro f1 w1 ⟨j, nb, ao, co, hj, hnb, h1, h2, h3, m2, m3, b1⟩;refine Ws (Ws (Wl (Lv (.int .i64 ((k : Int) - (j : Int) - 1)) (x_move rfl h3) ?_)));by_cases c11 : 0 ≤ ((k : Int) - (j : Int) - 1)
 ·refine Lv (.bool true) (Fx.x_geqT rfl rfl rfl c11) (Ln (sN (Wc (b := true) rfl (fun _ => Wk (sN (Ws (Fx.W.block ?_)))) (fun h => nomatch h))));obtain ⟨sh, hsh⟩ : ∃ sh : Nat, (k : Int) - (j : Int) - 1 = (sh : Int) := ⟨k - 1 - j, by omega⟩;obtain ⟨s8, hs8⟩ : ∃ q, q = 8 * sh := ⟨_, rfl⟩;have hbs := be_step (x := x) (show j < k by omega);refine Wl (Lv (.slice ao (nb) (co)) (x_move rfl h1) (Lv (.int .u64 (x)) (x_move rfl h2) (Lv (.int .i64 (sh : Int)) (x_move rfl (h3.trans (u_ (Value.int .i64) hsh))) (Lv (.int .i64 (s8 : Int)) (Fx.x_mul rfl rfl rfl Fx.io) (Lv (.int .u64 (s8 : Int)) (x_conv rfl rfl (by kernel_rfl) Try.underlying113 (Fx.u64e (by omega) rfl)) (Lv (.int .u64 (x / (2 : Int) ^ s8)) (Fx.x_shr (b := s8) (q := (2 : Int) ^ s8) rfl rfl rfl (by have : IntKind.u64.bits = 64 := rfl; omega) rfl) (Lv (.int .u8 ((byI (x / 256 ^ (k - 1 - j))).toNat : Int)) (x_conv rfl rfl (by kernel_rfl) Try.underlying5 (by8 hx.1 (by omega))) (Fx.L.bslice (vs := [(0, .int .u8 ((byI (x / 256 ^ (k - 1 - j))).toNat : Int))]) (s := 1) (zc := Fx.rv .u8 (fun _ => 0)) (y := Fx.ovr (fun j => (Fx.rv .u8 (fun _ => 0)) (j % 1)) (0 * 1) 1 (fun _ => .int .u8 ((byI (x / 256 ^ (k - 1 - j))).toNat : Int))) (by rfl) rfl rfl Try.underlying30 (by kernel_rfl) (by rfl) (by rfl) (by kernel_rfl) (by rw [Fx.fill_step (off := 0 * 1) (s := 1) (y := fun _ => .int .u8 ((byI (x / 256 ^ (k - 1 - j))).toNat : Int)) rfl (Fx.cells_one (by rfl)) (by rfl)]; rfl) rfl fun g1 w2 eg1 m4 s1 z1 => ?_))))))));have m5 := m2.stp s1 (m2.notNew (n_ _));have m6 := m3.up s1.old;have b2 := s1.below b1 (g_ hB b1.size) (g_ hB b1.size);have lg1 : w.heap.size ≤ g1 := by rw [eg1]; exact b1.size
  have ng1m5 : (.slice ao (nb) (co) : Value).ownBlock ≠ some g1 := by rw [eg1]; exact m2.notNew (n_ _)
  have tg1 : g1 < w2.heap.size := m4.lt;clear eg1;refine Fx.L.app (B := B) (s := 1) (bytes := 1) (k := nb) (m := 1) (v := .slice ao (nb) (co)) (x := Fx.byY (l ++ (be k x).take j)) (by rfl) rfl rfl rfl Try.underlying30 (by kernel_rfl) (by kernel_rfl) rfl rfl m5 m4.cel (fun j hj => by unfold Fx.ovr; split <;> rfl) (by omega) (by omega) (by omega) (g_ hB b2.size) fun g2 cap1 w3 ho1 hg1 hgv1 hlt1 => ?_
  have hct1 := Fx.ChT.of_grown hg1 m5;have m8 := m6.chT hct1 (by decide);have m7 : Fx.Own w3 B 5 1 (.slice (some ⟨g2, 0, none⟩) (nb + 1) cap1) (nb + 1) (Fx.byY (l ++ (be k x).take (j + 1))) := (ho1.congr (fun q hq => by rw [hbs, ← List.append_assoc]; exact byY_app1 (by rw [q_, List.length_take, be_len, ← hm]; omega) q hq));have b3 : Below B w w3 := Fx.Below.grow b2 hg1 (g_ hB b2.size) (fun q hq => (m5.ge hq).1);refine Lv (.slice (some ⟨g2, 0, none⟩) (nb + 1) (cap1)) (x_assign rfl rfl) (Ln (Fx.blkN (sN (Wl (Lv (.int .i64 (sh : Int)) (x_move rfl (h3.trans (u_ (Value.int .i64) hsh))) (Lv (.int .i64 ((sh : Int) - 1)) (Fx.x_sub rfl rfl rfl Fx.io) (Lv (.int .i64 ((sh : Int) - 1)) (x_assign rfl rfl) (Ln ?_))))))))
  skip
  refine Fx.lpN ⟨j + 1, nb + 1, (some ⟨g2, 0, none⟩), cap1, by omega, by omega, (by rfl), (h2.trans Fx.ic), Fx.ic, m7, m8, b3⟩ ?_;show (intOf (.int .i64 ((sh : Int) - 1)) + 1).toNat < _;simp only [h3, intOf]; omega
 refine Lv (.bool false) (Fx.x_geqF rfl rfl rfl c11) (Ln (sN (Wc (b := false) rfl (fun h => nomatch h) (fun _ => Fx.W.exit (Fx.seqX (Fx.lpX (Fx.blkX (sN (Ws (Wl (Lv (.slice ao (nb) (co)) (x_move rfl h1) (Lv (.slice ao (nb) (co)) (x_assign rfl rfl) (Ln (sN (Wr (⟨.slice ao (nb) (co), rV Try.results54 (by exact rfl), ?_⟩))))))))))))))));refine ⟨ao, co, by rw [show m + k = nb by omega], ?_, m3.c, b1⟩;have q9 := m2;rw [show j = k by omega, List.take_of_length_le (by rw [be_len]; exact n_ _)] at q9;rw [show m + k = nb by omega]; exact q9
end
end Go.Proofs.Ytkajcjefckjijaa
namespace Go.Proofs.Ytkajcjefckjijaa
open Go.RowKit
namespace Fx
section
variable {S S' : Nat → Prop}
theorem Chg.trans (w w' w2 : World) (h : Chg S w w') (k : Chg S w' w2) : Chg S w w2 := ⟨k.os.trans h.os, k.tape.trans h.tape, k.output.trans h.output, g_ h.size k.size, fun i hi hS => (k.block i (h_ hi h.size) hS).trans (h.block i hi hS)⟩
theorem Chg.mono {w w' : World} (h : Chg S w w') (hS : ∀ k, S k → S' k) : Chg S' w w' := ⟨h.os, h.tape, h.output, h.size, fun i hi hn => h.block i hi fun hs => hn (hS i hs)⟩
theorem Chg.of_stp {g : Nat} {w w' : World} (h : Stp g w w') : Chg (fun k => k = g) w w' := (Chg.refl _ w).then h (.inl rfl)
end
end Fx
end Go.Proofs.Ytkajcjefckjijaa
namespace Go.Proofs.Ytkajcjefckjijaa
open Go.RowKit Rt
open Fx (x_move x_assign x_field x_load1 x_pickF x_pickT x_nil x_conv x_indexS x_index x_leqF x_loadA x_len x_gtrF x_build x_eqlF x_eqlT Lv sN Ln Ws Qv Wl Rp Wc Qs Wr Sb Lk Wk rC rV sR)
set_option maxRecDepth 20000
set_option linter.unusedVariables false
namespace Rt
def ndZ (x : NdM) : Nat → Value := ndY x.id x.par x.R
def grZ (x : GrM) : Nat → Value := fun j => if j = 0 then .int .i64 x.o else if j = 1 then .int .u64 x.r else if j = 2 then .int .u64 x.n else if j = 3 then .int .i64 x.a else .int .u64 x.b
def ndsX (l : List NdM) : Nat → Value := Fx.flat 56 fun k => ndZ (ndA l k)
def grsX (l : List GrM) : Nat → Value := Fx.flat 5 fun k => grZ (grA l k)
def stS (m : SnM) (na : Option Addr) (nc : Nat) (ga : Option Addr) (gc : Nat) : StM := ⟨m.inn, m.left, m.known, na, m.ns.length, nc, ga, m.gs.length, gc⟩
theorem ndZ_one (x : NdM) (j : Nat) : (ndZ x j).oneCell' = true := by unfold ndZ ndY; split <;> (try split) <;> rfl
theorem grZ_one (x : GrM) (j : Nat) : (grZ x j).oneCell' = true := by unfold grZ; repeat (first | rfl | split)
theorem stY_one (m : StM) (j : Nat) : (stY m j).oneCell' = true := by unfold stY; repeat (first | rfl | split)
def cmp3 (a b : Int) : Int := if a < b then -1 else if b < a then 1 else 0
def orV (a b : Int) : Int := if a ≠ 0 then a else b
def orA (a b : Int) : Nat → Int := fun q => if q = 0 then a else b
theorem or_z {a b : Int} {i : Nat} (h : i = 0 ∨ a = 0) (hc : orA a b i = 0) : i + 1 = 0 ∨ a = 0 := by
  right;by_cases e : i = 0
  · subst e; exact hc
  exact h.resolve_left e
theorem or_n {a b : Int} {i : Nat} (h : i = 0 ∨ a = 0) (hc : orA a b i = 0) (hi : i < 2) : i + 1 < 2 ∨ orV a b = 0 := by
  by_cases e : i = 0
  · subst e; exact .inl (by decide)
  have e1 : i = 1 := by omega
  subst e1;right;have ha := h.resolve_left (by decide);unfold orV; rw [a_ (by rw [ha]; decide)]; exact hc
theorem or_y {a b : Int} {i : Nat} (h : i = 0 ∨ a = 0) (hc : ¬ orA a b i = 0) (hi : i < 2) : orA a b i = orV a b := by
  by_cases e : i = 0
  · subst e; exact (b_ (show a ≠ 0 from hc)).symm
  have e1 : i = 1 := by omega
  subst e1;have ha := h.resolve_left (by decide);unfold orV; rw [a_ (by rw [ha]; decide)]; rfl
theorem cmp_lt {a b : Int} : ¬ (0 ≤ cmp3 a b) ↔ a < b := by
  unfold cmp3;split
  · omega
  split <;> omega
def cmpG (x y : GrM) : Int := orV (cmp3 x.o y.o) (cmp3 x.r y.r)
theorem cmpG_lt {x y : GrM} : ¬ (0 ≤ cmpG x y) ↔ grLt x y := by
  unfold cmpG orV cmp3 grLt;by_cases h1 : x.o < y.o
  · simp [h1]
  by_cases h2 : y.o < x.o
  · simp [h1, h2]; omega
  have : x.o = y.o := by omega
  simp [this];by_cases h3 : x.r < y.r
  · simp [h3]
  by_cases h4 : y.r < x.r
  · simp [h3, h4]
  simp [h3, h4]
theorem cmpG_gt {x y : GrM} : 0 < cmpG x y ↔ grLt y x := by
  unfold cmpG orV cmp3 grLt;by_cases h1 : x.o < y.o
  · simp [h1]; omega
  by_cases h2 : y.o < x.o
  · simp [h1, h2]
  have : x.o = y.o := by omega
  simp [this];by_cases h3 : x.r < y.r
  · simp [h3]; omega
  by_cases h4 : y.r < x.r
  · simp [h3, h4]
  simp [h3, h4]
theorem cmpG_neg {x y : GrM} : cmpG x y < 0 ↔ grLt x y := by rw [← cmpG_lt]; omega
theorem cmp_neg {a b : Int} : cmp3 a b < 0 ↔ a < b := by rw [← cmp_lt (a := a)]; omega
theorem cmp_gt {a b : Int} : 0 < cmp3 a b ↔ b < a := by
  unfold cmp3;split
  · omega
  split <;> omega
open Classical in
noncomputable def riseN (l : List NdM) : Bool := decide (∀ k, k + 1 < l.length → (ndA l k).id < (ndA l (k + 1)).id)
open Classical in
noncomputable def riseG (l : List GrM) : Bool := decide (∀ k, k + 1 < l.length → grLt (grA l k) (grA l (k + 1)))
open Classical in
theorem riseN_yes {l : List NdM} (h : ∀ k, k + 1 < l.length → (ndA l k).id < (ndA l (k + 1)).id) : riseN l = true := c_ h
open Classical in
theorem riseN_no {l : List NdM} (h : ¬ ∀ k, k + 1 < l.length → (ndA l k).id < (ndA l (k + 1)).id) : riseN l = false := d_ h
open Classical in
theorem riseG_yes {l : List GrM} (h : ∀ k, k + 1 < l.length → grLt (grA l k) (grA l (k + 1))) : riseG l = true := c_ h
open Classical in
theorem riseG_no {l : List GrM} (h : ¬ ∀ k, k + 1 < l.length → grLt (grA l k) (grA l (k + 1))) : riseG l = false := d_ h
theorem all_step {P : Nat → Prop} {i : Nat} (h : ∀ k, k < i → P k) (hp : P i) : ∀ k, k < i + 1 → P k := fun k hk => by
  by_cases e : k = i
  · rw [e]; exact hp
  · exact h k (by omega)
end Rt
theorem q_nanci (n : Int) (w : World) :
    Calls Try.prog 81 #[.int .i64 (n)] w fun e w' => e = .returned (.bool false) ∧ w' = w := by
 refine Fx.enter Try.func81 rfl (n := 6) rfl (by rfl) ?_;refine Ws (Wl (Lv (.bool false) (x_assign rfl rfl) (Ln (sN (Ws (Wl (Lv (.int .i64 (n)) (x_move rfl rfl) (Lv (.int .i64 (n)) (x_move rfl rfl) (Lv (.bool false) (Fx.x_neqF rfl rfl rfl rfl) (Lv (.bool false) (x_assign rfl rfl) (Ln (sN (Wr (⟨.bool false, rV Try.results81 (by exact rfl), ?_⟩))))))))))))));exact ⟨rfl, rfl⟩
theorem q_cmpci (a b : Int) (w : World) :
    Calls Try.prog 63 #[.int .i64 (a), .int .i64 (b)] w fun e w' => e = .returned (.int .i64 (cmp3 a b)) ∧ w' = w := by
 refine Fx.enter Try.func63 rfl (n := 20) rfl (by rfl) ?_;refine Ws (Wl (Lv (.int .i64 (0)) (x_assign rfl rfl) (Ln (sN (Ws (Wl (Lv (.int .i64 (a)) (x_move rfl rfl) (Fx.L.call (by rfl) (rC (args := [.int .i64 (a)]) rfl rfl Try.func81 rfl rfl) rfl ((q_nanci a _).mono ?_)))))))));rintro e v1 ⟨he, hv1⟩;subst v1;refine ⟨.bool false, by rw [he], ?_⟩;clear he;refine Lv (.bool false) (x_assign rfl rfl) (Ln (sN (Ws (Wl (Lv (.int .i64 (b)) (x_move rfl rfl) (Fx.L.call (by rfl) (rC (args := [.int .i64 (b)]) rfl rfl Try.func81 rfl rfl) rfl ((q_nanci b _).mono ?_)))))));rintro e v1 ⟨he, hv1⟩;subst v1;refine ⟨.bool false, by rw [he], ?_⟩;clear he;refine Lv (.bool false) (x_assign rfl rfl) (Ln (sN (Ws (Ws (Wl (Lv (.bool false) (x_move rfl rfl) (Ln (sN (Wc (b := false) rfl (fun h => nomatch h) (fun _ => Wk (sN (Ws (Ws (Wl (Lv (.bool false) (x_move rfl rfl) (Ln (sN (Wc (b := false) rfl (fun h => nomatch h) (fun _ => Wk (sN (Ws (Ws (Wl (Lv (.int .i64 (a)) (x_move rfl rfl) (Lv (.int .i64 (b)) (x_move rfl rfl) ?_)))))))))))))))))))))))));by_cases c16 : a < b
 ·refine Lv (.bool true) (Fx.x_lssT rfl rfl rfl c16) (Ln (sN (Wc (b := true) rfl (fun _ => Ws (Wl (Lv (.int .i64 (-1)) (x_assign rfl rfl) ?_))) (fun h => nomatch h))));refine Ln (sN (Wr (sR (⟨.int .i64 (-1), rV Try.results63 (by exact rfl), ?_⟩))));exact ⟨by unfold cmp3; simp [c16], rfl⟩
 refine Lv (.bool false) (Fx.x_lssF rfl rfl rfl c16) (Ln (sN (Wc (b := false) rfl (fun h => nomatch h) (fun _ => Wk (sN (Ws (Ws (Wl (Lv (.int .i64 (a)) (x_move rfl rfl) (Lv (.int .i64 (b)) (x_move rfl rfl) ?_))))))))));by_cases c19 : b < a
 ·refine Lv (.bool true) (Fx.x_gtrT rfl rfl rfl c19) (Ln (sN (Wc (b := true) rfl (fun _ => Ws (Wl (Lv (.int .i64 (1)) (x_assign rfl rfl) ?_))) (fun h => nomatch h))));refine Ln (sN (Wr (sR (⟨.int .i64 (1), rV Try.results63 (by exact rfl), ?_⟩))));exact ⟨by unfold cmp3; simp [c16, c19], rfl⟩
 refine Lv (.bool false) (x_gtrF rfl rfl rfl c19) (Ln (sN (Wc (b := false) rfl (fun h => nomatch h) (fun _ => Wk (sN (Ws (Wl (Lv (.int .i64 (0)) (x_assign rfl rfl) (Ln (sN (Wr (⟨.int .i64 (0), rV Try.results63 (by exact rfl), ?_⟩))))))))))));exact ⟨by unfold cmp3; simp [c16, c19], rfl⟩
theorem q_nancu (n : Int) (w : World) :
    Calls Try.prog 80 #[.int .u64 (n)] w fun e w' => e = .returned (.bool false) ∧ w' = w := by
 refine Fx.enter Try.func80 rfl (n := 6) rfl (by rfl) ?_;refine Ws (Wl (Lv (.bool false) (x_assign rfl rfl) (Ln (sN (Ws (Wl (Lv (.int .u64 (n)) (x_move rfl rfl) (Lv (.int .u64 (n)) (x_move rfl rfl) (Lv (.bool false) (Fx.x_neqF rfl rfl rfl rfl) (Lv (.bool false) (x_assign rfl rfl) (Ln (sN (Wr (⟨.bool false, rV Try.results80 (by exact rfl), ?_⟩))))))))))))));exact ⟨rfl, rfl⟩
theorem q_cmpcu (a b : Int) (w : World) :
    Calls Try.prog 60 #[.int .u64 (a), .int .u64 (b)] w fun e w' => e = .returned (.int .i64 (cmp3 a b)) ∧ w' = w := by
 refine Fx.enter Try.func60 rfl (n := 20) rfl (by rfl) ?_;refine Ws (Wl (Lv (.int .i64 (0)) (x_assign rfl rfl) (Ln (sN (Ws (Wl (Lv (.int .u64 (a)) (x_move rfl rfl) (Fx.L.call (by rfl) (rC (args := [.int .u64 (a)]) rfl rfl Try.func80 rfl rfl) rfl ((q_nancu a _).mono ?_)))))))));rintro e v1 ⟨he, hv1⟩;subst v1;refine ⟨.bool false, by rw [he], ?_⟩;clear he;refine Lv (.bool false) (x_assign rfl rfl) (Ln (sN (Ws (Wl (Lv (.int .u64 (b)) (x_move rfl rfl) (Fx.L.call (by rfl) (rC (args := [.int .u64 (b)]) rfl rfl Try.func80 rfl rfl) rfl ((q_nancu b _).mono ?_)))))));rintro e v1 ⟨he, hv1⟩;subst v1;refine ⟨.bool false, by rw [he], ?_⟩;clear he;refine Lv (.bool false) (x_assign rfl rfl) (Ln (sN (Ws (Ws (Wl (Lv (.bool false) (x_move rfl rfl) (Ln (sN (Wc (b := false) rfl (fun h => nomatch h) (fun _ => Wk (sN (Ws (Ws (Wl (Lv (.bool false) (x_move rfl rfl) (Ln (sN (Wc (b := false) rfl (fun h => nomatch h) (fun _ => Wk (sN (Ws (Ws (Wl (Lv (.int .u64 (a)) (x_move rfl rfl) (Lv (.int .u64 (b)) (x_move rfl rfl) ?_)))))))))))))))))))))))));by_cases c16 : a < b
 ·refine Lv (.bool true) (Fx.x_lssT rfl rfl rfl c16) (Ln (sN (Wc (b := true) rfl (fun _ => Ws (Wl (Lv (.int .i64 (-1)) (x_assign rfl rfl) ?_))) (fun h => nomatch h))));refine Ln (sN (Wr (sR (⟨.int .i64 (-1), rV Try.results60 (by exact rfl), ?_⟩))));exact ⟨by unfold cmp3; simp [c16], rfl⟩
 refine Lv (.bool false) (Fx.x_lssF rfl rfl rfl c16) (Ln (sN (Wc (b := false) rfl (fun h => nomatch h) (fun _ => Wk (sN (Ws (Ws (Wl (Lv (.int .u64 (a)) (x_move rfl rfl) (Lv (.int .u64 (b)) (x_move rfl rfl) ?_))))))))));by_cases c19 : b < a
 ·refine Lv (.bool true) (Fx.x_gtrT rfl rfl rfl c19) (Ln (sN (Wc (b := true) rfl (fun _ => Ws (Wl (Lv (.int .i64 (1)) (x_assign rfl rfl) ?_))) (fun h => nomatch h))));refine Ln (sN (Wr (sR (⟨.int .i64 (1), rV Try.results60 (by exact rfl), ?_⟩))));exact ⟨by unfold cmp3; simp [c16, c19], rfl⟩
 refine Lv (.bool false) (x_gtrF rfl rfl rfl c19) (Ln (sN (Wc (b := false) rfl (fun h => nomatch h) (fun _ => Wk (sN (Ws (Wl (Lv (.int .i64 (0)) (x_assign rfl rfl) (Ln (sN (Wr (⟨.int .i64 (0), rV Try.results60 (by exact rfl), ?_⟩))))))))))));exact ⟨by unfold cmp3; simp [c16, c19], rfl⟩
theorem q_or (a b : Int) (gO : Nat) (w : World) (hO : Fx.Cel w gO 0 2 (Fx.rv .i64 (orA a b))) :
    Calls Try.prog 62 #[.slice (some ⟨gO, 0, none⟩) (2) (2)] w fun e w' => e = .returned (.int .i64 (orV a b)) ∧ w' = w := by
 refine Fx.enter Try.func62 rfl (n := 18) rfl (by rfl) ?_;refine Ws (Wl (Lv (.int .i64 (0)) (x_assign rfl rfl) (Ln (sN (Ws (Wl (Lv (.int .i64 (0)) (x_assign rfl rfl) (Ln (sN (Ws (Ws (Wl (Lv (.slice (some ⟨gO, 0, none⟩) (2) (2)) (x_move rfl rfl) (Lv (.int .i64 (2)) (x_len rfl rfl rfl (by kernel_rfl)) (Lv (.int .i64 (0)) (x_move rfl rfl) (Ln (sN (Fx.W.block (Fx.W.loop (fun f w_ => ∃ i : Nat, i ≤ 2 ∧ (i = 0 ∨ a = 0) ∧ (i < 2 ∨ orV a b = 0) ∧ w_ = w ∧ f 3 = .int .i64 (0) ∧ f 6 = .slice (some ⟨gO, 0, none⟩) (2) (2) ∧ f 7 = .int .i64 (2) ∧ f 8 = .int .i64 (i : Int) ∧ Fx.Cel w_ gO 0 2 (Fx.rv .i64 (orA a b))) (fun f _ => (2 - intOf (f 8)).toNat) ⟨0, (by omega), (.inl rfl), (.inl (by decide)), rfl, Fx.ic, (by rfl), Fx.ic, Fx.ic, hO⟩ ?_)))))))))))))))))));rintro f1 w1 ⟨i, hi, hz, hn, hw, h1, h2, h3, h4, m1⟩;refine Ws (Wl ?_);by_cases c9 : (i : Int) < 2
 ·refine Lv (.bool true) (Fx.x_lssT rfl h4 h3 c9) (Ln (sN (Ws (Wc (b := true) rfl (fun _ => Wk (sN (Ws (Fx.W.block (Ws (Wl (Lv (pf gO i) (x_indexS rfl h2 h4 Try.underlying127 (s := 1) (by kernel_rfl) (by omega) (by omega) (by omega)) ?_))))))) (fun h => nomatch h)))));refine Lv (.int .i64 (orA a b i)) (x_load1 (x := Fx.rv .i64 (orA a b)) rfl rfl (by kernel_rfl) m1 (i := i) (by omega) (by omega) rfl) (Lv (.int .i64 (orA a b i)) (x_assign rfl rfl) (Ln (sN (Ws (Wl (Lv (.int .i64 (orA a b i)) (x_move rfl rfl) (Lv (.int .i64 (0)) (x_move rfl h1) ?_)))))));by_cases c14 : (orA a b i) = 0
  ·refine Lv (.bool false) (Fx.x_neqF rfl rfl rfl c14) (Ln (sN (Wc (b := false) rfl (fun h => nomatch h) (fun _ => Wk (Fx.blkN (sN (Wl (Lv (.int .i64 ((i : Int) + 1)) (Fx.x_add rfl h4 rfl Fx.io) (Lv (.int .i64 ((i : Int) + 1)) (x_move rfl rfl) (Ln (Fx.lpN ⟨i + 1, (by omega), (or_z hz c14), (or_n hz c14 (by omega)), hw, (h1.trans Fx.ic), h2, (h3.trans Fx.ic), Fx.ic, m1⟩ ?_)))))))))));show (2 - intOf (.int .i64 ((i : Int) + 1))).toNat < _;simp only [h4, intOf]; omega
  refine Lv (.bool true) (Fx.x_neqT rfl rfl rfl c14) (Ln (sN (Wc (b := true) rfl (fun _ => Ws (Wl (Lv (.int .i64 (orA a b i)) (x_move rfl rfl) ?_))) (fun h => nomatch h))));refine Lv (.int .i64 (orA a b i)) (x_assign rfl rfl) (Ln (sN (Wr (Fx.blkR (sR (Fx.lpR (Fx.blkR (sR (⟨.int .i64 (orA a b i), rV Try.results62 (by exact rfl), ?_⟩)))))))));exact ⟨by rw [or_y hz c14 (by omega)], hw⟩
 refine Lv (.bool false) (Fx.x_lssF rfl h4 h3 c9) (Ln (sN (Ws (Wc (b := false) rfl (fun h => nomatch h) (fun _ => Fx.W.exit (Fx.seqX (Fx.lpX (Fx.blkX (sN (Ws (Wl (Lv (.int .i64 (0)) (x_move rfl h1) (Lv (.int .i64 (0)) (x_assign rfl rfl) (Ln (sN (Wr (⟨.int .i64 (0), rV Try.results62 (by exact rfl), ?_⟩)))))))))))))))));exact ⟨by rw [hn.resolve_left (by omega)], hw⟩
theorem s_byId (x y : NdM) (w : World) :
    Calls Try.prog 22 #[.agg (Fx.varr 56 (ndZ x)), .agg (Fx.varr 56 (ndZ y))] w fun e w' => e = .returned (.int .i64 (cmp3 x.id y.id)) ∧ Below w.heap.size w w' := by
 refine Fx.enter Try.func22 rfl (n := 10) rfl (by rfl) ?_;refine Ws (Wl (Fx.L.box (m := 56) (y := ndZ x) (by rfl) rfl rfl (Fx.cells_agg _ _) rfl fun g1 w1 eg1 m1 s1 z1 => ?_));have b1 := s1.below (Below.refl w.heap.size w) (Below.refl w.heap.size w).size (Below.refl w.heap.size w).size;have lg1 : w.heap.size ≤ g1 := by rw [eg1]; exact (Below.refl w.heap.size w).size
 have tg1 : g1 < w1.heap.size := m1.lt;clear eg1;refine Fx.L.box (m := 56) (y := ndZ y) (by rfl) rfl rfl (Fx.cells_agg _ _) rfl fun g2 w2 eg2 m2 s2 z2 => ?_;have m3 := m1.stp s2 m1.ne;have b2 := s2.below b1 b1.size b1.size;have lg2 : w.heap.size ≤ g2 := by rw [eg2]; exact b1.size
 have ng2m3 : g1 ≠ g2 := by rw [eg2]; exact l_ (m1.lt)
 have tg2 : g2 < w2.heap.size := m2.lt;clear eg2;refine Lv (.int .i64 (0)) (x_assign rfl rfl) (Ln (sN (Ws (Wl (Lv (pt g1) (x_field rfl rfl Try.underlying50 rfl (s := 1) (by kernel_rfl) rfl rfl) (Lv (.int .u64 (x.id)) (x_load1 (x := ndZ x) rfl rfl (by kernel_rfl) m3.cel (i := 0) (by omega) (by omega) rfl) (Lv (pt g2) (x_field rfl rfl Try.underlying50 rfl (s := 1) (by kernel_rfl) rfl rfl) (Lv (.int .u64 (y.id)) (x_load1 (x := ndZ y) rfl rfl (by kernel_rfl) m2.cel (i := 0) (by omega) (by omega) rfl) (Fx.L.call (by rfl) (rC (args := [.int .u64 (x.id), .int .u64 (y.id)]) rfl rfl Try.func60 rfl rfl) rfl ((q_cmpcu x.id y.id _).mono ?_))))))))));rintro e v1 ⟨he, hv1⟩;subst v1;refine ⟨.int .i64 (cmp3 x.id y.id), by rw [he], ?_⟩;clear he;refine Lv (.int .i64 (cmp3 x.id y.id)) (x_assign rfl rfl) (Ln (sN (Wr (⟨.int .i64 (cmp3 x.id y.id), rV Try.results22 (by exact rfl), ?_⟩))));exact ⟨rfl, b2⟩
theorem s_byReq (x y : GrM) (w : World) :
    Calls Try.prog 25 #[.agg (Fx.varr 5 (grZ x)), .agg (Fx.varr 5 (grZ y))] w fun e w' => e = .returned (.int .i64 (cmpG x y)) ∧ Below w.heap.size w w' := by
 refine Fx.enter Try.func25 rfl (n := 17) rfl (by rfl) ?_;refine Ws (Wl (Fx.L.box (m := 5) (y := grZ x) (by rfl) rfl rfl (Fx.cells_agg _ _) rfl fun g1 w1 eg1 m1 s1 z1 => ?_));have b1 := s1.below (Below.refl w.heap.size w) (Below.refl w.heap.size w).size (Below.refl w.heap.size w).size;have lg1 : w.heap.size ≤ g1 := by rw [eg1]; exact (Below.refl w.heap.size w).size
 have tg1 : g1 < w1.heap.size := m1.lt;clear eg1;refine Fx.L.box (m := 5) (y := grZ y) (by rfl) rfl rfl (Fx.cells_agg _ _) rfl fun g2 w2 eg2 m2 s2 z2 => ?_;have m3 := m1.stp s2 m1.ne;have b2 := s2.below b1 b1.size b1.size;have lg2 : w.heap.size ≤ g2 := by rw [eg2]; exact b1.size
 have ng2m3 : g1 ≠ g2 := by rw [eg2]; exact l_ (m1.lt)
 have tg2 : g2 < w2.heap.size := m2.lt;clear eg2;refine Lv (.int .i64 (0)) (x_assign rfl rfl) (Ln (sN (Ws ?_)));refine Fx.W.reord [0, 2, 5, 7, 1, 3, 6, 8, 4, 9, 10, 11, 12] [0, 4, 0, 4, 2, 0, 1, 0, 1, 2, 2, 3, 0] Fx.Mk Fx.Mk.refl Fx.Mk.trans (certs := [(4, 1, [1]), (9, 1, [4, 1]), (10, 1, [4, 1]), (11, 1, [10, 4, 1]), (4, 3, [3]), (9, 3, [4, 3]), (10, 3, [4, 3]), (11, 3, [10, 4, 3]), (11, 6, [9, 6]), (11, 8, [9, 8]), (9, 4, [4]), (10, 4, [4]), (11, 4, [10, 4]), (12, 4, [4]), (10, 9, [9]), (11, 9, [9]), (12, 9, [9]), (11, 10, [10]), (12, 10, [10]), (12, 11, [11])]) (by kernel_rfl) (by kernel_rfl) (by kernel_rfl) (by kernel_rfl) (by kernel_rfl) fun wt1 hbwt1 hzwt1 => ?_;have s3 : Fx.Stp w2.heap.size w2 wt1 := Sb hbwt1;have m4 := m3.stp s3 m3.ne;have m5 := m2.stp s3 m2.ne;have b3 := s3.below b2 b2.size b2.size;refine Rp (pt g1) (fun v1 => x_field rfl rfl Try.underlying59 rfl (s := 1) (by kernel_rfl) rfl rfl) (Rp (pt g2) (fun v1 => x_field rfl rfl Try.underlying59 rfl (s := 1) (by kernel_rfl) rfl rfl) (Rp (pf g1 1) (fun v1 => x_field rfl rfl Try.underlying59 rfl (s := 1) (by kernel_rfl) rfl (by show _ + 1 = _; omega)) (Rp (pf g2 1) (fun v1 => x_field rfl rfl Try.underlying59 rfl (s := 1) (by kernel_rfl) rfl (by show _ + 1 = _; omega)) (Fx.R.s (.int .i64 (x.o)) (x_load1 (x := grZ x) rfl rfl (by kernel_rfl) m4.cel (i := 0) (by omega) (by omega) rfl) ?_))));refine Fx.R.s (.int .i64 (y.o)) (x_load1 (x := grZ y) rfl rfl (by kernel_rfl) m5.cel (i := 0) (by omega) (by omega) rfl) ?_;refine Fx.R.read (v := .int .u64 (x.r)) (by rfl) (by rfl) (Fx.Mk.refl _) (fun v1 hv1 => x_load1 (x := grZ x) rfl rfl (by kernel_rfl) (m4.cel.below hv1 (by have := m4.lt; omega)) (i := 1) (by omega) (by omega) rfl) ?_;refine Fx.R.read (v := .int .u64 (y.r)) (by rfl) (by rfl) (Fx.Mk.refl _) (fun v1 hv1 => x_load1 (x := grZ y) rfl rfl (by kernel_rfl) (m5.cel.below hv1 (by have := m5.lt; omega)) (i := 1) (by omega) (by omega) rfl) ?_;refine Fx.R.make (by rfl) ?_;refine Fx.L.call (by rfl) (rC (args := [.int .i64 (x.o), .int .i64 (y.o)]) rfl rfl Try.func63 rfl rfl) rfl ((q_cmpci x.o y.o _).mono ?_);rintro e v1 ⟨he, hv1⟩;subst v1;refine ⟨.int .i64 (cmp3 x.o y.o), by rw [he], ?_⟩;clear he;refine Ln ⟨Below.refl _ _, ?_⟩;refine Fx.R.make (by rfl) ?_;refine Fx.L.call (by rfl) (rC (args := [.int .u64 (x.r), .int .u64 (y.r)]) rfl rfl Try.func60 rfl rfl) rfl ((q_cmpcu x.r y.r _).mono ?_);rintro e v1 ⟨he, hv1⟩;subst v1;refine ⟨.int .i64 (cmp3 x.r y.r), by rw [he], ?_⟩;clear he;refine Ln ⟨Below.refl _ _, ?_⟩;refine Fx.R.make (by rfl) ?_;refine Fx.L.bslice (vs := [(0, .int .i64 (cmp3 x.o y.o)), (1, .int .i64 (cmp3 x.r y.r))]) (s := 1) (zc := Fx.rv .i64 (fun _ => 0)) (y := Fx.ovr (Fx.ovr (fun j => (Fx.rv .i64 (fun _ => 0)) (j % 1)) (0 * 1) 1 (fun _ => .int .i64 (cmp3 x.o y.o))) (1 * 1) 1 (fun _ => .int .i64 (cmp3 x.r y.r))) (by rfl) rfl rfl Try.underlying127 (by kernel_rfl) (by rfl) (by rfl) (by kernel_rfl) (by rw [Fx.fill_step (off := 0 * 1) (s := 1) (y := fun _ => .int .i64 (cmp3 x.o y.o)) rfl (Fx.cells_one (by rfl)) (by rfl)]; rw [Fx.fill_step (off := 1 * 1) (s := 1) (y := fun _ => .int .i64 (cmp3 x.r y.r)) rfl (Fx.cells_one (by rfl)) (by rfl)]; rfl) rfl fun g3 w3 eg3 m6 s4 z3 => ?_;have b4 := s4.below b3 b3.size b3.size;have lg3 : w.heap.size ≤ g3 := by rw [eg3]; exact b3.size
 have ng3m7 : g1 ≠ g3 := by rw [eg3]; exact l_ (m4.lt)
 have ng3m8 : g2 ≠ g3 := by rw [eg3]; exact l_ (m5.lt)
 have tg3 : g3 < w3.heap.size := m6.lt;clear eg3;refine Ln ⟨s4.old, ?_⟩;refine Fx.R.eff (by rfl) ?_;refine Fx.L.call (by rfl) (rC (args := [.slice (some ⟨g3, 0, none⟩) (2) (2)]) rfl rfl Try.func62 rfl rfl) rfl ((q_or (cmp3 x.o y.o) (cmp3 x.r y.r) g3 _ (m6.congr (fun j hj => by rcases j with _|_|j <;> first | rfl | omega)).cel).mono ?_)
 rintro e v1 ⟨he, hv1⟩;subst v1;refine ⟨.int .i64 (orV (cmp3 x.o y.o) (cmp3 x.r y.r)), by rw [he], ?_⟩;clear he;refine Ln (Rp (.int .i64 (orV (cmp3 x.o y.o) (cmp3 x.r y.r))) (fun v1 => x_assign rfl rfl) (Fx.R.nil (sN (Wr (⟨.int .i64 (orV (cmp3 x.o y.o) (cmp3 x.r y.r)), rV Try.results25 (by exact rfl), ?_⟩)))));exact ⟨rfl, b4⟩
theorem s_riseN (a : Option Addr) (c : Nat) (l : List NdM) (w : World) (hl : l.length ≤ 1000000) (hn : Fx.Arr w a l.length 56 (ndsX l)) :
    Calls Try.prog 37 #[.slice a (l.length) (c), .func (.func 22) #[] #[]] w fun e w' => e = .returned (.bool (riseN l)) ∧ Below w.heap.size w w' := by
 refine Fx.enter Try.func37 rfl (n := 24) rfl (by rfl) ?_;refine Ws (Wl (Lv (.bool false) (x_assign rfl rfl) (Ln (sN (Ws (Ws (Wl (Lv (.int .i64 (1)) (x_assign rfl rfl) (Ln (sN (Fx.W.block (Fx.W.loop (fun f w_ => ∃ i : Nat, i ≤ l.length ∧ (∀ k, k < i → (ndA l k).id < (ndA l (k + 1)).id) ∧ f 0 = .slice a (l.length) (c) ∧ f 1 = .func (.func 22) #[] #[] ∧ f 5 = .int .i64 ((i : Int) + 1) ∧ Below w.heap.size w w_) (fun f _ => (l.length - (intOf (f 5)).toNat)) ⟨0, (t_ _), (fun k h => v_ h (by omega)), (by rfl), (by rfl), Fx.ic, (Below.refl w.heap.size w)⟩ ?_))))))))))));rintro f1 w1 ⟨i, hi, hall, h1, h2, h3, b1⟩;refine Ws (Ws (Wl (Lv (.int .i64 ((i : Int) + 1)) (x_move rfl h3) (Lv (.slice a (l.length) (c)) (x_move rfl h1) (Lv (.int .i64 (l.length : Int)) (x_len rfl rfl rfl (by kernel_rfl)) ?_)))));by_cases c9 : ((i : Int) + 1) < (l.length : Int)
 ·refine Lv (.bool true) (Fx.x_lssT rfl rfl rfl c9) (Ln (sN (Wc (b := true) rfl (fun _ => Wk (sN (Ws (Fx.W.block (Ws ?_))))) (fun h => nomatch h))));refine Fx.W.quiet (fun v1 => Below w1.heap.size w1 v1) (by kernel_rfl) (by kernel_rfl) (Below.refl _ _).drew ?_;refine Qv (.func (.func 22) #[] #[]) (fun v1 hv1 => x_move rfl h2) (Qv (.slice a (l.length) (c)) (fun v1 hv1 => x_move rfl h1) (Qv (.int .i64 ((i : Int) + 1)) (fun v1 hv1 => x_move rfl h3) (Qv (.int .i64 (i : Int)) (fun v1 hv1 => Fx.x_sub rfl rfl rfl Fx.io) ?_)));obtain ⟨bq1, oq1, eq1, m1⟩ := (hn.up b1 rfl) (by omega);have lbq1 : bq1 < w1.heap.size := m1.lt (by omega);refine Qv (pf bq1 (56 * i + oq1)) (fun v1 hv1 => x_indexS rfl (rfl.trans (u_ (fun q => Value.slice q (l.length) (c)) eq1)) rfl Try.underlying26 (s := 56) (by kernel_rfl) (by omega) (by omega) (by omega)) (Qv (.agg (Fx.varr 56 (ndZ (ndA l i)))) (fun v1 hv1 => x_loadA (x := ndsX l) (y := ndZ (ndA l i)) rfl rfl (by kernel_rfl) (by kernel_rfl) (m1.below hv1 (m1.lt (by omega))) (i := 56 * i) (by omega) (by omega) (fun jq hjq => Fx.flat_at (k := i) (by omega) hjq)) (Qv (.slice a (l.length) (c)) (fun v1 hv1 => x_move rfl h1) (Qv (.int .i64 ((i : Int) + 1)) (fun v1 hv1 => x_move rfl h3) (Qv (pf bq1 (56 * i + oq1 + 56)) (fun v1 hv1 => x_indexS rfl (rfl.trans (u_ (fun q => Value.slice q (l.length) (c)) eq1)) rfl Try.underlying26 (s := 56) (by kernel_rfl) (by omega) (by omega) (by omega)) (Qv (.agg (Fx.varr 56 (ndZ (ndA l (i + 1))))) (fun v1 hv1 => x_loadA (x := ndsX l) (y := ndZ (ndA l (i + 1))) rfl rfl (by kernel_rfl) (by kernel_rfl) (m1.below hv1 (m1.lt (by omega))) (i := 56 * i + 56) (by omega) (by omega) (fun jq hjq => Fx.flat_at (k := i + 1) (by omega) hjq)) (Fx.Qt.call (v := .int .i64 (cmp3 (ndA l i).id (ndA l (i + 1)).id)) (by rfl) (fun v1 hv1 => Fx.r_clo (args := [.agg (Fx.varr 56 (ndZ (ndA l i))), .agg (Fx.varr 56 (ndZ (ndA l (i + 1))))]) rfl rfl rfl (all := #[.agg (Fx.varr 56 (ndZ (ndA l i))), .agg (Fx.varr 56 (ndZ (ndA l (i + 1))))]) rfl Try.func22 rfl rfl) rfl (fun v1 hv1 => (s_byId (ndA l i) (ndA l (i + 1)) _).mono fun e v2 h => ⟨h.1, bch hv1 h.2⟩) ?_))))));by_cases c23 : 0 ≤ (cmp3 (ndA l i).id (ndA l (i + 1)).id)
  ·refine Qv (.bool true) (fun v1 hv1 => Fx.x_geqT rfl rfl rfl c23) (Fx.Qt.nil ?_);intro wb1 hbwb1;have s1 : Fx.Stp w1.heap.size w1 wb1 := Sb hbwb1;have b2 := s1.below b1 b1.size b1.size;refine sN (Wc (b := true) rfl (fun _ => Ws (Wl (Lv (.bool false) (x_assign rfl rfl) ?_))) (fun h => nomatch h));refine Ln (sN (Wr (Fx.blkR (sR (Fx.lpR (Fx.blkR (sR (⟨.bool false, rV Try.results37 (by exact rfl), ?_⟩))))))));exact ⟨u_ (fun q => Ending.returned (Value.bool q)) (Eq.symm (riseN_no (fun h => (by have q9 := h i (by omega); first | exact v_ c23 (cmp_lt.2 q9) | exact v_ c23 (cmpG_lt.2 q9))))), b2⟩
  refine Qv (.bool false) (fun v1 hv1 => Fx.x_geqF rfl rfl rfl c23) (Fx.Qt.nil ?_);intro wb2 hbwb2;have s2 : Fx.Stp w1.heap.size w1 wb2 := Sb hbwb2;have b3 := s2.below b1 b1.size b1.size;refine sN (Wc (b := false) rfl (fun h => nomatch h) (fun _ => Wk (Fx.blkN (sN (Wl (Lv (.int .i64 ((i : Int) + 1)) (x_move rfl h3) (Lv (.int .i64 ((i : Int) + 2)) (Fx.x_add rfl rfl rfl Fx.io) (Lv (.int .i64 ((i : Int) + 2)) (x_assign rfl rfl) (Ln (Fx.lpN ⟨i + 1, (by omega), (all_step hall (cmp_lt.1 c23)), h1, h2, Fx.ic, b3⟩ ?_))))))))));show (l.length - (intOf (.int .i64 ((i : Int) + 2))).toNat) < _;simp only [h3, intOf]; omega
 refine Lv (.bool false) (Fx.x_lssF rfl rfl rfl c9) (Ln (sN (Wc (b := false) rfl (fun h => nomatch h) (fun _ => Fx.W.exit (Fx.seqX (Fx.lpX (Fx.blkX (sN (Ws (Wl (Lv (.bool true) (x_assign rfl rfl) (Ln (sN (Wr (⟨.bool true, rV Try.results37 (by exact rfl), ?_⟩)))))))))))))));exact ⟨u_ (fun q => Ending.returned (Value.bool q)) (Eq.symm (riseN_yes (fun k hk => hall k (by omega)))), b1⟩
theorem s_riseG (a : Option Addr) (c : Nat) (l : List GrM) (w : World) (hl : l.length ≤ 1000000) (hn : Fx.Arr w a l.length 5 (grsX l)) :
    Calls Try.prog 38 #[.slice a (l.length) (c), .func (.func 25) #[] #[]] w fun e w' => e = .returned (.bool (riseG l)) ∧ Below w.heap.size w w' := by
 refine Fx.enter Try.func38 rfl (n := 24) rfl (by rfl) ?_;refine Ws (Wl (Lv (.bool false) (x_assign rfl rfl) (Ln (sN (Ws (Ws (Wl (Lv (.int .i64 (1)) (x_assign rfl rfl) (Ln (sN (Fx.W.block (Fx.W.loop (fun f w_ => ∃ i : Nat, i ≤ l.length ∧ (∀ k, k < i → grLt (grA l k) (grA l (k + 1))) ∧ f 0 = .slice a (l.length) (c) ∧ f 1 = .func (.func 25) #[] #[] ∧ f 5 = .int .i64 ((i : Int) + 1) ∧ Below w.heap.size w w_) (fun f _ => (l.length - (intOf (f 5)).toNat)) ⟨0, (t_ _), (fun k h => v_ h (by omega)), (by rfl), (by rfl), Fx.ic, (Below.refl w.heap.size w)⟩ ?_))))))))))));rintro f1 w1 ⟨i, hi, hall, h1, h2, h3, b1⟩;refine Ws (Ws (Wl (Lv (.int .i64 ((i : Int) + 1)) (x_move rfl h3) (Lv (.slice a (l.length) (c)) (x_move rfl h1) (Lv (.int .i64 (l.length : Int)) (x_len rfl rfl rfl (by kernel_rfl)) ?_)))));by_cases c9 : ((i : Int) + 1) < (l.length : Int)
 ·refine Lv (.bool true) (Fx.x_lssT rfl rfl rfl c9) (Ln (sN (Wc (b := true) rfl (fun _ => Wk (sN (Ws (Fx.W.block (Ws ?_))))) (fun h => nomatch h))));refine Fx.W.quiet (fun v1 => Below w1.heap.size w1 v1) (by kernel_rfl) (by kernel_rfl) (Below.refl _ _).drew ?_;refine Qv (.func (.func 25) #[] #[]) (fun v1 hv1 => x_move rfl h2) (Qv (.slice a (l.length) (c)) (fun v1 hv1 => x_move rfl h1) (Qv (.int .i64 ((i : Int) + 1)) (fun v1 hv1 => x_move rfl h3) (Qv (.int .i64 (i : Int)) (fun v1 hv1 => Fx.x_sub rfl rfl rfl Fx.io) ?_)));obtain ⟨bq1, oq1, eq1, m1⟩ := (hn.up b1 rfl) (by omega);have lbq1 : bq1 < w1.heap.size := m1.lt (by omega);refine Qv (pf bq1 (5 * i + oq1)) (fun v1 hv1 => x_indexS rfl (rfl.trans (u_ (fun q => Value.slice q (l.length) (c)) eq1)) rfl Try.underlying27 (s := 5) (by kernel_rfl) (by omega) (by omega) (by omega)) (Qv (.agg (Fx.varr 5 (grZ (grA l i)))) (fun v1 hv1 => x_loadA (x := grsX l) (y := grZ (grA l i)) rfl rfl (by kernel_rfl) (by kernel_rfl) (m1.below hv1 (m1.lt (by omega))) (i := 5 * i) (by omega) (by omega) (fun jq hjq => Fx.flat_at (k := i) (by omega) hjq)) (Qv (.slice a (l.length) (c)) (fun v1 hv1 => x_move rfl h1) (Qv (.int .i64 ((i : Int) + 1)) (fun v1 hv1 => x_move rfl h3) (Qv (pf bq1 (5 * i + oq1 + 5)) (fun v1 hv1 => x_indexS rfl (rfl.trans (u_ (fun q => Value.slice q (l.length) (c)) eq1)) rfl Try.underlying27 (s := 5) (by kernel_rfl) (by omega) (by omega) (by omega)) (Qv (.agg (Fx.varr 5 (grZ (grA l (i + 1))))) (fun v1 hv1 => x_loadA (x := grsX l) (y := grZ (grA l (i + 1))) rfl rfl (by kernel_rfl) (by kernel_rfl) (m1.below hv1 (m1.lt (by omega))) (i := 5 * i + 5) (by omega) (by omega) (fun jq hjq => Fx.flat_at (k := i + 1) (by omega) hjq)) (Fx.Qt.call (v := .int .i64 (cmpG (grA l i) (grA l (i + 1)))) (by rfl) (fun v1 hv1 => Fx.r_clo (args := [.agg (Fx.varr 5 (grZ (grA l i))), .agg (Fx.varr 5 (grZ (grA l (i + 1))))]) rfl rfl rfl (all := #[.agg (Fx.varr 5 (grZ (grA l i))), .agg (Fx.varr 5 (grZ (grA l (i + 1))))]) rfl Try.func25 rfl rfl) rfl (fun v1 hv1 => (s_byReq (grA l i) (grA l (i + 1)) _).mono fun e v2 h => ⟨h.1, bch hv1 h.2⟩) ?_))))));by_cases c23 : 0 ≤ (cmpG (grA l i) (grA l (i + 1)))
  ·refine Qv (.bool true) (fun v1 hv1 => Fx.x_geqT rfl rfl rfl c23) (Fx.Qt.nil ?_);intro wb1 hbwb1;have s1 : Fx.Stp w1.heap.size w1 wb1 := Sb hbwb1;have b2 := s1.below b1 b1.size b1.size;refine sN (Wc (b := true) rfl (fun _ => Ws (Wl (Lv (.bool false) (x_assign rfl rfl) ?_))) (fun h => nomatch h));refine Ln (sN (Wr (Fx.blkR (sR (Fx.lpR (Fx.blkR (sR (⟨.bool false, rV Try.results38 (by exact rfl), ?_⟩))))))));exact ⟨u_ (fun q => Ending.returned (Value.bool q)) (Eq.symm (riseG_no (fun h => (by have q9 := h i (by omega); first | exact v_ c23 (cmp_lt.2 q9) | exact v_ c23 (cmpG_lt.2 q9))))), b2⟩
  refine Qv (.bool false) (fun v1 hv1 => Fx.x_geqF rfl rfl rfl c23) (Fx.Qt.nil ?_);intro wb2 hbwb2;have s2 : Fx.Stp w1.heap.size w1 wb2 := Sb hbwb2;have b3 := s2.below b1 b1.size b1.size;refine sN (Wc (b := false) rfl (fun h => nomatch h) (fun _ => Wk (Fx.blkN (sN (Wl (Lv (.int .i64 ((i : Int) + 1)) (x_move rfl h3) (Lv (.int .i64 ((i : Int) + 2)) (Fx.x_add rfl rfl rfl Fx.io) (Lv (.int .i64 ((i : Int) + 2)) (x_assign rfl rfl) (Ln (Fx.lpN ⟨i + 1, (by omega), (all_step hall (cmpG_lt.1 c23)), h1, h2, Fx.ic, b3⟩ ?_))))))))));show (l.length - (intOf (.int .i64 ((i : Int) + 2))).toNat) < _;simp only [h3, intOf]; omega
 refine Lv (.bool false) (Fx.x_lssF rfl rfl rfl c9) (Ln (sN (Wc (b := false) rfl (fun h => nomatch h) (fun _ => Fx.W.exit (Fx.seqX (Fx.lpX (Fx.blkX (sN (Ws (Wl (Lv (.bool true) (x_assign rfl rfl) (Ln (sN (Wr (⟨.bool true, rV Try.results38 (by exact rfl), ?_⟩)))))))))))))));exact ⟨u_ (fun q => Ending.returned (Value.bool q)) (Eq.symm (riseG_yes (fun k hk => hall k (by omega)))), b1⟩
set_option linter.unusedVariables false
namespace Rt
def RiseP (l : List NdM) : Prop := ∀ k, k + 1 < l.length → (ndA l k).id < (ndA l (k + 1)).id
theorem rise_lt {l : List NdM} (h : RiseP l) : ∀ {j i : Nat}, i < j → j < l.length → (ndA l i).id < (ndA l j).id
  | 0, _, h1, _ => v_ h1 (m_ _)
  | j + 1, i, h1, h2 => by
    have h3 := h j h2;by_cases e : i = j
    · rw [e]; exact h3
    · have := rise_lt h (show i < j by omega) (by omega); omega
theorem rise_inj {l : List NdM} (h : RiseP l) {i j : Nat} (hi : i < l.length) (hj : j < l.length) (e : (ndA l i).id = (ndA l j).id) : i = j := by
  rcases Nat.lt_trichotomy i j with c | c | c
  · have := rise_lt h c hj; omega
  · exact c
  have := rise_lt h c hi; omega
theorem nodeI_at {l : List NdM} (h : RiseP l) {j : Nat} {x : Int} (hj : j < l.length) (e : (ndA l j).id = x) : nodeI l x = (j : Int) := by
  unfold nodeI
  rcases firstI_spec (fun i => decide ((ndA l i).id = x)) l.length with ⟨k, hk, ek, hp⟩ | ⟨_, hn⟩
  · rw [ek, rise_inj h hk hj ((e_ hp).trans e.symm)]
  have := hn j hj; rw [c_ e] at this; cases this
theorem nodeI_no {l : List NdM} {x : Int} (h : ∀ i, i < l.length → (ndA l i).id ≠ x) : nodeI l x = -1 := by
  unfold nodeI; exact firstI_none fun i hi => d_ (h i hi)
theorem nodeI_ge {l : List NdM} {x : Int} (h : 0 ≤ nodeI l x) : ∃ j, j < l.length ∧ nodeI l x = (j : Int) ∧ (ndA l j).id = x := by
  unfold nodeI at h ⊢
  rcases firstI_spec (fun i => decide ((ndA l i).id = x)) l.length with ⟨k, hk, ek, hp⟩ | ⟨en, _⟩
  · exact ⟨k, hk, ek, e_ hp⟩
  rw [en] at h; exact v_ h (by decide)
theorem putI_same {α : Type} {f : Nat → α} {i : Nat} : ∀ q, q < i + 1 → Fx.putI f i (f i) q = f q := fun q _ => by
  unfold Fx.putI; split
  · rename_i e; rw [e]
  · rfl
theorem ends_0 {l : List NdM} {f : Nat} {x : Int} (h : x = 0) : endsN l (f + 1) x = true := b_ h
theorem ends_n {l : List NdM} {f : Nat} {x : Int} (h : x ≠ 0) (hn : nodeI l x < 0) : endsN l (f + 1) x = false := by
  unfold endsN; rw [a_ h, b_ hn]
theorem ends_y {l : List NdM} {f j : Nat} {x : Int} (h : x ≠ 0) (hn : nodeI l x = (j : Int)) : endsN l (f + 1) x = endsN l f (ndA l j).par := by
  show (if x = 0 then true else if nodeI l x < 0 then false else endsN l f (ndA l (nodeI l x).toNat).par) = _;rw [a_ h, a_ (by omega), hn]; rfl
open Classical in
noncomputable def grNo (l : List NdM) (g : GrM) : Bool := decide (¬ GrOk l g)
open Classical in
theorem grNo_y {l : List NdM} {g : GrM} (h : ¬ GrOk l g) : grNo l g = true := c_ h
open Classical in
theorem grNo_n {l : List NdM} {g : GrM} (h : GrOk l g) : grNo l g = false := d_ fun q => q h
end Rt
theorem s_parents (m : SnM) (na : Option Addr) (nc : Nat) (ga : Option Addr) (gc : Nat) (w : World) (hl : m.ns.length ≤ 1000000) (hr : RiseP m.ns) (hn : Fx.Arr w na m.ns.length 56 (ndsX m.ns)) :
    Calls Try.prog 39 #[.agg (Fx.varr 20 (stY (stS m na nc ga gc)))] w fun e w' => ∃ b, e = .returned (.map (some b)) ∧ Fx.Mp w' b m.ns.length (fun q => (ndA m.ns q).id) (fun q => Value.int .u64 (ndA m.ns q).par) ∧ w.heap.size ≤ b ∧ Below w.heap.size w w' := by
 refine Fx.enter Try.func39 rfl (n := 21) rfl (by rfl) ?_;refine Ws (Wl (Fx.L.box (m := 20) (y := stY (stS m na nc ga gc)) (by rfl) rfl rfl (Fx.cells_agg _ _) rfl fun g1 w1 eg1 m1 s1 z1 => ?_));have b1 := s1.below (Below.refl w.heap.size w) (Below.refl w.heap.size w).size (Below.refl w.heap.size w).size;have lg1 : w.heap.size ≤ g1 := by rw [eg1]; exact (Below.refl w.heap.size w).size
 have tg1 : g1 < w1.heap.size := m1.lt;clear eg1;refine Lv (.map none) (x_assign rfl rfl) (Ln (sN (Ws (Wl (Fx.L.mkmap (by rfl) rfl rfl fun g2 w2 eg2 m2 s2 z2 => ?_)))));have m3 := m1.stp s2 m1.ne;have b2 := s2.below b1 b1.size b1.size;have lg2 : w.heap.size ≤ g2 := by rw [eg2]; exact b1.size
 have ng2m3 : g1 ≠ g2 := by rw [eg2]; exact l_ (m1.lt)
 have tg2 : g2 < w2.heap.size := m2.lt;clear eg2;refine Lv (.map (some g2)) (x_assign rfl rfl) (Ln (sN (Ws (Ws (Wl (Lv (pf g1 18) (x_field rfl rfl Try.underlying29 rfl (s := 1) (by kernel_rfl) rfl (by show _ + 18 = _; omega)) (Lv (.slice na (m.ns.length) (nc)) (x_load1 (x := stY (stS m na nc ga gc)) rfl rfl (by kernel_rfl) m3.cel (i := 18) (by omega) (by omega) rfl) (Lv (.int .i64 (m.ns.length : Int)) (x_len rfl rfl rfl (by kernel_rfl)) (Lv (.int .i64 (0)) (x_move rfl rfl) (Ln (sN (Fx.W.block ?_))))))))))));have m4 : Fx.Mp w2 g2 0 (fun q => (ndA m.ns q).id) (fun q => Value.int .u64 (ndA m.ns q).par) := m2.cong (fun q h => v_ h (m_ _));refine Fx.W.loop (fun f w_ => ∃ i : Nat, i ≤ m.ns.length ∧ f 3 = .map (some g2) ∧ f 8 = .slice na (m.ns.length) (nc) ∧ f 9 = .int .i64 (m.ns.length : Int) ∧ f 10 = .int .i64 (i : Int) ∧ Fx.Mp w_ g2 i (fun q => (ndA m.ns q).id) (fun q => Value.int .u64 (ndA m.ns q).par) ∧ Fx.Blk w_ g1 20 (stY (stS m na nc ga gc)) 29 ∧ Below w.heap.size w w_) (fun f _ => (m.ns.length - (intOf (f 10)).toNat)) ⟨0, t_ _, (by rfl), (by rfl), Fx.ic, Fx.ic, m4, m3, b2⟩ ?_;rintro f1 w3 ⟨i, hi, h1, h2, h3, h4, m5, m6, b3⟩;refine Ws (Wl ?_);by_cases c11 : (i : Int) < (m.ns.length : Int)
 ·refine Lv (.bool true) (Fx.x_lssT rfl h4 h3 c11) (Ln (sN (Ws (Wc (b := true) rfl (fun _ => Wk (sN (Ws (Fx.W.block (Ws (Wl ?_)))))) (fun h => nomatch h)))));obtain ⟨bq1, oq1, eq1, m7⟩ := (hn.up b3 rfl) (by omega);have lbq1 : bq1 < w3.heap.size := m7.lt (by omega);refine Lv (pf bq1 (56 * i + oq1)) (x_indexS rfl (h2.trans (u_ (fun q => Value.slice q (m.ns.length) (nc)) eq1)) h4 Try.underlying26 (s := 56) (by kernel_rfl) (by omega) (by omega) (by omega)) (Lv (.agg (Fx.varr 56 (ndZ (ndA m.ns i)))) (x_loadA (x := ndsX m.ns) (y := ndZ (ndA m.ns i)) rfl rfl (by kernel_rfl) (by kernel_rfl) m7 (i := 56 * i) (by omega) (by omega) (fun jq hjq => Fx.flat_at (k := i) (by omega) hjq)) (Fx.L.new (m := 56) (y := fun i => (#[.int .u64 (0), .int .u64 (0), .int .i64 (0), .int .i64 (0), .int .i64 (0), .int .i64 (0), .int .i64 (0), .int .i64 (0), .int .i64 (0), .int .i64 (0), .int .i64 (0), .int .i64 (0), .int .i64 (0), .int .i64 (0), .int .i64 (0), .int .i64 (0), .int .i64 (0), .int .i64 (0), .int .i64 (0), .int .i64 (0), .int .i64 (0), .int .i64 (0), .int .i64 (0), .int .i64 (0), .int .i64 (0), .int .i64 (0), .int .i64 (0), .int .i64 (0), .int .i64 (0), .int .i64 (0), .int .i64 (0), .int .i64 (0), .int .i64 (0), .int .i64 (0), .int .i64 (0), .int .i64 (0), .int .i64 (0), .int .i64 (0), .int .i64 (0), .int .i64 (0), .int .i64 (0), .int .i64 (0), .int .i64 (0), .int .i64 (0), .int .i64 (0), .int .i64 (0), .int .i64 (0), .int .i64 (0), .int .i64 (0), .int .i64 (0), .int .i64 (0), .int .i64 (0), .int .i64 (0), .int .i64 (0), .int .i64 (0), .int .i64 (0)] : Array Value).getD i undef) (by rfl) rfl (by kernel_rfl) rfl fun g3 w4 eg3 m8 s3 z3 => ?_));have m9 := m5.up s3.old;have m10 := m6.stp s3 m6.ne;have m11 := m7.stp s3 (l_ (m7.lt (by omega)));have b4 := s3.below b3 b3.size b3.size;have lg3 : w.heap.size ≤ g3 := by rw [eg3]; exact b3.size
  have ng3m9 : g2 ≠ g3 := by rw [eg3]; exact l_ (m5.lt)
  have ng3m10 : g1 ≠ g3 := by rw [eg3]; exact l_ (m6.lt)
  have ng3m11 : bq1 ≠ g3 := by rw [eg3]; exact l_ (m7.lt (by omega))
  have tg3 : g3 < w4.heap.size := m8.lt;clear eg3;refine Fx.L.storeA (x := fun i => (#[.int .u64 (0), .int .u64 (0), .int .i64 (0), .int .i64 (0), .int .i64 (0), .int .i64 (0), .int .i64 (0), .int .i64 (0), .int .i64 (0), .int .i64 (0), .int .i64 (0), .int .i64 (0), .int .i64 (0), .int .i64 (0), .int .i64 (0), .int .i64 (0), .int .i64 (0), .int .i64 (0), .int .i64 (0), .int .i64 (0), .int .i64 (0), .int .i64 (0), .int .i64 (0), .int .i64 (0), .int .i64 (0), .int .i64 (0), .int .i64 (0), .int .i64 (0), .int .i64 (0), .int .i64 (0), .int .i64 (0), .int .i64 (0), .int .i64 (0), .int .i64 (0), .int .i64 (0), .int .i64 (0), .int .i64 (0), .int .i64 (0), .int .i64 (0), .int .i64 (0), .int .i64 (0), .int .i64 (0), .int .i64 (0), .int .i64 (0), .int .i64 (0), .int .i64 (0), .int .i64 (0), .int .i64 (0), .int .i64 (0), .int .i64 (0), .int .i64 (0), .int .i64 (0), .int .i64 (0), .int .i64 (0), .int .i64 (0), .int .i64 (0)] : Array Value).getD i undef) (y := ndZ (ndA m.ns i)) (by rfl) rfl rfl rfl rfl (fun j _ => ndZ_one _ j) (by kernel_rfl) m8 (i := 0) (by omega) fun w5 m12 s4 z4 => ?_;have m13 : Fx.Blk w5 g3 56 (ndZ (ndA m.ns i)) 50 := Fx.ovr_all m12;have hct1 := Fx.ChT.of_stp s4 m8.ty;have m14 := m9.chT hct1 trivial;have m15 := m10.chT hct1 (by decide);have m16 := m11.stp s4 (by omega);have b5 := s4.below b4 b4.size (by omega);refine Ln (sN ?_);have hn0 : ∀ q, q < i → (fun q => (ndA m.ns q).id) q ≠ (ndA m.ns i).id := fun q hq e => by have q9 := rise_lt hr hq (show i < m.ns.length by omega); have e : (ndA m.ns q).id = (ndA m.ns i).id := e; omega
  refine Wl (Lv (.map (some g2)) (x_move rfl h1) (Lv (pt g3) (x_field rfl rfl Try.underlying50 rfl (s := 1) (by kernel_rfl) rfl rfl) (Lv (.int .u64 ((ndA m.ns i).id)) (x_load1 (x := ndZ (ndA m.ns i)) rfl rfl (by kernel_rfl) m13.cel (i := 0) (by omega) (by omega) rfl) (Lv (pf g3 1) (x_field rfl rfl Try.underlying50 rfl (s := 1) (by kernel_rfl) rfl (by show _ + 1 = _; omega)) (Lv (.int .u64 ((ndA m.ns i).par)) (x_load1 (x := ndZ (ndA m.ns i)) rfl rfl (by kernel_rfl) m13.cel (i := 1) (by omega) (by omega) rfl) (Fx.L.mupN (by rfl) rfl rfl rfl rfl rfl m14 Try.underlying83 Try.underlying23 hn0 fun w6 m17 s5 z5 => ?_))))));have hcm1 := m14.chm s5;have m18 := m15.chM hcm1;have m19 := m13.chM hcm1;have b6 := s5.below b5 b5.size (by omega);have m21 : Fx.Mp w6 g2 (i + 1) (Fx.putI (fun q => (ndA m.ns q).id) i ((ndA m.ns i).id)) (Fx.putI (fun q => Value.int .u64 (ndA m.ns q).par) i (Value.int .u64 (ndA m.ns i).par)) := m17;have m20 : Fx.Mp w6 g2 (i + 1) (fun q => (ndA m.ns q).id) (fun q => Value.int .u64 (ndA m.ns q).par) := m21.cong (fun q hq => ⟨putI_same (f := (fun q => (ndA m.ns q).id)) q hq, putI_same (f := (fun q => Value.int .u64 (ndA m.ns q).par)) q hq⟩);refine Ln (Fx.blkN (sN (Wl (Lv (.int .i64 ((i : Int) + 1)) (Fx.x_add rfl h4 rfl Fx.io) (Lv (.int .i64 ((i : Int) + 1)) (x_move rfl rfl) (Ln (Fx.lpN ⟨i + 1, by omega, h1, h2, (h3.trans Fx.ic), Fx.ic, m20, m18, b6⟩ ?_)))))));show (m.ns.length - (intOf (.int .i64 ((i : Int) + 1))).toNat) < _;simp only [h4, intOf]; omega
 refine Lv (.bool false) (Fx.x_lssF rfl h4 h3 c11) (Ln (sN (Ws (Wc (b := false) rfl (fun h => nomatch h) (fun _ => Fx.W.exit (Fx.seqX (Fx.lpX (Fx.blkX (sN (Ws (Wl (Lv (.map (some g2)) (x_move rfl h1) (Lv (.map (some g2)) (x_assign rfl rfl) (Ln (sN (Wr (⟨.map (some g2), rV Try.results39 (by exact rfl), ?_⟩)))))))))))))))));have ei : i = m.ns.length := by omega
 exact ⟨g2, rfl, by rw [← ei]; exact m5, by omega, b3⟩
set_option maxRecDepth 20000 in
theorem s_ends (mb : Nat) (l : List NdM) (x : Int) (w : World) (hr : RiseP l) (hm : Fx.Mp w mb l.length (fun q => (ndA l q).id) (fun q => Value.int .u64 (ndA l q).par)) :
    Calls Try.prog 41 #[.map (some mb), .int .u64 (x)] w fun e w' => e = .returned (.bool (endsN l 33 x)) ∧ Below w.heap.size w w' := by
 obtain ⟨N, hN⟩ : ∃ q, q = 33 := ⟨_, rfl⟩;refine Fx.enter Try.func41 rfl (n := 21) rfl (by rfl) ?_;refine Ws (Wl (Lv (.bool false) (x_assign rfl rfl) (Ln (sN (Ws (Ws (Wl (Lv (.int .i64 (0)) (x_move rfl rfl) (Ln (sN (Fx.W.block (Fx.W.loop (fun f w_ => ∃ j : Nat, ∃ y : Int, j ≤ 33 ∧ endsN l N x = endsN l (N - j) y ∧ f 0 = .map (some mb) ∧ f 1 = .int .u64 (y) ∧ f 7 = .int .i64 (j : Int) ∧ Fx.Mp w_ mb l.length (fun q => (ndA l q).id) (fun q => Value.int .u64 (ndA l q).par) ∧ Below w.heap.size w w_) (fun f _ => (33 - (intOf (f 7)).toNat)) ⟨0, x, by omega, (by rw [Nat.sub_zero]), (by rfl), Fx.ic, Fx.ic, hm, (Below.refl w.heap.size w)⟩ ?_))))))))))));rintro f1 w1 ⟨j, y, hj, hy, h1, h2, h3, m1, b1⟩;refine Ws (Wl ?_);by_cases c8 : (j : Int) < 33
 ·refine Lv (.bool true) (Fx.x_lssT rfl h3 rfl c8) (Ln (sN (Ws (Wc (b := true) rfl (fun _ => Wk (sN (Ws (Fx.W.block (Ws (Ws ?_)))))) (fun h => nomatch h)))));obtain ⟨f9, hf9⟩ : ∃ f, N - j = f + 1 := ⟨32 - j, by omega⟩;have hsj : N - (j + 1) = f9 := by omega
  refine Wl (Lv (.int .u64 (y)) (x_move rfl h2) ?_);by_cases c10 : y = 0
  ·refine Lv (.bool true) (x_eqlT rfl rfl rfl c10) (Ln (sN (Wc (b := true) rfl (fun _ => Ws (Wl (Lv (.bool true) (x_assign rfl rfl) ?_))) (fun h => nomatch h))));refine Ln (sN (Wr (sR (Fx.blkR (sR (Fx.lpR (Fx.blkR (sR (⟨.bool true, rV Try.results41 (by exact rfl), ?_⟩)))))))));exact ⟨by rw [← hN, hy, hf9, ends_0 c10], b1⟩
  refine Lv (.bool false) (x_eqlF rfl rfl rfl c10) (Ln (sN (Wc (b := false) rfl (fun h => nomatch h) (fun _ => Wk (sN (Ws (Wl (Lv (.map (some mb)) (x_move rfl h1) (Lv (.int .u64 (y)) (x_move rfl h2) ?_)))))))))
  rcases Fx.look_cases (fun q => (ndA l q).id) l.length y with ⟨jlk1, hjlk1, ejlk1⟩ | hnlk1
  ·refine Lv (.tuple #[.int .u64 ((ndA l jlk1).par), .bool true]) (Fx.x_look2Y (z := .int .u64 (0)) rfl rfl rfl m1 Try.underlying83 Try.underlying23 (by rfl) hjlk1 ejlk1 rfl) (Lv (.tuple #[.int .u64 ((ndA l jlk1).par), .bool true]) (x_move rfl rfl) (Lv (.int .u64 ((ndA l jlk1).par)) (Fx.x_extract rfl rfl rfl) (Lv (.bool true) (Fx.x_extract rfl rfl rfl) (Lv (.int .u64 ((ndA l jlk1).par)) (x_assign rfl rfl) (Lv (.bool true) (x_assign rfl rfl) (Ln (sN (Ws (Ws (Wl (Lv (.bool true) (x_move rfl rfl) (Lv (.bool false) (Fx.x_notF rfl rfl) (Ln (sN (Wc (b := false) rfl (fun h => nomatch h) (fun _ => Wk (sN (Wl (Lv (.int .u64 ((ndA l jlk1).par)) (x_move rfl rfl) (Lv (.int .u64 ((ndA l jlk1).par)) (x_assign rfl rfl) (Ln (Fx.blkN (sN (Wl (Lv (.int .i64 ((j : Int) + 1)) (Fx.x_add rfl h3 rfl Fx.io) (Lv (.int .i64 ((j : Int) + 1)) (x_move rfl rfl) (Ln (Fx.lpN ⟨j + 1, (ndA l jlk1).par, by omega, (hy.trans (by rw [hf9, hsj]; exact ends_y c10 (nodeI_at hr hjlk1 ejlk1))), h1, Fx.ic, Fx.ic, m1, b1⟩ ?_))))))))))))))))))))))))))));show (33 - (intOf (.int .i64 ((j : Int) + 1))).toNat) < _;simp only [h3, intOf]; omega
  refine Lv (.tuple #[.int .u64 (0), .bool false]) (Fx.x_look2N (z := .int .u64 (0)) rfl rfl rfl m1 Try.underlying83 Try.underlying23 (by rfl) hnlk1) (Lv (.tuple #[.int .u64 (0), .bool false]) (x_move rfl rfl) (Lv (.int .u64 (0)) (Fx.x_extract rfl rfl rfl) (Lv (.bool false) (Fx.x_extract rfl rfl rfl) (Lv (.int .u64 (0)) (x_assign rfl rfl) (Lv (.bool false) (x_assign rfl rfl) (Ln (sN (Ws (Ws (Wl (Lv (.bool false) (x_move rfl rfl) (Lv (.bool true) (Fx.x_notT rfl rfl) (Ln (sN (Wc (b := true) rfl (fun _ => Ws (Wl (Lv (.bool false) (x_assign rfl rfl) ?_))) (fun h => nomatch h))))))))))))))));refine Ln (sN (Wr (sR (Fx.blkR (sR (Fx.lpR (Fx.blkR (sR (⟨.bool false, rV Try.results41 (by exact rfl), ?_⟩)))))))));exact ⟨by rw [← hN, hy, hf9, ends_n c10 (by rw [nodeI_no hnlk1]; decide)], b1⟩
 refine Lv (.bool false) (Fx.x_lssF rfl h3 rfl c8) (Ln (sN (Ws (Wc (b := false) rfl (fun h => nomatch h) (fun _ => Fx.W.exit (Fx.seqX (Fx.lpX (Fx.blkX (sN (Ws (Wl (Lv (.bool false) (x_assign rfl rfl) (Ln (sN (Wr (⟨.bool false, rV Try.results41 (by exact rfl), ?_⟩))))))))))))))));exact ⟨by rw [← hN, hy, show N - j = 0 by omega]; rfl, b1⟩
set_option linter.unusedVariables false
namespace Rt
def hasNo (l : List NdM) (gs : List GrM) : Prop := 0 ≤ firstI (fun q => grNo l (grA gs q)) gs.length
open Classical in
noncomputable def hasNoB (l : List NdM) (gs : List GrM) : Bool := decide (hasNo l gs)
open Classical in
theorem hasNo_y {l : List NdM} {gs : List GrM} (h : 0 ≤ firstI (fun q => grNo l (grA gs q)) gs.length) : hasNoB l gs = true := c_ h
open Classical in
theorem hasNo_n {l : List NdM} {gs : List GrM} (h : ¬ 0 ≤ firstI (fun q => grNo l (grA gs q)) gs.length) : hasNoB l gs = false := d_ h
open Classical in
theorem grNo_ok {l : List NdM} {g : GrM} (h : grNo l g = false) : GrOk l g := Classical.byContradiction fun q => f_ h q
open Classical in
theorem hasNo_all {l : List NdM} {gs : List GrM} (h : hasNoB l gs = false) : ∀ k, k < gs.length → GrOk l (grA gs k) := fun k hk => by
  have h : ¬ hasNo l gs := f_ h
  rcases firstI_spec (fun q => grNo l (grA gs q)) gs.length with ⟨j, hj, e, _⟩ | ⟨_, hn⟩
  · exact v_ (show (0 : Int) ≤ _ by rw [e]; omega) h
  · exact grNo_ok (hn k hk)
open Classical in
theorem hasNo_ex {l : List NdM} {gs : List GrM} (h : hasNoB l gs = true) : ¬ ∀ k, k < gs.length → GrOk l (grA gs k) := fun hall => by
  have h : hasNo l gs := e_ h
  rcases firstI_spec (fun q => grNo l (grA gs q)) gs.length with ⟨j, hj, e, hp⟩ | ⟨e, _⟩
  · exact e_ hp (hall j hj)
  · unfold hasNo at h; rw [e] at h; exact v_ h (by decide)
open Classical in
theorem mayS_y {m : SnM} (h : MayP m) : mayS m = true := c_ h
open Classical in
theorem mayS_n {m : SnM} (h : ¬ MayP m) : mayS m = false := d_ h
open Classical in
theorem mayS_iff {m : SnM} : mayS m = true ↔ MayP m := decide_eq_true_iff
theorem riseN_p {l : List NdM} (h : riseN l = true) : RiseP l := Classical.byContradiction fun q => by rw [riseN_no q] at h; cases h
theorem riseN_q {l : List NdM} (h : riseN l = false) : ¬ RiseP l := fun q => by rw [riseN_yes q] at h; cases h
theorem riseG_p {l : List GrM} (h : riseG l = true) : ∀ k, k + 1 < l.length → grLt (grA l k) (grA l (k + 1)) := Classical.byContradiction fun q => by rw [riseG_no q] at h; cases h
theorem riseG_q {l : List GrM} (h : riseG l = false) : ¬ ∀ k, k + 1 < l.length → grLt (grA l k) (grA l (k + 1)) := fun q => by rw [riseG_yes q] at h; cases h
theorem kn_p {K : Nat → Int} (h : mayV6 K = true) : ∀ i, i < 6 → K i ≤ 1099511627776 := e_ h
theorem kn_q {K : Nat → Int} (h : mayV6 K = false) : ¬ ∀ i, i < 6 → K i ≤ 1099511627776 := f_ h
end Rt
set_option maxRecDepth 20000 in
theorem s_may1 (mb gm : Nat) (l : List NdM) (g : GrM) (w : World) (hr : RiseP l) (hg : Fx.Blk w gm 1 (fun _ => .map (some mb)) 83) (hm : Fx.Mp w mb l.length (fun q => (ndA l q).id) (fun q => Value.int .u64 (ndA l q).par)) :
    Calls Try.prog 43 #[.agg (Fx.varr 5 (grZ g)), (pt gm)] w fun e w' => e = .returned (.bool (grNo l g)) ∧ Below w.heap.size w w' := by
 have lgm := hg.lt;have lmb := hm.lt;refine Fx.enter Try.func43 rfl (n := 47) rfl (by rfl) ?_;refine Ws (Wl (Fx.L.box (m := 5) (y := grZ g) (by rfl) rfl rfl (Fx.cells_agg _ _) rfl fun g1 w1 eg1 m1 s1 z1 => ?_));have m2 := hg.stp s1 hg.ne;have m3 := hm.up s1.old;have b1 := s1.below (Below.refl w.heap.size w) (Below.refl w.heap.size w).size (Below.refl w.heap.size w).size;have lg1 : w.heap.size ≤ g1 := by rw [eg1]; exact (Below.refl w.heap.size w).size
 have ng1m2 : gm ≠ g1 := by rw [eg1]; exact l_ (hg.lt)
 have ng1m3 : mb ≠ g1 := by rw [eg1]; exact l_ (hm.lt)
 have tg1 : g1 < w1.heap.size := m1.lt;clear eg1;refine Lv (.bool false) (x_assign rfl rfl) (Ln (sN (Ws (Wl (Lv (.map (some mb)) (x_load1 (x := fun _ => .map (some mb)) rfl rfl (by kernel_rfl) m2.cel (i := 0) (by omega) (by omega) rfl) (Lv (pf g1 2) (x_field rfl rfl Try.underlying59 rfl (s := 1) (by kernel_rfl) rfl (by show _ + 2 = _; omega)) (Lv (.int .u64 (g.n)) (x_load1 (x := grZ g) rfl rfl (by kernel_rfl) m1.cel (i := 2) (by omega) (by omega) rfl) ?_)))))))
 rcases Fx.look_cases (fun q => (ndA l q).id) l.length g.n with ⟨jlk1, hjlk1, ejlk1⟩ | hnlk1
 ·refine Lv (.tuple #[.int .u64 ((ndA l jlk1).par), .bool true]) (Fx.x_look2Y (z := .int .u64 (0)) rfl rfl rfl m3 Try.underlying83 Try.underlying23 (by rfl) hjlk1 ejlk1 rfl) (Lv (.tuple #[.int .u64 ((ndA l jlk1).par), .bool true]) (x_move rfl rfl) (Lv (.int .u64 ((ndA l jlk1).par)) (Fx.x_extract rfl rfl rfl) (Lv (.bool true) (Fx.x_extract rfl rfl rfl) (Lv (.int .u64 ((ndA l jlk1).par)) (x_assign rfl rfl) (Lv (.bool true) (x_assign rfl rfl) (Ln (sN (Ws (Wl (Lv (pt g1) (x_field rfl rfl Try.underlying59 rfl (s := 1) (by kernel_rfl) rfl rfl) (Lv (.int .i64 (g.o)) (x_load1 (x := grZ g) rfl rfl (by kernel_rfl) m1.cel (i := 0) (by omega) (by omega) rfl) ?_)))))))))));by_cases c15 : g.o < 1
  ·refine Lv (.bool true) (Fx.x_lssT rfl rfl rfl c15) (Lv (.bool true) (x_move rfl rfl) (Lk (by rfl) rfl (Lk (by rfl) rfl (Lk (by rfl) rfl (Lv (.bool true) (x_pickT rfl rfl rfl) (Lv (.bool true) (x_move rfl rfl) (Lk (by rfl) rfl (Lk (by rfl) rfl (Lk (by rfl) rfl (Lv (.bool true) (x_pickT rfl rfl rfl) (Lv (.bool true) (x_move rfl rfl) (Lk (by rfl) rfl (Lk (by rfl) rfl (Lv (.bool true) (x_pickT rfl rfl rfl) (Lv (.bool true) (x_move rfl rfl) (Lk (by rfl) rfl (Lk (by rfl) rfl (Lk (by rfl) rfl (Lv (.bool true) (x_pickT rfl rfl rfl) (Lv (.bool true) (x_move rfl rfl) (Lk (by rfl) rfl (Lk (by rfl) rfl (Lk (by rfl) rfl (Lv (.bool true) (x_pickT rfl rfl rfl) ?_))))))))))))))))))))))));refine Lv (.bool true) (x_move rfl rfl) (Lk (by rfl) rfl (Lk (by rfl) rfl (Lk (by rfl) rfl (Lk (by rfl) rfl (Lk (by rfl) rfl (Lv (.bool true) (x_pickT rfl rfl rfl) (Lv (.bool true) (x_assign rfl rfl) (Ln (sN (Wr (⟨.bool true, rV Try.results43 (by exact rfl), ?_⟩)))))))))));exact ⟨u_ (fun q => Ending.returned (Value.bool q)) (Eq.symm (grNo_y (fun h => by obtain ⟨a1, a2, a3, a4, a5, a6, a7⟩ := h; first | omega | exact a3 c24 | exact a7 c45 | (rw [nodeI_no hnlk1] at a4; omega)))), b1⟩
  refine Lv (.bool false) (Fx.x_lssF rfl rfl rfl c15) (Lv (.bool false) (x_move rfl rfl) (Lv (pt g1) (x_field rfl rfl Try.underlying59 rfl (s := 1) (by kernel_rfl) rfl rfl) (Lv (.int .i64 (g.o)) (x_load1 (x := grZ g) rfl rfl (by kernel_rfl) m1.cel (i := 0) (by omega) (by omega) rfl) ?_)));by_cases c19 : 6 < g.o
  ·refine Lv (.bool true) (Fx.x_gtrT rfl rfl rfl c19) (Lv (.bool true) (x_pickF rfl rfl rfl) (Lv (.bool true) (x_move rfl rfl) (Lk (by rfl) rfl (Lk (by rfl) rfl (Lk (by rfl) rfl (Lv (.bool true) (x_pickT rfl rfl rfl) (Lv (.bool true) (x_move rfl rfl) (Lk (by rfl) rfl (Lk (by rfl) rfl (Lv (.bool true) (x_pickT rfl rfl rfl) (Lv (.bool true) (x_move rfl rfl) (Lk (by rfl) rfl (Lk (by rfl) rfl (Lk (by rfl) rfl (Lv (.bool true) (x_pickT rfl rfl rfl) (Lv (.bool true) (x_move rfl rfl) (Lk (by rfl) rfl (Lk (by rfl) rfl (Lk (by rfl) rfl (Lv (.bool true) (x_pickT rfl rfl rfl) (Lv (.bool true) (x_move rfl rfl) (Lk (by rfl) rfl (Lk (by rfl) rfl (Lk (by rfl) rfl ?_))))))))))))))))))))))));refine Lk (by rfl) rfl (Lk (by rfl) rfl (Lv (.bool true) (x_pickT rfl rfl rfl) (Lv (.bool true) (x_assign rfl rfl) (Ln (sN (Wr (⟨.bool true, rV Try.results43 (by exact rfl), ?_⟩)))))));exact ⟨u_ (fun q => Ending.returned (Value.bool q)) (Eq.symm (grNo_y (fun h => by obtain ⟨a1, a2, a3, a4, a5, a6, a7⟩ := h; first | omega | exact a3 c24 | exact a7 c45 | (rw [nodeI_no hnlk1] at a4; omega)))), b1⟩
  refine Lv (.bool false) (x_gtrF rfl rfl rfl c19) (Lv (.bool false) (x_pickF rfl rfl rfl) (Lv (.bool false) (x_move rfl rfl) (Lv (pf g1 1) (x_field rfl rfl Try.underlying59 rfl (s := 1) (by kernel_rfl) rfl (by show _ + 1 = _; omega)) (Lv (.int .u64 (g.r)) (x_load1 (x := grZ g) rfl rfl (by kernel_rfl) m1.cel (i := 1) (by omega) (by omega) rfl) ?_))));by_cases c24 : g.r = 0
  ·refine Lv (.bool true) (x_eqlT rfl rfl rfl c24) (Lv (.bool true) (x_pickF rfl rfl rfl) (Lv (.bool true) (x_move rfl rfl) (Lk (by rfl) rfl (Lk (by rfl) rfl (Lv (.bool true) (x_pickT rfl rfl rfl) (Lv (.bool true) (x_move rfl rfl) (Lk (by rfl) rfl (Lk (by rfl) rfl (Lk (by rfl) rfl (Lv (.bool true) (x_pickT rfl rfl rfl) (Lv (.bool true) (x_move rfl rfl) (Lk (by rfl) rfl (Lk (by rfl) rfl (Lk (by rfl) rfl (Lv (.bool true) (x_pickT rfl rfl rfl) (Lv (.bool true) (x_move rfl rfl) (Lk (by rfl) rfl (Lk (by rfl) rfl (Lk (by rfl) rfl (Lk (by rfl) rfl (Lk (by rfl) rfl (Lv (.bool true) (x_pickT rfl rfl rfl) (Lv (.bool true) (x_assign rfl rfl) (Ln (sN (Wr (⟨.bool true, rV Try.results43 (by exact rfl), ?_⟩)))))))))))))))))))))))))));exact ⟨u_ (fun q => Ending.returned (Value.bool q)) (Eq.symm (grNo_y (fun h => by obtain ⟨a1, a2, a3, a4, a5, a6, a7⟩ := h; first | omega | exact a3 c24 | exact a7 c45 | (rw [nodeI_no hnlk1] at a4; omega)))), b1⟩
  refine Lv (.bool false) (x_eqlF rfl rfl rfl c24) (Lv (.bool false) (x_pickF rfl rfl rfl) (Lv (.bool false) (x_move rfl rfl) (Lv (.bool true) (x_move rfl rfl) (Lv (.bool false) (Fx.x_notF rfl rfl) (Lv (.bool false) (x_pickF rfl rfl rfl) (Lv (.bool false) (x_move rfl rfl) (Lv (pf g1 3) (x_field rfl rfl Try.underlying59 rfl (s := 1) (by kernel_rfl) rfl (by show _ + 3 = _; omega)) (Lv (.int .i64 (g.a)) (x_load1 (x := grZ g) rfl rfl (by kernel_rfl) m1.cel (i := 3) (by omega) (by omega) rfl) ?_))))))));by_cases c33 : g.a < 1
  ·refine Lv (.bool true) (Fx.x_lssT rfl rfl rfl c33) (Lv (.bool true) (x_pickF rfl rfl rfl) (Lv (.bool true) (x_move rfl rfl) (Lk (by rfl) rfl (Lk (by rfl) rfl (Lk (by rfl) rfl (Lv (.bool true) (x_pickT rfl rfl rfl) (Lv (.bool true) (x_move rfl rfl) (Lk (by rfl) rfl (Lk (by rfl) rfl (Lk (by rfl) rfl (Lk (by rfl) rfl (Lk (by rfl) rfl (Lv (.bool true) (x_pickT rfl rfl rfl) (Lv (.bool true) (x_assign rfl rfl) (Ln (sN (Wr (⟨.bool true, rV Try.results43 (by exact rfl), ?_⟩))))))))))))))))));exact ⟨u_ (fun q => Ending.returned (Value.bool q)) (Eq.symm (grNo_y (fun h => by obtain ⟨a1, a2, a3, a4, a5, a6, a7⟩ := h; first | omega | exact a3 c24 | exact a7 c45 | (rw [nodeI_no hnlk1] at a4; omega)))), b1⟩
  refine Lv (.bool false) (Fx.x_lssF rfl rfl rfl c33) (Lv (.bool false) (x_pickF rfl rfl rfl) (Lv (.bool false) (x_move rfl rfl) (Lv (pf g1 3) (x_field rfl rfl Try.underlying59 rfl (s := 1) (by kernel_rfl) rfl (by show _ + 3 = _; omega)) (Lv (.int .i64 (g.a)) (x_load1 (x := grZ g) rfl rfl (by kernel_rfl) m1.cel (i := 3) (by omega) (by omega) rfl) ?_))));by_cases c38 : 1125899906842624 < g.a
  ·refine Lv (.bool true) (Fx.x_gtrT rfl rfl rfl c38) (Lv (.bool true) (x_pickF rfl rfl rfl) (Lv (.bool true) (x_move rfl rfl) (Lk (by rfl) rfl (Lk (by rfl) rfl (Lk (by rfl) rfl (Lk (by rfl) rfl (Lk (by rfl) rfl (Lv (.bool true) (x_pickT rfl rfl rfl) (Lv (.bool true) (x_assign rfl rfl) (Ln (sN (Wr (⟨.bool true, rV Try.results43 (by exact rfl), ?_⟩)))))))))))));exact ⟨u_ (fun q => Ending.returned (Value.bool q)) (Eq.symm (grNo_y (fun h => by obtain ⟨a1, a2, a3, a4, a5, a6, a7⟩ := h; first | omega | exact a3 c24 | exact a7 c45 | (rw [nodeI_no hnlk1] at a4; omega)))), b1⟩
  refine Lv (.bool false) (x_gtrF rfl rfl rfl c38) (Lv (.bool false) (x_pickF rfl rfl rfl) (Lv (.bool false) (x_move rfl rfl) (Lv (pf g1 4) (x_field rfl rfl Try.underlying59 rfl (s := 1) (by kernel_rfl) rfl (by show _ + 4 = _; omega)) (Lv (.int .u64 (g.b)) (x_load1 (x := grZ g) rfl rfl (by kernel_rfl) m1.cel (i := 4) (by omega) (by omega) rfl) (Lv (pf g1 1) (x_field rfl rfl Try.underlying59 rfl (s := 1) (by kernel_rfl) rfl (by show _ + 1 = _; omega)) (Lv (.int .u64 (g.r)) (x_load1 (x := grZ g) rfl rfl (by kernel_rfl) m1.cel (i := 1) (by omega) (by omega) rfl) ?_))))));by_cases c45 : g.b = g.r
  ·refine Lv (.bool true) (x_eqlT rfl rfl rfl c45) (Lv (.bool true) (x_pickF rfl rfl rfl) (Lv (.bool true) (x_assign rfl rfl) (Ln (sN (Wr (⟨.bool true, rV Try.results43 (by exact rfl), ?_⟩))))));exact ⟨u_ (fun q => Ending.returned (Value.bool q)) (Eq.symm (grNo_y (fun h => by obtain ⟨a1, a2, a3, a4, a5, a6, a7⟩ := h; first | omega | exact a3 c24 | exact a7 c45 | (rw [nodeI_no hnlk1] at a4; omega)))), b1⟩
  refine Lv (.bool false) (x_eqlF rfl rfl rfl c45) (Lv (.bool false) (x_pickF rfl rfl rfl) (Lv (.bool false) (x_assign rfl rfl) (Ln (sN (Wr (⟨.bool false, rV Try.results43 (by exact rfl), ?_⟩))))));exact ⟨u_ (fun q => Ending.returned (Value.bool q)) (Eq.symm (grNo_n ⟨by omega, by omega, c24, by rw [nodeI_at hr hjlk1 ejlk1]; omega, by omega, by omega, c45⟩)), b1⟩
 refine Lv (.tuple #[.int .u64 (0), .bool false]) (Fx.x_look2N (z := .int .u64 (0)) rfl rfl rfl m3 Try.underlying83 Try.underlying23 (by rfl) hnlk1) (Lv (.tuple #[.int .u64 (0), .bool false]) (x_move rfl rfl) (Lv (.int .u64 (0)) (Fx.x_extract rfl rfl rfl) (Lv (.bool false) (Fx.x_extract rfl rfl rfl) (Lv (.int .u64 (0)) (x_assign rfl rfl) (Lv (.bool false) (x_assign rfl rfl) (Ln (sN (Ws (Wl (Lv (pt g1) (x_field rfl rfl Try.underlying59 rfl (s := 1) (by kernel_rfl) rfl rfl) (Lv (.int .i64 (g.o)) (x_load1 (x := grZ g) rfl rfl (by kernel_rfl) m1.cel (i := 0) (by omega) (by omega) rfl) ?_)))))))))));by_cases c15 : g.o < 1
 ·refine Lv (.bool true) (Fx.x_lssT rfl rfl rfl c15) (Lv (.bool true) (x_move rfl rfl) (Lk (by rfl) rfl (Lk (by rfl) rfl (Lk (by rfl) rfl (Lv (.bool true) (x_pickT rfl rfl rfl) (Lv (.bool true) (x_move rfl rfl) (Lk (by rfl) rfl (Lk (by rfl) rfl (Lk (by rfl) rfl (Lv (.bool true) (x_pickT rfl rfl rfl) (Lv (.bool true) (x_move rfl rfl) (Lk (by rfl) rfl (Lk (by rfl) rfl (Lv (.bool true) (x_pickT rfl rfl rfl) (Lv (.bool true) (x_move rfl rfl) (Lk (by rfl) rfl (Lk (by rfl) rfl (Lk (by rfl) rfl (Lv (.bool true) (x_pickT rfl rfl rfl) (Lv (.bool true) (x_move rfl rfl) (Lk (by rfl) rfl (Lk (by rfl) rfl (Lk (by rfl) rfl (Lv (.bool true) (x_pickT rfl rfl rfl) ?_))))))))))))))))))))))));refine Lv (.bool true) (x_move rfl rfl) (Lk (by rfl) rfl (Lk (by rfl) rfl (Lk (by rfl) rfl (Lk (by rfl) rfl (Lk (by rfl) rfl (Lv (.bool true) (x_pickT rfl rfl rfl) (Lv (.bool true) (x_assign rfl rfl) (Ln (sN (Wr (⟨.bool true, rV Try.results43 (by exact rfl), ?_⟩)))))))))));exact ⟨u_ (fun q => Ending.returned (Value.bool q)) (Eq.symm (grNo_y (fun h => by obtain ⟨a1, a2, a3, a4, a5, a6, a7⟩ := h; first | omega | exact a3 c24 | exact a7 c45 | (rw [nodeI_no hnlk1] at a4; omega)))), b1⟩
 refine Lv (.bool false) (Fx.x_lssF rfl rfl rfl c15) (Lv (.bool false) (x_move rfl rfl) (Lv (pt g1) (x_field rfl rfl Try.underlying59 rfl (s := 1) (by kernel_rfl) rfl rfl) (Lv (.int .i64 (g.o)) (x_load1 (x := grZ g) rfl rfl (by kernel_rfl) m1.cel (i := 0) (by omega) (by omega) rfl) ?_)));by_cases c19 : 6 < g.o
 ·refine Lv (.bool true) (Fx.x_gtrT rfl rfl rfl c19) (Lv (.bool true) (x_pickF rfl rfl rfl) (Lv (.bool true) (x_move rfl rfl) (Lk (by rfl) rfl (Lk (by rfl) rfl (Lk (by rfl) rfl (Lv (.bool true) (x_pickT rfl rfl rfl) (Lv (.bool true) (x_move rfl rfl) (Lk (by rfl) rfl (Lk (by rfl) rfl (Lv (.bool true) (x_pickT rfl rfl rfl) (Lv (.bool true) (x_move rfl rfl) (Lk (by rfl) rfl (Lk (by rfl) rfl (Lk (by rfl) rfl (Lv (.bool true) (x_pickT rfl rfl rfl) (Lv (.bool true) (x_move rfl rfl) (Lk (by rfl) rfl (Lk (by rfl) rfl (Lk (by rfl) rfl (Lv (.bool true) (x_pickT rfl rfl rfl) (Lv (.bool true) (x_move rfl rfl) (Lk (by rfl) rfl (Lk (by rfl) rfl (Lk (by rfl) rfl ?_))))))))))))))))))))))));refine Lk (by rfl) rfl (Lk (by rfl) rfl (Lv (.bool true) (x_pickT rfl rfl rfl) (Lv (.bool true) (x_assign rfl rfl) (Ln (sN (Wr (⟨.bool true, rV Try.results43 (by exact rfl), ?_⟩)))))));exact ⟨u_ (fun q => Ending.returned (Value.bool q)) (Eq.symm (grNo_y (fun h => by obtain ⟨a1, a2, a3, a4, a5, a6, a7⟩ := h; first | omega | exact a3 c24 | exact a7 c45 | (rw [nodeI_no hnlk1] at a4; omega)))), b1⟩
 refine Lv (.bool false) (x_gtrF rfl rfl rfl c19) (Lv (.bool false) (x_pickF rfl rfl rfl) (Lv (.bool false) (x_move rfl rfl) (Lv (pf g1 1) (x_field rfl rfl Try.underlying59 rfl (s := 1) (by kernel_rfl) rfl (by show _ + 1 = _; omega)) (Lv (.int .u64 (g.r)) (x_load1 (x := grZ g) rfl rfl (by kernel_rfl) m1.cel (i := 1) (by omega) (by omega) rfl) ?_))));by_cases c24 : g.r = 0
 ·refine Lv (.bool true) (x_eqlT rfl rfl rfl c24) (Lv (.bool true) (x_pickF rfl rfl rfl) (Lv (.bool true) (x_move rfl rfl) (Lk (by rfl) rfl (Lk (by rfl) rfl (Lv (.bool true) (x_pickT rfl rfl rfl) (Lv (.bool true) (x_move rfl rfl) (Lk (by rfl) rfl (Lk (by rfl) rfl (Lk (by rfl) rfl (Lv (.bool true) (x_pickT rfl rfl rfl) (Lv (.bool true) (x_move rfl rfl) (Lk (by rfl) rfl (Lk (by rfl) rfl (Lk (by rfl) rfl (Lv (.bool true) (x_pickT rfl rfl rfl) (Lv (.bool true) (x_move rfl rfl) (Lk (by rfl) rfl (Lk (by rfl) rfl (Lk (by rfl) rfl (Lk (by rfl) rfl (Lk (by rfl) rfl (Lv (.bool true) (x_pickT rfl rfl rfl) (Lv (.bool true) (x_assign rfl rfl) (Ln (sN (Wr (⟨.bool true, rV Try.results43 (by exact rfl), ?_⟩)))))))))))))))))))))))))));exact ⟨u_ (fun q => Ending.returned (Value.bool q)) (Eq.symm (grNo_y (fun h => by obtain ⟨a1, a2, a3, a4, a5, a6, a7⟩ := h; first | omega | exact a3 c24 | exact a7 c45 | (rw [nodeI_no hnlk1] at a4; omega)))), b1⟩
 refine Lv (.bool false) (x_eqlF rfl rfl rfl c24) (Lv (.bool false) (x_pickF rfl rfl rfl) (Lv (.bool false) (x_move rfl rfl) (Lv (.bool false) (x_move rfl rfl) (Lv (.bool true) (Fx.x_notT rfl rfl) (Lv (.bool true) (x_pickF rfl rfl rfl) (Lv (.bool true) (x_move rfl rfl) (Lk (by rfl) rfl (Lk (by rfl) rfl (Lk (by rfl) rfl (Lv (.bool true) (x_pickT rfl rfl rfl) (Lv (.bool true) (x_move rfl rfl) (Lk (by rfl) rfl (Lk (by rfl) rfl (Lk (by rfl) rfl (Lv (.bool true) (x_pickT rfl rfl rfl) (Lv (.bool true) (x_move rfl rfl) (Lk (by rfl) rfl (Lk (by rfl) rfl (Lk (by rfl) rfl (Lk (by rfl) rfl (Lk (by rfl) rfl (Lv (.bool true) (x_pickT rfl rfl rfl) (Lv (.bool true) (x_assign rfl rfl) (Ln (sN (Wr (⟨.bool true, rV Try.results43 (by exact rfl), ?_⟩)))))))))))))))))))))))))));exact ⟨u_ (fun q => Ending.returned (Value.bool q)) (Eq.symm (grNo_y (fun h => by obtain ⟨a1, a2, a3, a4, a5, a6, a7⟩ := h; first | omega | exact a3 c24 | exact a7 c45 | (rw [nodeI_no hnlk1] at a4; omega)))), b1⟩
theorem s_ixg (mb gm : Nat) (l : List NdM) (gs : List GrM) (a : Option Addr) (c : Nat) (w : World) (hl : gs.length ≤ 1000000) (ha : Fx.Arr w a gs.length 5 (grsX gs)) (hr : RiseP l) (hg : Fx.Blk w gm 1 (fun _ => .map (some mb)) 83) (hm : Fx.Mp w mb l.length (fun q => (ndA l q).id) (fun q => Value.int .u64 (ndA l q).par)) :
    Calls Try.prog 71 #[.slice a (gs.length) (c), .func (.func 43) #[] #[(pt gm)]] w fun e w' => e = .returned (.int .i64 (firstI (fun q => grNo l (grA gs q)) gs.length)) ∧ Below w.heap.size w w' := by
 have lgm := hg.lt;have lmb := hm.lt;refine Fx.enter Try.func71 rfl (n := 19) rfl (by rfl) ?_;refine Ws (Wl (Lv (.int .i64 (0)) (x_assign rfl rfl) (Ln (sN (Ws (Ws (Wl (Lv (.slice a (gs.length) (c)) (x_move rfl rfl) (Lv (.int .i64 (gs.length : Int)) (x_len rfl rfl rfl (by kernel_rfl)) (Lv (.int .i64 (0)) (x_move rfl rfl) (Ln (sN (Fx.W.block (Fx.W.loop (fun f w_ => ∃ k : Nat, k ≤ gs.length ∧ (∀ p, p < k → (fun p => grNo l (grA gs p)) p = false) ∧ f 0 = .slice a (gs.length) (c) ∧ f 1 = .func (.func 43) #[] #[(pt gm)] ∧ f 7 = .int .i64 (gs.length : Int) ∧ f 8 = .int .i64 (k : Int) ∧ Fx.Blk w_ gm 1 (fun _ => .map (some mb)) 83 ∧ Fx.Mp w_ mb l.length (fun q => (ndA l q).id) (fun q => Value.int .u64 (ndA l q).par) ∧ Below w.heap.size w w_) (fun f _ => (gs.length - (intOf (f 8)).toNat)) ⟨0, t_ _, (fun p h => v_ h (by omega)), (by rfl), (by rfl), Fx.ic, Fx.ic, hg, hm, (Below.refl w.heap.size w)⟩ ?_))))))))))))));rintro f1 w1 ⟨k, hk, hall, h1, h2, h3, h4, m1, m2, b1⟩;refine Ws (Wl ?_);by_cases c9 : (k : Int) < (gs.length : Int)
 ·refine Lv (.bool true) (Fx.x_lssT rfl h4 h3 c9) (Ln (sN (Ws (Wc (b := true) rfl (fun _ => Wk (sN (Ws (Fx.W.block (Ws (Wl (Lv (.int .i64 (k : Int)) (x_move rfl h4) ?_))))))) (fun h => nomatch h)))));refine Lv (.int .i64 (k : Int)) (x_assign rfl rfl) (Ln (sN (Ws (Wl (Lv (.func (.func 43) #[] #[(pt gm)]) (x_move rfl h2) (Lv (.slice a (gs.length) (c)) (x_move rfl h1) (Lv (.int .i64 (k : Int)) (x_move rfl rfl) ?_)))))));obtain ⟨bq1, oq1, eq1, m3⟩ := (ha.up b1 rfl) (by omega);have lbq1 : bq1 < w1.heap.size := m3.lt (by omega);refine Lv (pf bq1 (5 * k + oq1)) (x_indexS rfl (rfl.trans (u_ (fun q => Value.slice q (gs.length) (c)) eq1)) rfl Try.underlying27 (s := 5) (by kernel_rfl) (by omega) (by omega) (by omega)) (Lv (.agg (Fx.varr 5 (grZ (grA gs k)))) (x_loadA (x := grsX gs) (y := grZ (grA gs k)) rfl rfl (by kernel_rfl) (by kernel_rfl) m3 (i := 5 * k) (by omega) (by omega) (fun jq hjq => Fx.flat_at (k := k) (by omega) hjq)) ?_);by_cases c16 : (grNo l (grA gs k)) = true
  ·refine Fx.L.call (by rfl) (Fx.r_clo (args := [.agg (Fx.varr 5 (grZ (grA gs k)))]) rfl rfl rfl (all := #[.agg (Fx.varr 5 (grZ (grA gs k))), (pt gm)]) rfl Try.func43 rfl rfl) rfl (((s_may1 mb gm l (grA gs k) _ hr m1 m2).mono (fun e w2 h2 => (⟨h2.1, h2.2⟩ : e = .returned (.bool (grNo l (grA gs k))) ∧ _))).mono ?_);rintro e w2 ⟨he, hb1⟩;refine ⟨.bool true, by rw [he, c16], ?_⟩;clear he;have s1 := Sb hb1;have b2 := s1.below b1 b1.size b1.size;refine Ln (sN (Wc (b := true) rfl (fun _ => Ws (Wl (Lv (.int .i64 (k : Int)) (x_move rfl rfl) ?_))) (fun h => nomatch h)));refine Lv (.int .i64 (k : Int)) (x_assign rfl rfl) (Ln (sN (Wr (Fx.blkR (sR (Fx.lpR (Fx.blkR (sR (⟨.int .i64 (k : Int), rV Try.results71 (by exact rfl), ?_⟩)))))))));exact ⟨u_ (fun q => Ending.returned (Value.int .i64 q)) (Eq.symm (firstI_hit hall c16 (by omega))), b2⟩
  rw [A_] at c16;refine Fx.L.call (by rfl) (Fx.r_clo (args := [.agg (Fx.varr 5 (grZ (grA gs k)))]) rfl rfl rfl (all := #[.agg (Fx.varr 5 (grZ (grA gs k))), (pt gm)]) rfl Try.func43 rfl rfl) rfl (((s_may1 mb gm l (grA gs k) _ hr m1 m2).mono (fun e w2 h2 => (⟨h2.1, h2.2⟩ : e = .returned (.bool (grNo l (grA gs k))) ∧ _))).mono ?_);rintro e w3 ⟨he, hb2⟩;refine ⟨.bool false, by rw [he, c16], ?_⟩;clear he;have s2 := Sb hb2;have m7 := m1.stp s2 m1.ne;have m8 := m2.up s2.old;have b3 := s2.below b1 b1.size b1.size;refine Ln (sN (Wc (b := false) rfl (fun h => nomatch h) (fun _ => Wk (Fx.blkN (sN (Wl (Lv (.int .i64 ((k : Int) + 1)) (Fx.x_add rfl h4 rfl Fx.io) (Lv (.int .i64 ((k : Int) + 1)) (x_move rfl rfl) (Ln (Fx.lpN ⟨k + 1, by omega, (all_step hall (by simpa using c16)), h1, h2, (h3.trans Fx.ic), Fx.ic, m7, m8, b3⟩ ?_))))))))));show (gs.length - (intOf (.int .i64 ((k : Int) + 1))).toNat) < _;simp only [h4, intOf]; omega
 refine Lv (.bool false) (Fx.x_lssF rfl h4 h3 c9) (Ln (sN (Ws (Wc (b := false) rfl (fun h => nomatch h) (fun _ => Fx.W.exit (Fx.seqX (Fx.lpX (Fx.blkX (sN (Ws (Wl (Lv (.int .i64 (-1)) (x_assign rfl rfl) (Ln (sN (Wr (⟨.int .i64 (-1), rV Try.results71 (by exact rfl), ?_⟩))))))))))))))));exact ⟨u_ (fun q => Ending.returned (Value.int .i64 q)) (Eq.symm (firstI_none (fun p hp => hall p (by omega)))), b1⟩
theorem s_ctg (mb gm : Nat) (l : List NdM) (gs : List GrM) (a : Option Addr) (c : Nat) (w : World) (hl : gs.length ≤ 1000000) (ha : Fx.Arr w a gs.length 5 (grsX gs)) (hr : RiseP l) (hg : Fx.Blk w gm 1 (fun _ => .map (some mb)) 83) (hm : Fx.Mp w mb l.length (fun q => (ndA l q).id) (fun q => Value.int .u64 (ndA l q).par)) :
    Calls Try.prog 42 #[.slice a (gs.length) (c), .func (.func 43) #[] #[(pt gm)]] w fun e w' => e = .returned (.bool (hasNoB l gs)) ∧ Below w.heap.size w w' := by
 have lgm := hg.lt;have lmb := hm.lt;refine Fx.enter Try.func42 rfl (n := 9) rfl (by rfl) ?_;refine Ws (Wl (Lv (.bool false) (x_assign rfl rfl) (Ln (sN (Ws (Wl (Lv (.slice a (gs.length) (c)) (x_move rfl rfl) (Lv (.func (.func 43) #[] #[(pt gm)]) (x_move rfl rfl) (Fx.L.call (by rfl) (rC (args := [.slice a (gs.length) (c), .func (.func 43) #[] #[(pt gm)]]) rfl rfl Try.func71 rfl rfl) rfl ((s_ixg mb gm l gs a c _ hl (ha.up (Below.refl w.heap.size w) rfl) hr hg hm).mono ?_))))))))));rintro e w1 ⟨he, hb1⟩;refine ⟨.int .i64 (firstI (fun q => grNo l (grA gs q)) gs.length), by rw [he], ?_⟩;clear he;have s1 := Sb hb1;have b1 := s1.below (Below.refl w.heap.size w) (Below.refl w.heap.size w).size (Below.refl w.heap.size w).size;by_cases c8 : 0 ≤ (firstI (fun q => grNo l (grA gs q)) gs.length)
 ·refine Lv (.bool true) (Fx.x_geqT rfl rfl rfl c8) (Lv (.bool true) (x_assign rfl rfl) (Ln (sN (Wr (⟨.bool true, rV Try.results42 (by exact rfl), ?_⟩)))));exact ⟨u_ (fun q => Ending.returned (Value.bool q)) (Eq.symm (hasNo_y c8)), b1⟩
 refine Lv (.bool false) (Fx.x_geqF rfl rfl rfl c8) (Lv (.bool false) (x_assign rfl rfl) (Ln (sN (Wr (⟨.bool false, rV Try.results42 (by exact rfl), ?_⟩)))));exact ⟨u_ (fun q => Ending.returned (Value.bool q)) (Eq.symm (hasNo_n c8)), b1⟩
set_option maxRecDepth 20000 in
theorem s_may (m : SnM) (na : Option Addr) (nc : Nat) (ga : Option Addr) (gc : Nat) (w : World) (hK : Kr m.known) (hl1 : m.ns.length ≤ 1000000) (hl2 : m.gs.length ≤ 1000000) (hn : Fx.Arr w na m.ns.length 56 (ndsX m.ns)) (hg : Fx.Arr w ga m.gs.length 5 (grsX m.gs)) :
    Calls Try.prog 12 #[.agg (Fx.varr 20 (stY (stS m na nc ga gc)))] w fun e w' => e = .returned (.bool (mayS m)) ∧ Below w.heap.size w w' := by
 refine Fx.enter Try.func12 rfl (n := 82) rfl (by rfl) ?_;refine Ws (Wl (Fx.L.box (m := 20) (y := stY (stS m na nc ga gc)) (by rfl) rfl rfl (Fx.cells_agg _ _) rfl fun g1 w1 eg1 m1 s1 z1 => ?_));have b1 := s1.below (Below.refl w.heap.size w) (Below.refl w.heap.size w).size (Below.refl w.heap.size w).size;have lg1 : w.heap.size ≤ g1 := by rw [eg1]; exact (Below.refl w.heap.size w).size
 have tg1 : g1 < w1.heap.size := m1.lt;clear eg1;refine Lv (.bool false) (x_assign rfl rfl) (Ln (sN (Ws (Ws (Wl (Lv (pf g1 12) (x_field rfl rfl Try.underlying29 rfl (s := 6) (by kernel_rfl) rfl (by show _ + 12 = _; omega)) (Lv (.agg (Fx.varr 6 (Fx.rv .u64 m.known))) (x_loadA (x := stY (stS m na nc ga gc)) (y := Fx.rv .u64 m.known) rfl rfl (by kernel_rfl) (by kernel_rfl) m1.cel (i := 12) (by omega) (by omega) (fun j hj => stY_known (p := j) _ hj (by omega))) ?_)))))));by_cases c10 : (mayV6 m.known) = true
 ·refine Fx.L.call (by rfl) (rC (args := [.agg (Fx.varr 6 (Fx.rv .u64 m.known))]) rfl rfl Try.func36 rfl rfl) rfl ((v_mayv m.known _ hK).mono ?_);rintro e w2 ⟨he, hb1⟩;refine ⟨.bool true, by rw [he, c10], ?_⟩;clear he;have s2 := Sb hb1;have m2 := m1.stp s2 m1.ne;have b2 := s2.below b1 b1.size b1.size;refine Lv (.bool false) (Fx.x_notF rfl rfl) (Lv (.bool false) (x_move rfl rfl) (Lv (pf g1 18) (x_field rfl rfl Try.underlying29 rfl (s := 1) (by kernel_rfl) rfl (by show _ + 18 = _; omega)) (Lv (.slice na (m.ns.length) (nc)) (x_load1 (x := stY (stS m na nc ga gc)) rfl rfl (by kernel_rfl) m2.cel (i := 18) (by omega) (by omega) rfl) (Lv (.int .i64 (m.ns.length : Int)) (x_len rfl rfl rfl (by kernel_rfl)) ?_))));by_cases c16 : 32 < (m.ns.length : Int)
  ·refine Lv (.bool true) (Fx.x_gtrT rfl rfl rfl c16) (Lv (.bool true) (x_pickF rfl rfl rfl) (Lv (.bool true) (x_move rfl rfl) (Lk (by rfl) rfl (Lk (by rfl) rfl (Lk (by rfl) rfl (Lk (by rfl) rfl (Lv (.bool true) (x_pickT rfl rfl rfl) (Lv (.bool true) (x_move rfl rfl) (Lk (by rfl) rfl (Lk (by rfl) rfl (Lk (by rfl) rfl (Lk (by rfl) rfl (Lv (.bool true) (x_pickT rfl rfl rfl) (Lv (.bool true) (x_move rfl rfl) (Lk (by rfl) rfl (Lk (by rfl) rfl (Lk (by rfl) rfl (Lk (by rfl) rfl (Lv (.bool true) (x_pickT rfl rfl rfl) (Ln (sN (Wc (b := true) rfl (fun _ => Ws (Wl (Lv (.bool false) (x_assign rfl rfl) ?_))) (fun h => nomatch h)))))))))))))))))))))));refine Ln (sN (Wr (sR (⟨.bool false, rV Try.results12 (by exact rfl), ?_⟩))));exact ⟨u_ (fun q => Ending.returned (Value.bool q)) (Eq.symm (mayS_n (fun h => by have := h.nn; omega))), b2⟩
  refine Lv (.bool false) (x_gtrF rfl rfl rfl c16) (Lv (.bool false) (x_pickF rfl rfl rfl) (Lv (.bool false) (x_move rfl rfl) (Lv (pf g1 19) (x_field rfl rfl Try.underlying29 rfl (s := 1) (by kernel_rfl) rfl (by show _ + 19 = _; omega)) (Lv (.slice ga (m.gs.length) (gc)) (x_load1 (x := stY (stS m na nc ga gc)) rfl rfl (by kernel_rfl) m2.cel (i := 19) (by omega) (by omega) rfl) (Lv (.int .i64 (m.gs.length : Int)) (x_len rfl rfl rfl (by kernel_rfl)) ?_)))));by_cases c22 : 4096 < (m.gs.length : Int)
  ·refine Lv (.bool true) (Fx.x_gtrT rfl rfl rfl c22) (Lv (.bool true) (x_pickF rfl rfl rfl) (Lv (.bool true) (x_move rfl rfl) (Lk (by rfl) rfl (Lk (by rfl) rfl (Lk (by rfl) rfl (Lk (by rfl) rfl (Lv (.bool true) (x_pickT rfl rfl rfl) (Lv (.bool true) (x_move rfl rfl) (Lk (by rfl) rfl (Lk (by rfl) rfl (Lk (by rfl) rfl (Lk (by rfl) rfl (Lv (.bool true) (x_pickT rfl rfl rfl) (Ln (sN (Wc (b := true) rfl (fun _ => Ws (Wl (Lv (.bool false) (x_assign rfl rfl) ?_))) (fun h => nomatch h)))))))))))))))));refine Ln (sN (Wr (sR (⟨.bool false, rV Try.results12 (by exact rfl), ?_⟩))));exact ⟨u_ (fun q => Ending.returned (Value.bool q)) (Eq.symm (mayS_n (fun h => by have := h.gn; omega))), b2⟩
  refine Lv (.bool false) (x_gtrF rfl rfl rfl c22) (Lv (.bool false) (x_pickF rfl rfl rfl) (Lv (.bool false) (x_move rfl rfl) (Lv (pf g1 18) (x_field rfl rfl Try.underlying29 rfl (s := 1) (by kernel_rfl) rfl (by show _ + 18 = _; omega)) (Lv (.slice na (m.ns.length) (nc)) (x_load1 (x := stY (stS m na nc ga gc)) rfl rfl (by kernel_rfl) m2.cel (i := 18) (by omega) (by omega) rfl) ?_))));by_cases c27 : (riseN m.ns) = true
  ·refine Fx.L.call (by rfl) (rC (args := [.slice na (m.ns.length) (nc), .func (.func 22) #[] #[]]) rfl rfl Try.func37 rfl rfl) rfl ((s_riseN na nc m.ns _ hl1 (hn.up b2 rfl)).mono ?_);rintro e w3 ⟨he, hb2⟩;refine ⟨.bool true, by rw [he, c27], ?_⟩;clear he;have s3 := Sb hb2;have m3 := m2.stp s3 m2.ne;have b3 := s3.below b2 b2.size b2.size;refine Lv (.bool false) (Fx.x_notF rfl rfl) (Lv (.bool false) (x_pickF rfl rfl rfl) (Lv (.bool false) (x_move rfl rfl) (Lv (pf g1 19) (x_field rfl rfl Try.underlying29 rfl (s := 1) (by kernel_rfl) rfl (by show _ + 19 = _; omega)) (Lv (.slice ga (m.gs.length) (gc)) (x_load1 (x := stY (stS m na nc ga gc)) rfl rfl (by kernel_rfl) m3.cel (i := 19) (by omega) (by omega) rfl) ?_))));by_cases c33 : (riseG m.gs) = true
   ·refine Fx.L.call (by rfl) (rC (args := [.slice ga (m.gs.length) (gc), .func (.func 25) #[] #[]]) rfl rfl Try.func38 rfl rfl) rfl ((s_riseG ga gc m.gs _ hl2 (hg.up b3 rfl)).mono ?_);rintro e w4 ⟨he, hb3⟩;refine ⟨.bool true, by rw [he, c33], ?_⟩;clear he;have s4 := Sb hb3;have m4 := m3.stp s4 m3.ne;have b4 := s4.below b3 b3.size b3.size;refine Lv (.bool false) (Fx.x_notF rfl rfl) (Lv (.bool false) (x_pickF rfl rfl rfl) (Ln (sN (Wc (b := false) rfl (fun h => nomatch h) (fun _ => Wk (sN (Ws (Ws ?_))))))));have hrp := riseN_p c27;refine Wl (Lv (pf g1 6) (x_field rfl rfl Try.underlying29 rfl (s := 6) (by kernel_rfl) rfl (by show _ + 6 = _; omega)) (Lv (.agg (Fx.varr 6 (fun j => .bool (m.left j)))) (x_loadA (x := stY (stS m na nc ga gc)) (y := fun j => .bool (m.left j)) rfl rfl (by kernel_rfl) (by kernel_rfl) m4.cel (i := 6) (by omega) (by omega) (fun j hj => stY_left (p := j) _ hj (by omega))) (Lv (.int .i64 (0)) (x_move rfl rfl) (Ln (sN (Fx.W.block (Fx.W.loop (fun f w_ => ∃ i : Nat, i ≤ 6 ∧ (∀ q, q < i → m.left q = true → m.inn q = true) ∧ f 1 = (pt g1) ∧ f 37 = .agg (Fx.varr 6 (fun j => .bool (m.left j))) ∧ f 38 = .int .i64 (i : Int) ∧ Fx.Blk w_ g1 20 (stY (stS m na nc ga gc)) 29 ∧ Below w.heap.size w w_) (fun f _ => (6 - (intOf (f 38)).toNat)) ⟨0, by omega, (fun q h => v_ h (by omega)), (by rfl), (by rfl), Fx.ic, m4, b4⟩ ?_)))))));rintro f1 w5 ⟨i, hi, hli, h1, h2, h3, m5, b5⟩;refine Ws (Wl ?_);by_cases c39 : (i : Int) < 6
    ·refine Lv (.bool true) (Fx.x_lssT rfl h3 rfl c39) (Ln (sN (Ws (Wc (b := true) rfl (fun _ => Wk (sN (Ws (Fx.W.block (Ws (Wl (Lv (.int .i64 (i : Int)) (x_move rfl h3) ?_))))))) (fun h => nomatch h)))));by_cases c41 : (m.left i) = true
     ·refine Lv (.bool true) (Fx.x_indexV (j := i) (y := fun j => .bool (m.left j)) rfl h2 h3 Try.underlying22 (by kernel_rfl) (by kernel_rfl) (by omega) ((show _ = Value.bool (m.left i) from rfl).trans (u_ Value.bool c41))) (Lv (.int .i64 (i : Int)) (x_assign rfl rfl) (Lv (.bool true) (x_assign rfl rfl) (Ln (sN (Ws (Wl (Lv (.bool true) (x_move rfl rfl) (Lv (.bool true) (x_move rfl rfl) (Lv (.int .i64 (i : Int)) (x_move rfl rfl) (Lv (pt g1) (x_field rfl h1 Try.underlying29 rfl (s := 6) (by kernel_rfl) rfl rfl) (Lv (pf g1 i) (x_index rfl rfl rfl Try.underlying22 (s := 1) (by kernel_rfl) (by omega) (by omega) (by omega)) ?_)))))))))));by_cases c47 : (m.inn i) = true
      ·refine Lv (.bool true) (x_load1 (x := stY (stS m na nc ga gc)) rfl rfl (by kernel_rfl) m5.cel (i := i) (by omega) (by omega) ((stY_in _ (by omega)).trans (u_ Value.bool c47))) (Lv (.bool false) (Fx.x_notF rfl rfl) (Lv (.bool false) (x_pickT rfl rfl rfl) (Ln (sN (Wc (b := false) rfl (fun h => nomatch h) (fun _ => Wk (Fx.blkN (sN (Wl (Lv (.int .i64 ((i : Int) + 1)) (Fx.x_add rfl h3 rfl Fx.io) (Lv (.int .i64 ((i : Int) + 1)) (x_move rfl rfl) (Ln (Fx.lpN ⟨i + 1, by omega, (all_step hli (fun _ => c47)), h1, h2, Fx.ic, m5, b5⟩ ?_)))))))))))));show (6 - (intOf (.int .i64 ((i : Int) + 1))).toNat) < _;simp only [h3, intOf]; omega
      rw [A_] at c47;refine Lv (.bool false) (x_load1 (x := stY (stS m na nc ga gc)) rfl rfl (by kernel_rfl) m5.cel (i := i) (by omega) (by omega) ((stY_in _ (by omega)).trans (u_ Value.bool c47))) (Lv (.bool true) (Fx.x_notT rfl rfl) (Lv (.bool true) (x_pickT rfl rfl rfl) (Ln (sN (Wc (b := true) rfl (fun _ => Ws (Wl (Lv (.bool false) (x_assign rfl rfl) ?_))) (fun h => nomatch h))))));refine Ln (sN (Wr (Fx.blkR (sR (Fx.lpR (Fx.blkR (sR (⟨.bool false, rV Try.results12 (by exact rfl), ?_⟩))))))));exact ⟨u_ (fun q => Ending.returned (Value.bool q)) (Eq.symm (mayS_n (fun h => by have := h.li i (by omega) c41; rw [c47] at this; cases this))), b5⟩
     rw [A_] at c41;refine Lv (.bool false) (Fx.x_indexV (j := i) (y := fun j => .bool (m.left j)) rfl h2 h3 Try.underlying22 (by kernel_rfl) (by kernel_rfl) (by omega) ((show _ = Value.bool (m.left i) from rfl).trans (u_ Value.bool c41))) (Lv (.int .i64 (i : Int)) (x_assign rfl rfl) (Lv (.bool false) (x_assign rfl rfl) (Ln (sN (Ws (Wl (Lv (.bool false) (x_move rfl rfl) (Lv (.bool false) (x_move rfl rfl) (Lk (by rfl) rfl (Lk (by rfl) rfl (Lk (by rfl) rfl (Lk (by rfl) rfl (Lk (by rfl) rfl (Lv (.bool false) (x_pickF rfl rfl rfl) (Ln (sN (Wc (b := false) rfl (fun h => nomatch h) (fun _ => Wk (Fx.blkN (sN (Wl (Lv (.int .i64 ((i : Int) + 1)) (Fx.x_add rfl h3 rfl Fx.io) (Lv (.int .i64 ((i : Int) + 1)) (x_move rfl rfl) (Ln (Fx.lpN ⟨i + 1, by omega, (all_step hli (fun h => by rw [c41] at h; cases h)), h1, h2, Fx.ic, m5, b5⟩ ?_)))))))))))))))))))))))))
     show (6 - (intOf (.int .i64 ((i : Int) + 1))).toNat) < _;simp only [h3, intOf]; omega
    refine Lv (.bool false) (Fx.x_lssF rfl h3 rfl c39) (Ln (sN (Ws (Wc (b := false) rfl (fun h => nomatch h) (fun _ => Fx.W.exit (Fx.seqX (Fx.lpX (Fx.blkX (sN (Ws (Wl (Lv (.agg (Fx.varr 20 (stY (stS m na nc ga gc)))) (x_loadA (x := stY (stS m na nc ga gc)) (y := stY (stS m na nc ga gc)) rfl h1 (by kernel_rfl) (by kernel_rfl) m5.cel (i := 0) (by omega) (by omega) (fun j _ => by rw [r_])) (Fx.L.call (by rfl) (rC (args := [.agg (Fx.varr 20 (stY (stS m na nc ga gc)))]) rfl rfl Try.func39 rfl rfl) rfl ((s_parents m na nc ga gc _ hl1 hrp (hn.up b5 rfl)).mono ?_))))))))))))));rintro e9 w6 ⟨mb, he, hmp1, hmb9, hb4⟩;refine ⟨_, he, ?_⟩;clear he;have s5 := Sb hb4;have lmb9 : w.heap.size ≤ mb := g_ b5.size hmb9;have nmbm5 : g1 ≠ mb := l_ (h_ m5.lt hmb9);have m6 := m5.stp s5 m5.ne;have b6 := s5.below b5 b5.size b5.size;refine Fx.L.new (m := 1) (y := fun _ => .map none) (by rfl) rfl (by kernel_rfl) rfl fun g2 w7 eg2 m7 s6 z2 => ?_;have m8 := m6.stp s6 m6.ne;have m9 := hmp1.up s6.old;have b7 := s6.below b6 b6.size b6.size;have lg2 : w.heap.size ≤ g2 := (by rw [eg2]; exact b6.size);have ng2m8 : g1 ≠ g2 := (by rw [eg2]; exact l_ (m6.lt));have ng2m9 : mb ≠ g2 := (by rw [eg2]; exact l_ (hmp1.lt));have tg2 : g2 < w7.heap.size := m7.lt;clear eg2;refine Fx.L.store1 (x := fun _ => .map none) (u := .map (some mb)) (by rfl) rfl rfl rfl rfl (by rfl) (by kernel_rfl) m7 (i := 0) (by omega) fun w8 m10 s7 z3 => ?_;have m11 : Fx.Blk w8 g2 1 (fun _ => .map (some mb)) 83 := Fx.upd_all m10;have hct1 := Fx.ChT.of_stp s7 m7.ty;have m12 := m8.chT hct1 (by decide);have m13 := m9.chT hct1 trivial;have b8 := s7.below b7 b7.size (by omega);refine Ln (sN (Ws (Ws (Wl (Lv (pf g1 18) (x_field rfl h1 Try.underlying29 rfl (s := 1) (by kernel_rfl) rfl (by show _ + 18 = _; omega)) (Lv (.slice na (m.ns.length) (nc)) (x_load1 (x := stY (stS m na nc ga gc)) rfl rfl (by kernel_rfl) m12.cel (i := 18) (by omega) (by omega) rfl) (Lv (.int .i64 (m.ns.length : Int)) (x_len rfl rfl rfl (by kernel_rfl)) (Lv (.int .i64 (0)) (x_move rfl rfl) (Ln (sN (Fx.W.block (Fx.W.loop (fun f w_ => ∃ i : Nat, i ≤ m.ns.length ∧ (∀ q, q < i → NdOk m.ns q) ∧ f 1 = (pt g1) ∧ f 5 = (pt g2) ∧ f 54 = .slice na (m.ns.length) (nc) ∧ f 55 = .int .i64 (m.ns.length : Int) ∧ f 56 = .int .i64 (i : Int) ∧ Fx.Blk w_ g1 20 (stY (stS m na nc ga gc)) 29 ∧ Fx.Mp w_ mb m.ns.length (fun q => (ndA m.ns q).id) (fun q => Value.int .u64 (ndA m.ns q).par) ∧ Fx.Blk w_ g2 1 (fun _ => .map (some mb)) 83 ∧ Below w.heap.size w w_) (fun f _ => (m.ns.length - (intOf (f 56)).toNat)) ⟨0, t_ _, (fun q h => v_ h (by omega)), h1, (by rfl), (by rfl), Fx.ic, Fx.ic, m12, m13, m11, b8⟩ ?_))))))))))));rintro f2 w9 ⟨i, hi, hnd, h4, h5, h6, h7, h8, m14, m15, m16, b9⟩;refine Ws (Wl ?_);by_cases c57 : (i : Int) < (m.ns.length : Int)
    ·refine Lv (.bool true) (Fx.x_lssT rfl h8 h7 c57) (Ln (sN (Ws (Wc (b := true) rfl (fun _ => Wk (sN (Ws (Fx.W.block (Ws (Wl ?_)))))) (fun h => nomatch h)))));obtain ⟨bq1, oq1, eq1, m17⟩ := (hn.up b9 rfl) (by omega);have lbq1 : bq1 < w9.heap.size := m17.lt (by omega);refine Lv (pf bq1 (56 * i + oq1)) (x_indexS rfl (h6.trans (u_ (fun q => Value.slice q (m.ns.length) (nc)) eq1)) h8 Try.underlying26 (s := 56) (by kernel_rfl) (by omega) (by omega) (by omega)) (Lv (.agg (Fx.varr 56 (ndZ (ndA m.ns i)))) (x_loadA (x := ndsX m.ns) (y := ndZ (ndA m.ns i)) rfl rfl (by kernel_rfl) (by kernel_rfl) m17 (i := 56 * i) (by omega) (by omega) (fun jq hjq => Fx.flat_at (k := i) (by omega) hjq)) (Fx.L.new (m := 56) (y := fun i => (#[.int .u64 (0), .int .u64 (0), .int .i64 (0), .int .i64 (0), .int .i64 (0), .int .i64 (0), .int .i64 (0), .int .i64 (0), .int .i64 (0), .int .i64 (0), .int .i64 (0), .int .i64 (0), .int .i64 (0), .int .i64 (0), .int .i64 (0), .int .i64 (0), .int .i64 (0), .int .i64 (0), .int .i64 (0), .int .i64 (0), .int .i64 (0), .int .i64 (0), .int .i64 (0), .int .i64 (0), .int .i64 (0), .int .i64 (0), .int .i64 (0), .int .i64 (0), .int .i64 (0), .int .i64 (0), .int .i64 (0), .int .i64 (0), .int .i64 (0), .int .i64 (0), .int .i64 (0), .int .i64 (0), .int .i64 (0), .int .i64 (0), .int .i64 (0), .int .i64 (0), .int .i64 (0), .int .i64 (0), .int .i64 (0), .int .i64 (0), .int .i64 (0), .int .i64 (0), .int .i64 (0), .int .i64 (0), .int .i64 (0), .int .i64 (0), .int .i64 (0), .int .i64 (0), .int .i64 (0), .int .i64 (0), .int .i64 (0), .int .i64 (0)] : Array Value).getD i undef) (by rfl) rfl (by kernel_rfl) rfl fun g3 w10 eg3 m18 s8 z4 => ?_));have m19 := m14.stp s8 m14.ne;have m20 := m15.up s8.old;have m21 := m16.stp s8 m16.ne;have m22 := m17.stp s8 (l_ (m17.lt (by omega)));have b10 := s8.below b9 b9.size b9.size;have lg3 : w.heap.size ≤ g3 := (by rw [eg3]; exact b9.size);have ng3m19 : g1 ≠ g3 := (by rw [eg3]; exact l_ (m14.lt));have ng3m20 : mb ≠ g3 := (by rw [eg3]; exact l_ (m15.lt));have ng3m21 : g2 ≠ g3 := (by rw [eg3]; exact l_ (m16.lt));have ng3m22 : bq1 ≠ g3 := (by rw [eg3]; exact l_ (m17.lt (by omega)));have tg3 : g3 < w10.heap.size := m18.lt;clear eg3;refine Fx.L.storeA (x := fun i => (#[.int .u64 (0), .int .u64 (0), .int .i64 (0), .int .i64 (0), .int .i64 (0), .int .i64 (0), .int .i64 (0), .int .i64 (0), .int .i64 (0), .int .i64 (0), .int .i64 (0), .int .i64 (0), .int .i64 (0), .int .i64 (0), .int .i64 (0), .int .i64 (0), .int .i64 (0), .int .i64 (0), .int .i64 (0), .int .i64 (0), .int .i64 (0), .int .i64 (0), .int .i64 (0), .int .i64 (0), .int .i64 (0), .int .i64 (0), .int .i64 (0), .int .i64 (0), .int .i64 (0), .int .i64 (0), .int .i64 (0), .int .i64 (0), .int .i64 (0), .int .i64 (0), .int .i64 (0), .int .i64 (0), .int .i64 (0), .int .i64 (0), .int .i64 (0), .int .i64 (0), .int .i64 (0), .int .i64 (0), .int .i64 (0), .int .i64 (0), .int .i64 (0), .int .i64 (0), .int .i64 (0), .int .i64 (0), .int .i64 (0), .int .i64 (0), .int .i64 (0), .int .i64 (0), .int .i64 (0), .int .i64 (0), .int .i64 (0), .int .i64 (0)] : Array Value).getD i undef) (y := ndZ (ndA m.ns i)) (by rfl) rfl rfl rfl rfl (fun j _ => ndZ_one _ j) (by kernel_rfl) m18 (i := 0) (by omega) fun w11 m23 s9 z5 => ?_;have m24 : Fx.Blk w11 g3 56 (ndZ (ndA m.ns i)) 50 := Fx.ovr_all m23;have hct2 := Fx.ChT.of_stp s9 m18.ty;have m25 := m19.chT hct2 (by decide);have m26 := m20.chT hct2 trivial;have m27 := m21.chT hct2 (by decide);have m28 := m22.stp s9 (by omega);have b11 := s9.below b10 b10.size (by omega);refine Ln (sN (Ws (Wl (Lv (pt g3) (x_field rfl rfl Try.underlying50 rfl (s := 1) (by kernel_rfl) rfl rfl) (Lv (.int .u64 ((ndA m.ns i).id)) (x_load1 (x := ndZ (ndA m.ns i)) rfl rfl (by kernel_rfl) m24.cel (i := 0) (by omega) (by omega) rfl) ?_)))));by_cases c62 : ((ndA m.ns i).id) = 0
     ·refine Lv (.bool true) (x_eqlT rfl rfl rfl c62) (Lv (.bool true) (x_move rfl rfl) (Lk (by rfl) rfl (Lk (by rfl) rfl (Lk (by rfl) rfl (Lk (by rfl) rfl (Lv (.bool true) (x_pickT rfl rfl rfl) (Lv (.bool true) (x_move rfl rfl) (Lk (by rfl) rfl (Lk (by rfl) rfl (Lk (by rfl) rfl (Lk (by rfl) rfl (Lk (by rfl) rfl (Lv (.bool true) (x_pickT rfl rfl rfl) (Ln (sN (Wc (b := true) rfl (fun _ => Ws (Wl (Lv (.bool false) (x_assign rfl rfl) ?_))) (fun h => nomatch h)))))))))))))))));refine Ln (sN (Wr (Fx.blkR (sR (Fx.lpR (Fx.blkR (sR (⟨.bool false, rV Try.results12 (by exact rfl), ?_⟩))))))));exact ⟨u_ (fun q => Ending.returned (Value.bool q)) (Eq.symm (mayS_n (fun h => (h.nd i (by omega)).1 c62))), b11⟩
     refine Lv (.bool false) (x_eqlF rfl rfl rfl c62) (Lv (.bool false) (x_move rfl rfl) (Lv (pf g3 2) (x_field rfl rfl Try.underlying50 rfl (s := 54) (by kernel_rfl) rfl (by show _ + 2 = _; omega)) (Lv (.agg (Fx.varr 54 (Fx.rv .i64 ((ndA m.ns i).R)))) (x_loadA (x := ndZ (ndA m.ns i)) (y := Fx.rv .i64 ((ndA m.ns i).R)) rfl rfl (by kernel_rfl) (by kernel_rfl) m24.cel (i := 2) (by omega) (by omega) (fun q _ => ndY_row _ _ _ q)) ?_)));by_cases c66 : (may (ndA m.ns i).R) = true
     ·refine Fx.L.call (by rfl) (rC (args := [.agg (Fx.varr 54 (Fx.rv .i64 ((ndA m.ns i).R)))]) rfl rfl Try.func40 rfl rfl) rfl ((may_any (ndA m.ns i).R _).mono ?_);rintro e w12 ⟨he, hb5⟩;refine ⟨.bool true, by rw [he, c66], ?_⟩;clear he;have s10 := Sb hb5;have m29 := m25.stp s10 m25.ne;have m30 := m26.up s10.old;have m31 := m27.stp s10 m27.ne;have m33 := m24.stp s10 m24.ne;have b12 := s10.below b11 b11.size b11.size;refine Lv (.bool false) (Fx.x_notF rfl rfl) (Lv (.bool false) (x_pickF rfl rfl rfl) (Lv (.bool false) (x_move rfl rfl) (Lv (.map (some mb)) (x_load1 (x := fun _ => .map (some mb)) rfl h5 (by kernel_rfl) m31.cel (i := 0) (by omega) (by omega) rfl) (Lv (pt g3) (x_field rfl rfl Try.underlying50 rfl (s := 1) (by kernel_rfl) rfl rfl) (Lv (.int .u64 ((ndA m.ns i).id)) (x_load1 (x := ndZ (ndA m.ns i)) rfl rfl (by kernel_rfl) m33.cel (i := 0) (by omega) (by omega) rfl) ?_)))));by_cases c73 : (endsN m.ns 33 (ndA m.ns i).id) = true
      ·refine Fx.L.call (by rfl) (rC (args := [.map (some mb), .int .u64 ((ndA m.ns i).id)]) rfl rfl Try.func41 rfl rfl) rfl ((s_ends mb m.ns (ndA m.ns i).id _ hrp m30).mono ?_);rintro e w13 ⟨he, hb6⟩;refine ⟨.bool true, by rw [he, c73], ?_⟩;clear he;have s11 := Sb hb6;have m34 := m29.stp s11 m29.ne;have m35 := m30.up s11.old;have m36 := m31.stp s11 m31.ne;have b13 := s11.below b12 b12.size b12.size;refine Lv (.bool false) (Fx.x_notF rfl rfl) (Lv (.bool false) (x_pickF rfl rfl rfl) (Ln (sN (Wc (b := false) rfl (fun h => nomatch h) (fun _ => Wk (Fx.blkN (sN (Wl (Lv (.int .i64 ((i : Int) + 1)) (Fx.x_add rfl h8 rfl Fx.io) (Lv (.int .i64 ((i : Int) + 1)) (x_move rfl rfl) (Ln (Fx.lpN ⟨i + 1, by omega, (all_step hnd ⟨c62, c66, c73⟩), h4, h5, h6, (h7.trans Fx.ic), Fx.ic, m34, m35, m36, b13⟩ ?_))))))))))));show (m.ns.length - (intOf (.int .i64 ((i : Int) + 1))).toNat) < _;simp only [h8, intOf]; omega
      rw [A_] at c73;refine Fx.L.call (by rfl) (rC (args := [.map (some mb), .int .u64 ((ndA m.ns i).id)]) rfl rfl Try.func41 rfl rfl) rfl ((s_ends mb m.ns (ndA m.ns i).id _ hrp m30).mono ?_);rintro e w14 ⟨he, hb7⟩;refine ⟨.bool false, by rw [he, c73], ?_⟩;clear he;have s12 := Sb hb7;have b14 := s12.below b12 b12.size b12.size;refine Lv (.bool true) (Fx.x_notT rfl rfl) (Lv (.bool true) (x_pickF rfl rfl rfl) (Ln (sN (Wc (b := true) rfl (fun _ => Ws (Wl (Lv (.bool false) (x_assign rfl rfl) ?_))) (fun h => nomatch h)))));refine Ln (sN (Wr (Fx.blkR (sR (Fx.lpR (Fx.blkR (sR (⟨.bool false, rV Try.results12 (by exact rfl), ?_⟩))))))));exact ⟨u_ (fun q => Ending.returned (Value.bool q)) (Eq.symm (mayS_n (fun h => by have := (h.nd i (by omega)).2.2; rw [c73] at this; cases this))), b14⟩
     rw [A_] at c66;refine Fx.L.call (by rfl) (rC (args := [.agg (Fx.varr 54 (Fx.rv .i64 ((ndA m.ns i).R)))]) rfl rfl Try.func40 rfl rfl) rfl ((may_any (ndA m.ns i).R _).mono ?_);rintro e w15 ⟨he, hb8⟩;refine ⟨.bool false, by rw [he, c66], ?_⟩;clear he;have s13 := Sb hb8;have b15 := s13.below b11 b11.size b11.size;refine Lv (.bool true) (Fx.x_notT rfl rfl) (Lv (.bool true) (x_pickF rfl rfl rfl) (Lv (.bool true) (x_move rfl rfl) (Lk (by rfl) rfl (Lk (by rfl) rfl (Lk (by rfl) rfl (Lk (by rfl) rfl (Lk (by rfl) rfl (Lv (.bool true) (x_pickT rfl rfl rfl) (Ln (sN (Wc (b := true) rfl (fun _ => Ws (Wl (Lv (.bool false) (x_assign rfl rfl) ?_))) (fun h => nomatch h))))))))))));refine Ln (sN (Wr (Fx.blkR (sR (Fx.lpR (Fx.blkR (sR (⟨.bool false, rV Try.results12 (by exact rfl), ?_⟩))))))));exact ⟨u_ (fun q => Ending.returned (Value.bool q)) (Eq.symm (mayS_n (fun h => by have := (h.nd i (by omega)).2.1; rw [c66] at this; cases this))), b15⟩
    refine Lv (.bool false) (Fx.x_lssF rfl h8 h7 c57) (Ln (sN (Ws (Wc (b := false) rfl (fun h => nomatch h) (fun _ => Fx.W.exit (Fx.seqX (Fx.lpX (Fx.blkX (sN (Ws (Wl (Lv (pf g1 19) (x_field rfl h4 Try.underlying29 rfl (s := 1) (by kernel_rfl) rfl (by show _ + 19 = _; omega)) (Lv (.slice ga (m.gs.length) (gc)) (x_load1 (x := stY (stS m na nc ga gc)) rfl rfl (by kernel_rfl) m14.cel (i := 19) (by omega) (by omega) rfl) (Lv (.func (.func 43) #[] #[(pt g2)]) (Fx.x_func (us := []) (vs := [(pt g2)]) rfl rfl (Fx.args1 h5)) ?_))))))))))))));by_cases c80 : (hasNoB m.ns m.gs) = true
    ·refine Fx.L.call (by rfl) (rC (args := [.slice ga (m.gs.length) (gc), .func (.func 43) #[] #[(pt g2)]]) rfl rfl Try.func42 rfl rfl) rfl ((s_ctg mb g2 m.ns m.gs ga gc _ hl2 (hg.up b9 rfl) hrp m16 m15).mono ?_);rintro e w16 ⟨he, hb9⟩;refine ⟨.bool true, by rw [he, c80], ?_⟩;clear he;have s14 := Sb hb9;have b16 := s14.below b9 b9.size b9.size;refine Lv (.bool false) (Fx.x_notF rfl rfl) (Lv (.bool false) (x_assign rfl rfl) (Ln (sN (Wr (⟨.bool false, rV Try.results12 (by exact rfl), ?_⟩)))));exact ⟨u_ (fun q => Ending.returned (Value.bool q)) (Eq.symm (mayS_n (fun h => hasNo_ex c80 h.gd))), b16⟩
    rw [A_] at c80;refine Fx.L.call (by rfl) (rC (args := [.slice ga (m.gs.length) (gc), .func (.func 43) #[] #[(pt g2)]]) rfl rfl Try.func42 rfl rfl) rfl ((s_ctg mb g2 m.ns m.gs ga gc _ hl2 (hg.up b9 rfl) hrp m16 m15).mono ?_);rintro e w17 ⟨he, hb10⟩;refine ⟨.bool false, by rw [he, c80], ?_⟩;clear he;have s15 := Sb hb10;have b17 := s15.below b9 b9.size b9.size;refine Lv (.bool true) (Fx.x_notT rfl rfl) (Lv (.bool true) (x_assign rfl rfl) (Ln (sN (Wr (⟨.bool true, rV Try.results12 (by exact rfl), ?_⟩)))));exact ⟨u_ (fun q => Ending.returned (Value.bool q)) (Eq.symm (mayS_y ⟨kn_p c10, by omega, by omega, hrp, riseG_p c33, fun q hq => hli q (by omega), fun q hq => hnd q (by omega), hasNo_all c80⟩)), b17⟩
   rw [A_] at c33;refine Fx.L.call (by rfl) (rC (args := [.slice ga (m.gs.length) (gc), .func (.func 25) #[] #[]]) rfl rfl Try.func38 rfl rfl) rfl ((s_riseG ga gc m.gs _ hl2 (hg.up b3 rfl)).mono ?_);rintro e w18 ⟨he, hb11⟩;refine ⟨.bool false, by rw [he, c33], ?_⟩;clear he;have s16 := Sb hb11;have b18 := s16.below b3 b3.size b3.size;refine Lv (.bool true) (Fx.x_notT rfl rfl) (Lv (.bool true) (x_pickF rfl rfl rfl) (Ln (sN (Wc (b := true) rfl (fun _ => Ws (Wl (Lv (.bool false) (x_assign rfl rfl) ?_))) (fun h => nomatch h)))));refine Ln (sN (Wr (sR (⟨.bool false, rV Try.results12 (by exact rfl), ?_⟩))));exact ⟨u_ (fun q => Ending.returned (Value.bool q)) (Eq.symm (mayS_n (fun h => riseG_q c33 h.gr))), b18⟩
  rw [A_] at c27;refine Fx.L.call (by rfl) (rC (args := [.slice na (m.ns.length) (nc), .func (.func 22) #[] #[]]) rfl rfl Try.func37 rfl rfl) rfl ((s_riseN na nc m.ns _ hl1 (hn.up b2 rfl)).mono ?_);rintro e w19 ⟨he, hb12⟩;refine ⟨.bool false, by rw [he, c27], ?_⟩;clear he;have s17 := Sb hb12;have b19 := s17.below b2 b2.size b2.size;refine Lv (.bool true) (Fx.x_notT rfl rfl) (Lv (.bool true) (x_pickF rfl rfl rfl) (Lv (.bool true) (x_move rfl rfl) (Lk (by rfl) rfl (Lk (by rfl) rfl (Lk (by rfl) rfl (Lk (by rfl) rfl (Lv (.bool true) (x_pickT rfl rfl rfl) (Ln (sN (Wc (b := true) rfl (fun _ => Ws (Wl (Lv (.bool false) (x_assign rfl rfl) ?_))) (fun h => nomatch h)))))))))));refine Ln (sN (Wr (sR (⟨.bool false, rV Try.results12 (by exact rfl), ?_⟩))));exact ⟨u_ (fun q => Ending.returned (Value.bool q)) (Eq.symm (mayS_n (fun h => riseN_q c27 h.nr))), b19⟩
 rw [A_] at c10;refine Fx.L.call (by rfl) (rC (args := [.agg (Fx.varr 6 (Fx.rv .u64 m.known))]) rfl rfl Try.func36 rfl rfl) rfl ((v_mayv m.known _ hK).mono ?_);rintro e w20 ⟨he, hb13⟩;refine ⟨.bool false, by rw [he, c10], ?_⟩;clear he;have s18 := Sb hb13;have b20 := s18.below b1 b1.size b1.size;refine Lv (.bool true) (Fx.x_notT rfl rfl) (Lv (.bool true) (x_move rfl rfl) (Lk (by rfl) rfl (Lk (by rfl) rfl (Lk (by rfl) rfl (Lk (by rfl) rfl (Lv (.bool true) (x_pickT rfl rfl rfl) (Lv (.bool true) (x_move rfl rfl) (Lk (by rfl) rfl (Lk (by rfl) rfl (Lk (by rfl) rfl (Lk (by rfl) rfl (Lv (.bool true) (x_pickT rfl rfl rfl) (Lv (.bool true) (x_move rfl rfl) (Lk (by rfl) rfl (Lk (by rfl) rfl (Lk (by rfl) rfl (Lk (by rfl) rfl (Lv (.bool true) (x_pickT rfl rfl rfl) (Lv (.bool true) (x_move rfl rfl) (Lk (by rfl) rfl (Lk (by rfl) rfl (Lk (by rfl) rfl (Lk (by rfl) rfl (Lv (.bool true) (x_pickT rfl rfl rfl) ?_))))))))))))))))))))))));refine Ln (sN (Wc (b := true) rfl (fun _ => Ws (Wl (Lv (.bool false) (x_assign rfl rfl) ?_))) (fun h => nomatch h)));refine Ln (sN (Wr (sR (⟨.bool false, rV Try.results12 (by exact rfl), ?_⟩))));exact ⟨u_ (fun q => Ending.returned (Value.bool q)) (Eq.symm (mayS_n (fun h => kn_q c10 h.kn))), b20⟩
end Go.Proofs.Ytkajcjefckjijaa
