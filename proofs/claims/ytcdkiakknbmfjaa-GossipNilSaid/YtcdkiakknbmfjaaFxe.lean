/-
  Equality of flat aggregates, and results that lie in memory, by facts.
-/
import Derived.Test.YtcdkiakknbmfjaaFxm
import Derived.Test.YtcdkiakknbmfjaaFlat
namespace Go.Proofs.Ytcdkiakknbmfjaa
open Go.RowKit
namespace Fx
/-- the cells are of these kinds, in range -/
def Kd (ks : List (Option IntKind)) (x : Nat → Value) : Prop := ∀ i, (h : i < ks.length) → ∃ l, litOf ks[i] (x i) = some l
theorem kd_rv {k : IntKind} {n : Nat} {x : Nat → Int} (h : ∀ i, i < n → (Lit.int k (x i)).wf = true) : Kd (List.replicate n (some k)) (rv k x) := fun i hi => by
  have hi' : i < n := by simpa using hi
  refine ⟨.int k (x i), ?_⟩
  rw [List.getElem_replicate]
  simp [litOf, rv, h i hi']
theorem wf64 {a : Int} (h : -9223372036854775808 ≤ a ∧ a ≤ 9223372036854775807) : (Lit.int .i64 a).wf = true := by simp [Lit.wf, IntKind.min, IntKind.max, IntKind.bits, IntKind.signed]; omega
theorem wfu64 {a : Int} (h : 0 ≤ a ∧ a ≤ 18446744073709551615) : (Lit.int .u64 a).wf = true := by simp [Lit.wf, IntKind.min, IntKind.max, IntKind.bits, IntKind.signed]; omega
theorem wfu8 {a : Int} (h : 0 ≤ a ∧ a ≤ 255) : (Lit.int .u8 a).wf = true := by simp [Lit.wf, IntKind.min, IntKind.max, IntKind.bits, IntKind.signed]; omega
theorem litOf_inj {k : Option IntKind} {u v : Value} {l : Lit} (h : litOf k u = some l) (h' : litOf k v = some l) : u = v := by
  cases k with
  | none =>
    cases u <;> cases v <;> simp_all [litOf]
    rw [← h] at h'; injection h' with h'; exact h'.symm
  | some q =>
    cases u <;> cases v <;> simp_all [litOf]
    have e := h.2.trans h'.2.symm; injection e
theorem Kd.fit {x : Nat → Value} : ∀ (ks : List (Option IntKind)) (o : Nat), (∀ i, (h : i < ks.length) → ∃ l, litOf ks[i] (x (o + i)) = some l) → ∃ ls, Fit ks ((List.range ks.length).map fun i => x (o + i)) ls
  | [], _, _ => ⟨[], trivial⟩
  | k :: ks, o, h => by
    obtain ⟨l, hl⟩ := h 0 (by simp)
    obtain ⟨ls, hls⟩ := Kd.fit ks (o + 1) (fun i hi => by
      have := h (i + 1) (by simpa using hi)
      simpa [Nat.add_assoc, Nat.add_comm 1 i] using this)
    refine ⟨l :: ls, ?_⟩
    rw [List.length_cons, List.range_succ_eq_map, List.map_cons, List.map_map]
    refine ⟨by simpa using hl, ?_⟩
    have e : (fun i => x (o + i)) ∘ Nat.succ = fun i => x (o + 1 + i) := by funext i; simp [Nat.add_assoc, Nat.add_comm 1 i]
    rw [e]
    exact hls
theorem varr_list (n : Nat) (x : Nat → Value) : (varr n x).toList = (List.range n).map x := by
  apply List.ext_getElem?
  intro i
  by_cases hi : i < n
  · rw [Array.getElem?_toList, varr_get x hi]; simp [hi]
  · rw [Array.getElem?_toList, varr_none x (by omega)]; simp [hi]
theorem Fit.inj : ∀ {ks : List (Option IntKind)} {a b : List Value} {l : List Lit}, Fit ks a l → Fit ks b l → a = b
  | [], [], [], [], _, _ => rfl
  | _ :: _, _ :: _, _ :: _, _ :: _, h, h' => by rw [litOf_inj h.1 h'.1, Fit.inj h.2 h'.2]
  | [], [], _ :: _, _, _, h' => h'.elim
  | [], _ :: _, _, _, h, _ => h.elim
  | _ :: _, [], _, _, h, _ => h.elim
  | _ :: _, _ :: _, [], _, _, h' => h'.elim
  | _ :: _, _ :: _, _ :: _, [], h, _ => h.elim
  | [], [], [], _ :: _, h, _ => h.elim
theorem Fit.same : ∀ {ks : List (Option IntKind)} {a : List Value} {l l' : List Lit}, Fit ks a l → Fit ks a l' → l = l'
  | [], [], [], [], _, _ => rfl
  | _ :: _, _ :: _, _ :: _, _ :: _, h, h' => by
    have := h.1.symm.trans h'.1
    rw [Option.some.inj this, Fit.same h.2 h'.2]
  | [], [], [], _ :: _, _, h' => h'.elim
  | [], [], _ :: _, _, h, _ => h.elim
  | [], _ :: _, _, _, h, _ => h.elim
  | _ :: _, [], _, _, h, _ => h.elim
  | _ :: _, _ :: _, _ :: _, [], _, h' => h'.elim
  | _ :: _, _ :: _, [], _, h, _ => h.elim
section
variable {P : Program} {n : Nat} {Q : Post} {f : Nat → Value} {w : World} {o : Oper}
theorem run_eqA (w : World) (m : Nat) (hm : m ≤ 10000) {T : TypeId} {ks : List (Option IntKind)} {x y : Nat → Value} (hkt : P.keyTypeAt m T = true) (hk : flatK P m T = some ks) (hn : ks.length = n) (hwide : aggT P T = true) (kx : Kd ks x) (ky : Kd ks y) (b : Bool) (hb : b = true ↔ ∀ i, i < n → x i = y i) :
    (binOp .eql T (.agg (varr n x)) (.agg (varr n y))).run P w = .ok (.bool b) w ∧ (binOp .neq T (.agg (varr n x)) (.agg (varr n y))).run P w = .ok (.bool (!b)) w := by
  obtain ⟨la, ha⟩ := Kd.fit (x := x) ks 0 (fun i h => by rw [Nat.zero_add]; exact kx i h)
  obtain ⟨lb, hb'⟩ := Kd.fit (x := y) ks 0 (fun i h => by rw [Nat.zero_add]; exact ky i h)
  simp only [Nat.zero_add, hn] at ha hb'
  have hw' : (match P.underlying T with | some (.array _ _) | some (.struct _) => true | _ => false) = true := by
    unfold aggT at hwide
    cases hu : P.underlying T with
    | none => rw [hu] at hwide; cases hwide
    | some d => rw [hu] at hwide; cases d <;> first | rfl | (cases hwide)
  have hr : b = true ↔ la = lb := by
    rw [hb]
    constructor
    · intro h
      have e : (List.range n).map x = (List.range n).map y := List.map_congr_left fun i hi => h i (by simpa using hi)
      have ha2 := ha
      rw [show (fun i => x i) = x from rfl, e] at ha2
      exact Fit.same ha2 hb'
    · intro h
      subst h
      have e := Fit.inj ha hb'
      intro i hi
      have h1 := congrArg (fun l => l[i]?) e
      simpa [hi] using h1
  rw [← varr_list] at ha hb'
  exact ⟨run_eql_flat w m hm T ks _ _ la lb hkt hk hw' ha hb' b hr, run_neq_flat w m hm T ks _ _ la lb hkt hk hw' ha hb' b hr⟩
theorem x_binA {op : BinOp} {T T' : TypeId} {x y : Operand} {u v r : Value} {a b : Array Value} (ho : o.op = .binOp op T x y T') (hx : ev f x = u) (hy : ev f y = v) (hu : u = .agg a) (hv : v = .agg b) (hg : P.eqGuardType P.depth T = false) (h : (binOp op T u v).run P w = .ok r w) : Runs P f o w r := by
  subst hu hv
  unfold Runs execOp
  simp only [ho, hx, hy]
  simp only [Sem.run_bind, run_eqGuard_agg w op T x y a b hg, Result.andThen_ok, h, Sem.run_pure]
theorem x_eqlA {T T' : TypeId} {x y : Operand} {ks : List (Option IntKind)} {X Y : Nat → Value} (m : Nat) (b : Bool) (ho : o.op = .binOp .eql T x y T') (hx : ev f x = .agg (varr n X)) (hy : ev f y = .agg (varr n Y)) (hb : b = true ↔ ∀ i, i < n → X i = Y i) (kx : Kd ks X) (ky : Kd ks Y)
    (hm : Nat.ble m 10000 = true) (hkt : P.keyTypeAt m T = true) (hk : flatK P m T = some ks) (hn : ks.length = n) (hwide : aggT P T = true) (hg : P.eqGuardType P.depth T = false) : Runs P f o w (.bool b) :=
  x_binA ho hx hy rfl rfl hg (run_eqA w m (Nat.le_of_ble_eq_true hm) hkt hk hn hwide kx ky b hb).1
theorem x_neqA {T T' : TypeId} {x y : Operand} {ks : List (Option IntKind)} {X Y : Nat → Value} (m : Nat) (b : Bool) (ho : o.op = .binOp .neq T x y T') (hx : ev f x = .agg (varr n X)) (hy : ev f y = .agg (varr n Y)) (hb : b = true ↔ ∀ i, i < n → X i = Y i) (kx : Kd ks X) (ky : Kd ks Y)
    (hm : Nat.ble m 10000 = true) (hkt : P.keyTypeAt m T = true) (hk : flatK P m T = some ks) (hn : ks.length = n) (hwide : aggT P T = true) (hg : P.eqGuardType P.depth T = false) : Runs P f o w (.bool (!b)) :=
  x_binA ho hx hy rfl rfl hg (run_eqA w m (Nat.le_of_ble_eq_true hm) hkt hk hn hwide kx ky b hb).2
theorem yesb {p : Prop} (h : p) : true = true ↔ p := Iff.intro (fun _ => h) (fun _ => rfl)
theorem nob {p : Prop} (h : ¬ p) : false = true ↔ p := Iff.intro (fun e => absurd e (by decide)) (fun q => absurd q h)
theorem run_loadV {T : TypeId} {g off : Nat} {x : Nat → Value} (hc : Cel w g off n x) (hT : aggT P T = true) (hz : (P.info? T).map (·.size) = some n) : (loadVar T ⟨g, off, none⟩).run P w = .ok (.agg (varr n x)) w := by
  have hl : (varr n x).toList.length = n := by simp [varr_size]
  have hr : w.rangeAt g off (varr n x).toList := fun j v hv => by
    have hj : j < n := by have := (List.getElem?_eq_some_iff.1 hv).1; simpa [varr_size] using this
    rw [Array.getElem?_toList, varr_get _ hj] at hv
    rw [← Option.some.inj hv]
    exact hc j hj
  unfold aggT at hT
  cases hu : P.underlying T with
  | none => rw [hu] at hT; cases hT
  | some d =>
    rw [hu] at hT
    have hd : d.isRow = true := by cases d <;> first | (cases hT; done) | rfl
    have := run_loadVar_mid (P := P) w g off T (varr n x).toList d hr hu hd (by rw [hl]; exact hz)
    rw [this, Array.toArray_toList]
theorem run_load1 {T : TypeId} {g off i p m : Nat} {x : Nat → Value} {v : Value} (hc : Cel w g off m x) (hT : oneT P T = true) (hi : i < m) (he : p = off + i) (hv : x i = v) : (loadVar T ⟨g, p, none⟩).run P w = .ok v w := by
  subst he hv
  have h1 := hc i hi
  unfold oneT at hT
  cases hu : P.underlying T with
  | none => rw [hu] at hT; cases hT
  | some d =>
    rw [hu] at hT
    cases d <;> first
      | (cases hT; done)
      | simp [loadVar, isAgg, underlying, hu, h1]
/-- a result, whichever it is -/
def resV (P : Program) (f : Nat → Value) (w : World) (r : ResultVar) (v : Value) : Prop := match r with
  | .tmp t => f t = v
  | .cell a T => ∃ ad, f a = .pointer (some ad) ∧ (loadVar T ad).run P w = .ok v w
theorem resV.run {r : ResultVar} {v : Value} (h : resV P f w r v) : (rdF f r).run P w = .ok v w := by
  cases r with
  | tmp t => simp only [resV] at h; simp [rdF, h]
  | cell a T => obtain ⟨ad, h1, h2⟩ := h; simp [rdF, h1, asAddr, h2]
theorem retV1 {fn : Func} {r : ResultVar} {v : Value} (hr : fn.results = #[r]) (h : resV P f w r v) : (resF fn f).run P w = .ok v w := by
  have := h.run
  unfold resF
  rw [hr]
  simp only [List.mapM_toArray, List.mapM_cons, List.mapM_nil]
  simp [this]
theorem retV2 {fn : Func} {r s : ResultVar} {u v : Value} (hr : fn.results = #[r, s]) (h : resV P f w r u) (h' : resV P f w s v) : (resF fn f).run P w = .ok (.tuple #[u, v]) w := by
  have := h.run
  have := h'.run
  unfold resF
  rw [hr]
  simp only [List.mapM_toArray, List.mapM_cons, List.mapM_nil]
  simp [*]
theorem retV3 {fn : Func} {r s t : ResultVar} {u v x : Value} (hr : fn.results = #[r, s, t]) (h : resV P f w r u) (h' : resV P f w s v) (h'' : resV P f w t x) : (resF fn f).run P w = .ok (.tuple #[u, v, x]) w := by
  have := h.run
  have := h'.run
  have := h''.run
  unfold resF
  rw [hr]
  simp only [List.mapM_toArray, List.mapM_cons, List.mapM_nil]
  simp [*]
end
end Fx
end Go.Proofs.Ytcdkiakknbmfjaa
