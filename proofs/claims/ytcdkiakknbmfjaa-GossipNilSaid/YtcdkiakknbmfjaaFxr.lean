/-
  What an operation yields, by facts.
-/
import Derived.Test.YtcdkiakknbmfjaaFx
namespace Go.Proofs.Ytcdkiakknbmfjaa
open Go.RowKit
namespace Fx
section
variable {P : Program} {f : Nat → Value} {w : World} {o : Oper}
theorem x_move {x : Operand} {v : Value} (ho : o.op = .move x) (hx : ev f x = v) : Runs P f o w v := by
  unfold Runs execOp; simp [ho, hx]
theorem x_assign {x : Operand} {v : Value} (ho : o.op = .assign x) (hx : ev f x = v) : Runs P f o w v := by
  unfold Runs execOp; simp [ho, hx]
theorem x_pick {c x y : Operand} {b : Bool} {u v : Value} (ho : o.op = .pick c x y) (hc : ev f c = .bool b) (hx : ev f x = u) (hy : ev f y = v) : Runs P f o w (if b then u else v) := by
  unfold Runs execOp; simp [ho, hc, hx, hy, asBool]
theorem x_pickT {c x y : Operand} {u : Value} (ho : o.op = .pick c x y) (hc : ev f c = .bool true) (hx : ev f x = u) : Runs P f o w u := x_pick ho hc hx rfl
theorem x_pickF {c x y : Operand} {v : Value} (ho : o.op = .pick c x y) (hc : ev f c = .bool false) (hy : ev f y = v) : Runs P f o w v := x_pick ho hc rfl hy
theorem run_eqGuard_ints {P : Program} {w : World} (op : BinOp) (t : TypeId) (x y : Operand) (k k' : IntKind) (a b : Int) : (eqGuard op t x y (.int k a) (.int k' b)).run P w = .ok () w := by
  unfold eqGuard; cases op <;> rfl
theorem x_int {op : BinOp} {T T' : TypeId} {x y : Operand} {k : IntKind} {a b : Int} {v : Value} (ho : o.op = .binOp op T x y T') (hx : ev f x = .int k a) (hy : ev f y = .int k b) (h : (binOp op T (.int k a) (.int k b)).run P w = .ok v w) : Runs P f o w v := by
  unfold Runs execOp
  simp only [ho, hx, hy]
  simp only [Sem.run_bind, run_eqGuard_ints, Result.andThen_ok, h, Sem.run_pure]
theorem x_add {T T' : TypeId} {x y : Operand} {k : IntKind} {a b c : Int} (ho : o.op = .binOp .add T x y T') (hx : ev f x = .int k a) (hy : ev f y = .int k b) (hc : k.wrap (a + b) = c) : Runs P f o w (.int k c) :=
  x_int ho hx hy (by simp [binOp, Op.intArith, hc])
theorem x_sub {T T' : TypeId} {x y : Operand} {k : IntKind} {a b c : Int} (ho : o.op = .binOp .sub T x y T') (hx : ev f x = .int k a) (hy : ev f y = .int k b) (hc : k.wrap (a - b) = c) : Runs P f o w (.int k c) :=
  x_int ho hx hy (by simp [binOp, Op.intArith, hc])
theorem x_mul {T T' : TypeId} {x y : Operand} {k : IntKind} {a b c : Int} (ho : o.op = .binOp .mul T x y T') (hx : ev f x = .int k a) (hy : ev f y = .int k b) (hc : k.wrap (a * b) = c) : Runs P f o w (.int k c) :=
  x_int ho hx hy (by simp [binOp, Op.intArith, hc])
theorem x_quo {T T' : TypeId} {x y : Operand} {k : IntKind} {a b c : Int} (ho : o.op = .binOp .quo T x y T') (hx : ev f x = .int k a) (hy : ev f y = .int k b) (h0 : b ≠ 0) (hc : k.wrap (a.tdiv b) = c) : Runs P f o w (.int k c) :=
  x_int ho hx hy (by simp [binOp, Op.intDiv, hc, h0])
theorem x_rem {T T' : TypeId} {x y : Operand} {k : IntKind} {a b c : Int} (ho : o.op = .binOp .rem T x y T') (hx : ev f x = .int k a) (hy : ev f y = .int k b) (h0 : b ≠ 0) (hc : a.tmod b = c) : Runs P f o w (.int k c) :=
  x_int ho hx hy (by simp [binOp, Op.intDiv, hc, h0])
theorem x_lss {T T' : TypeId} {x y : Operand} {k : IntKind} {a b : Int} (ho : o.op = .binOp .lss T x y T') (hx : ev f x = .int k a) (hy : ev f y = .int k b) : Runs P f o w (.bool (decide (a < b))) :=
  x_int ho hx hy (by simp [binOp, Op.intCmp])
theorem x_leq {T T' : TypeId} {x y : Operand} {k : IntKind} {a b : Int} (ho : o.op = .binOp .leq T x y T') (hx : ev f x = .int k a) (hy : ev f y = .int k b) : Runs P f o w (.bool (decide (a ≤ b))) :=
  x_int ho hx hy (by simp [binOp, Op.intCmp])
theorem x_gtr {T T' : TypeId} {x y : Operand} {k : IntKind} {a b : Int} (ho : o.op = .binOp .gtr T x y T') (hx : ev f x = .int k a) (hy : ev f y = .int k b) : Runs P f o w (.bool (decide (b < a))) :=
  x_int ho hx hy (by simp [binOp, Op.intCmp])
theorem x_geq {T T' : TypeId} {x y : Operand} {k : IntKind} {a b : Int} (ho : o.op = .binOp .geq T x y T') (hx : ev f x = .int k a) (hy : ev f y = .int k b) : Runs P f o w (.bool (decide (b ≤ a))) :=
  x_int ho hx hy (by simp [binOp, Op.intCmp])
theorem x_eql {T T' : TypeId} {x y : Operand} {k : IntKind} {a b : Int} (ho : o.op = .binOp .eql T x y T') (hx : ev f x = .int k a) (hy : ev f y = .int k b) : Runs P f o w (.bool (decide (a = b))) :=
  x_int ho hx hy (by simp [binOp, Op.intCmp]; rfl)
theorem x_neq {T T' : TypeId} {x y : Operand} {k : IntKind} {a b : Int} (ho : o.op = .binOp .neq T x y T') (hx : ev f x = .int k a) (hy : ev f y = .int k b) : Runs P f o w (.bool (!decide (a = b))) :=
  x_int ho hx hy (by simp [binOp, Op.intCmp]; rfl)
theorem x_not {T : TypeId} {x : Operand} {b : Bool} (ho : o.op = .unOp .not T x) (hx : ev f x = .bool b) : Runs P f o w (.bool (!b)) := by
  unfold Runs execOp; simp [ho, hx, Op.unary]
theorem x_lssT {T T' : TypeId} {x y : Operand} {k : IntKind} {a b : Int} (ho : o.op = .binOp .lss T x y T') (hx : ev f x = .int k a) (hy : ev f y = .int k b) (h : a < b) : Runs P f o w (.bool true) := by
  have := x_lss (P := P) (w := w) ho hx hy; rwa [decide_eq_true h] at this
theorem x_lssF {T T' : TypeId} {x y : Operand} {k : IntKind} {a b : Int} (ho : o.op = .binOp .lss T x y T') (hx : ev f x = .int k a) (hy : ev f y = .int k b) (h : ¬ (a < b)) : Runs P f o w (.bool false) := by
  have := x_lss (P := P) (w := w) ho hx hy; rwa [decide_eq_false h] at this
theorem x_leqT {T T' : TypeId} {x y : Operand} {k : IntKind} {a b : Int} (ho : o.op = .binOp .leq T x y T') (hx : ev f x = .int k a) (hy : ev f y = .int k b) (h : a ≤ b) : Runs P f o w (.bool true) := by
  have := x_leq (P := P) (w := w) ho hx hy; rwa [decide_eq_true h] at this
theorem x_leqF {T T' : TypeId} {x y : Operand} {k : IntKind} {a b : Int} (ho : o.op = .binOp .leq T x y T') (hx : ev f x = .int k a) (hy : ev f y = .int k b) (h : ¬ (a ≤ b)) : Runs P f o w (.bool false) := by
  have := x_leq (P := P) (w := w) ho hx hy; rwa [decide_eq_false h] at this
theorem x_gtrT {T T' : TypeId} {x y : Operand} {k : IntKind} {a b : Int} (ho : o.op = .binOp .gtr T x y T') (hx : ev f x = .int k a) (hy : ev f y = .int k b) (h : b < a) : Runs P f o w (.bool true) := by
  have := x_gtr (P := P) (w := w) ho hx hy; rwa [decide_eq_true h] at this
theorem x_gtrF {T T' : TypeId} {x y : Operand} {k : IntKind} {a b : Int} (ho : o.op = .binOp .gtr T x y T') (hx : ev f x = .int k a) (hy : ev f y = .int k b) (h : ¬ (b < a)) : Runs P f o w (.bool false) := by
  have := x_gtr (P := P) (w := w) ho hx hy; rwa [decide_eq_false h] at this
theorem x_geqT {T T' : TypeId} {x y : Operand} {k : IntKind} {a b : Int} (ho : o.op = .binOp .geq T x y T') (hx : ev f x = .int k a) (hy : ev f y = .int k b) (h : b ≤ a) : Runs P f o w (.bool true) := by
  have := x_geq (P := P) (w := w) ho hx hy; rwa [decide_eq_true h] at this
theorem x_geqF {T T' : TypeId} {x y : Operand} {k : IntKind} {a b : Int} (ho : o.op = .binOp .geq T x y T') (hx : ev f x = .int k a) (hy : ev f y = .int k b) (h : ¬ (b ≤ a)) : Runs P f o w (.bool false) := by
  have := x_geq (P := P) (w := w) ho hx hy; rwa [decide_eq_false h] at this
theorem x_eqlT {T T' : TypeId} {x y : Operand} {k : IntKind} {a b : Int} (ho : o.op = .binOp .eql T x y T') (hx : ev f x = .int k a) (hy : ev f y = .int k b) (h : a = b) : Runs P f o w (.bool true) := by
  have := x_eql (P := P) (w := w) ho hx hy; rwa [decide_eq_true h] at this
theorem x_eqlF {T T' : TypeId} {x y : Operand} {k : IntKind} {a b : Int} (ho : o.op = .binOp .eql T x y T') (hx : ev f x = .int k a) (hy : ev f y = .int k b) (h : ¬ (a = b)) : Runs P f o w (.bool false) := by
  have := x_eql (P := P) (w := w) ho hx hy; rwa [decide_eq_false h] at this
theorem x_neqT {T T' : TypeId} {x y : Operand} {k : IntKind} {a b : Int} (ho : o.op = .binOp .neq T x y T') (hx : ev f x = .int k a) (hy : ev f y = .int k b) (h : ¬ (a = b)) : Runs P f o w (.bool true) := by
  have := x_neq (P := P) (w := w) ho hx hy; rwa [decide_eq_false h] at this
theorem x_neqF {T T' : TypeId} {x y : Operand} {k : IntKind} {a b : Int} (ho : o.op = .binOp .neq T x y T') (hx : ev f x = .int k a) (hy : ev f y = .int k b) (h : a = b) : Runs P f o w (.bool false) := by
  have := x_neq (P := P) (w := w) ho hx hy; rwa [decide_eq_true h] at this
theorem x_notT {T : TypeId} {x : Operand} (ho : o.op = .unOp .not T x) (hx : ev f x = .bool false) : Runs P f o w (.bool true) := x_not ho hx
theorem x_notF {T : TypeId} {x : Operand} (ho : o.op = .unOp .not T x) (hx : ev f x = .bool true) : Runs P f o w (.bool false) := x_not ho hx
theorem i64e {a c : Int} (h : -9223372036854775808 ≤ c ∧ c ≤ 9223372036854775807) (e : a = c) : IntKind.i64.wrap a = c := by subst e; exact IntWalk.i64_in _ h
theorem u64e {a c : Int} (h : 0 ≤ c ∧ c ≤ 18446744073709551615) (e : a = c) : IntKind.u64.wrap a = c := by subst e; exact IntWalk.u64_in _ h
theorem x_nil {x : Operand} {a : Addr} (ho : o.op = .nilCheck x) (hx : ev f x = .pointer (some a)) : Runs P f o w (.pointer (some a)) := by
  unfold Runs execOp; simp [ho, hx]
theorem x_conv {S T : TypeId} {x : Operand} {k k' : IntKind} {a c : Int} (ho : o.op = .convert S T x) (hx : ev f x = .int k' a) (hs : (P.underlying S).isSome = true) (hd : P.underlying T = some (.int k)) (hc : k.wrap a = c) : Runs P f o w (.int k c) := by
  unfold Runs execOp
  simp only [ho, hx]
  have hk : P.intKind T = k := by unfold Program.intKind; rw [hd]
  have := run_convert_int w S T k' a hs (hk.symm ▸ hd)
  rw [hk, hc] at this
  simp only [Sem.run_bind, this, Result.andThen_ok, Sem.run_pure]
theorem x_extract {x : Operand} {vs : Array Value} {i : Nat} {v : Value} (ho : o.op = .extract x i) (hx : ev f x = .tuple vs) (hv : vs[i]? = some v) : Runs P f o w v := by
  unfold Runs execOp; simp [ho, hx, Instr.extract, hv]
theorem x_len {T : TypeId} {x : Operand} {b : Option Addr} {n c : Nat} {Ts : Array TypeId} (ho : o.op = .call { callee := .builtin .len, args := #[x], argTypes := Ts }) (hT : Ts = #[T]) (hx : ev f x = .slice b n c) (hu : P.underlying T = some (.slice (P.elem T))) : Runs P f o w (.int .i64 n) := by
  unfold Runs execOp
  simp only [ho]
  unfold resolve invoke
  simp only [hT, List.map_toArray, List.map_cons, List.map_nil, hx]
  unfold builtin
  simp only [Sem.run_bind, Sem.run_pure, Result.andThen_ok, run_len_slice w T o.type b n c hu, goInt]
theorem x_max {x y : Operand} {Ts : Array TypeId} {k k' : IntKind} {a b : Int} (ho : o.op = .call { callee := .builtin .max, args := #[x, y], argTypes := Ts }) (hx : ev f x = .int k a) (hy : ev f y = .int k' b) : Runs P f o w (.int k (if b > a then b else a)) := by
  unfold Runs execOp
  simp only [ho]
  unfold resolve invoke
  simp only [List.map_toArray, List.map_cons, List.map_nil, hx, hy]
  unfold builtin
  simp only [Sem.run_bind, Sem.run_pure, Result.andThen_ok, run_max_int2]
theorem x_min {x y : Operand} {Ts : Array TypeId} {k k' : IntKind} {a b : Int} (ho : o.op = .call { callee := .builtin .min, args := #[x, y], argTypes := Ts }) (hx : ev f x = .int k a) (hy : ev f y = .int k' b) : Runs P f o w (.int k (if b < a then b else a)) := by
  unfold Runs execOp
  simp only [ho]
  unfold resolve invoke
  simp only [List.map_toArray, List.map_cons, List.map_nil, hx, hy]
  unfold builtin
  simp only [Sem.run_bind, Sem.run_pure, Result.andThen_ok, run_min_int2]
/-! ### addresses -/
theorem x_field {S : TypeId} {x : Operand} {i : Nat} {b off off' : Nat} {fs : Array Field} {fd : Field} {s : Nat} (ho : o.op = .fieldAddr S x i) (hx : ev f x = .pointer (some ⟨b, off, none⟩)) (hs : P.underlying S = some (.struct fs))
    (hf : fs[i]? = some fd) (hz : (P.info? fd.type).map (·.size) = some s) (h0 : Nat.beq s 0 = false) (he : off + fd.offset = off') : Runs P f o w (.pointer (some ⟨b, off', none⟩)) := by
  have h0' : s ≠ 0 := fun e => by rw [e] at h0; exact absurd h0 (by decide)
  obtain ⟨z, hz1, hz2⟩ := Option.map_eq_some_iff.1 hz
  rw [← hz2] at h0'
  unfold Runs execOp
  simp only [ho, hx]
  simp [Instr.fieldAt, underlying, hs, hf, Instr.sureAddr, fieldPlace, sizeOf, typeInfo, hz1, h0', addr_add, he]
theorem x_index {T : TypeId} {x i : Operand} {b off off' : Nat} {k : IntKind} {j : Int} {m s : Nat} {E : TypeId} (ho : o.op = .indexAddr T x i) (hx : ev f x = .pointer (some ⟨b, off, none⟩)) (hi : ev f i = .int k j)
    (hu : P.underlying T = some (.array m E)) (hz : (P.info? E).map (·.size) = some s) (h0 : 0 ≤ j) (h1 : j < (m : Int)) (he : off + j.toNat * s = off') : Runs P f o w (.pointer (some ⟨b, off', none⟩)) := by
  obtain ⟨z, hz1, hz2⟩ := Option.map_eq_some_iff.1 hz
  unfold Runs execOp
  simp only [ho, hx, hi]
  simp [Instr.indexAt, asIntOf, underlying, hu, Instr.sureAddr, h0, h1, sizeOf, typeInfo, hz1, hz2, addr_add, he]
theorem x_indexS {T : TypeId} {x i : Operand} {b off off' len cap : Nat} {k : IntKind} {j : Int} {s : Nat} {E : TypeId} (ho : o.op = .indexAddr T x i) (hx : ev f x = .slice (some ⟨b, off, none⟩) len cap) (hi : ev f i = .int k j)
    (hu : P.underlying T = some (.slice E)) (hz : (P.info? E).map (·.size) = some s) (h0 : 0 ≤ j) (h1 : j < (len : Int)) (he : off + j.toNat * s = off') : Runs P f o w (.pointer (some ⟨b, off', none⟩)) := by
  obtain ⟨z, hz1, hz2⟩ := Option.map_eq_some_iff.1 hz
  unfold Runs execOp
  simp only [ho, hx, hi]
  simp [Instr.indexAt, asIntOf, underlying, hu, h0, h1, sizeOf, typeInfo, hz1, hz2, addr_add, he]
end
end Fx
end Go.Proofs.Ytcdkiakknbmfjaa
