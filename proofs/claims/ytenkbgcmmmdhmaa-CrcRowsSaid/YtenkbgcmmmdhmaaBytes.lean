/-
  Laws for slices of bytes that a law makes.
-/
import Derived.Test.YtenkbgcmmmdhmaaLaw
import Derived.Laws.AppendOwnNone
namespace Go.Proofs.Ytenkbgcmmmdhmaa
open Go.RowKit Crc
theorem addr_add (b off j : Nat) : (⟨b, off, none⟩ : Addr).add j = ⟨b, off + j, none⟩ := by unfold Addr.add; split <;> simp_all
def cellsOf (bs : List UInt8) : List Value := bs.map fun c => .int .u8 (J c)
theorem cellsOf_length (bs : List UInt8) : (cellsOf bs).length = bs.length := by unfold cellsOf; simp
theorem cellsOf_append (a b : List UInt8) : cellsOf (a ++ b) = cellsOf a ++ cellsOf b := by unfold cellsOf; simp
theorem cellsOf_one (bs : List UInt8) : ∀ u ∈ cellsOf bs, u.oneCell' = true := by
  intro u hu; unfold cellsOf at hu; rw [List.mem_map] at hu; obtain ⟨c, _, rfl⟩ := hu; rfl
theorem cellsOf_get (bs : List UInt8) (k : Nat) (h : k < bs.length) : (cellsOf bs)[k]? = some (.int .u8 (J bs[k])) := by
  unfold cellsOf; simp [h]
theorem rd_cells {w : World} {a : Option Addr} {bs : List UInt8} (h : Rd w a bs) : ∀ j u, (cellsOf bs)[j]? = some u → ∃ ad, a = some ad ∧ w.cell? (ad.add j) = some u := by
  intro j u hu
  by_cases hj : j < bs.length
  · obtain ⟨b, off, e, hc⟩ := h j hj
    rw [cellsOf_get bs j hj] at hu
    injection hu with hu
    exact ⟨_, e, by rw [addr_add, hc, hu]⟩
  · rw [List.getElem?_eq_none (by rw [cellsOf_length]; omega)] at hu; simp at hu
/-- a slice of bytes of the call's own, from block 'base' on -/
def OwnB (w : World) (base : Nat) (A : Option Addr) (cap : Nat) (bs : List UInt8) : Prop :=
  w.ownsRow base 5 1 (.slice A bs.length cap) bs.length (cellsOf bs)
theorem OwnB.rd {w : World} {base : Nat} {A : Option Addr} {cap : Nat} {bs : List UInt8} (h : OwnB w base A cap bs) : Rd w A bs := by
  intro k hk
  rcases h.2 with ⟨hv, hn⟩ | ⟨g, cp, cur, hv, hb, hg, h1, h2, h3, ht⟩
  · omega
  · injection hv with hv _ _
    refine ⟨g, 0, hv, ?_⟩
    have := World.ownsRow.cells h (g := g) (by rw [hv]; rfl) k _ (cellsOf_get bs k hk)
    rwa [addr_add] at this
theorem OwnB.nil {w : World} {base : Nat} {A : Option Addr} {cap : Nat} {bs : List UInt8} (h : OwnB w base A cap bs) : A = none → bs.length = 0 ∧ cap = 0 := by
  intro e
  rcases h.2 with ⟨hv, hn⟩ | ⟨g, cp, cur, hv, hb, hg, h1, h2, h3, ht⟩
  · injection hv with _ h1 h2; exact ⟨h1, h2⟩
  · injection hv with hv _ _; rw [e] at hv; cases hv
theorem OwnB.block {w : World} {base : Nat} {A : Option Addr} {cap : Nat} {bs : List UInt8} (h : OwnB w base A cap bs) : ∀ ad, A = some ad → base ≤ ad.block ∧ ad.block < w.heap.size := by
  intro ad e
  exact World.ownsRow.lt h ad.block (by rw [e]; rfl)
theorem OwnB.new (w : World) : OwnB (w.alloc (.cells #[] 5)) w.heap.size (some ⟨w.heap.size, 0, none⟩) 0 [] :=
  World.ownsRow_made w #[] 0 (Nat.le_refl _) (by unfold maxLen; omega) rfl
theorem OwnB.below {w w' : World} {base B : Nat} {A : Option Addr} {cap : Nat} {bs : List UInt8} (h : OwnB w base A cap bs) (hb : Below B w w') (hB : w.heap.size ≤ B) : OwnB w' base A cap bs :=
  h.kept (row := none) ⟨hb.os, hb.tape, hb.output, hb.size, fun k hk _ => hb.block k (by omega)⟩ (by cases A <;> simp [Value.ownBlock])
theorem info5 : (Try.prog.info? 5).map (fun i => (i.zero, i.size, i.bytes)) = some (some (.int .u8 0), 1, 1) := by kernel_rfl
theorem wpList_wanted {P : Program} {w : World} {ops : Array Oper} {rest : List Oper} {o : Oper} {a : Act} {Q : Exit → Act → World → Prop} (hw : Region.wanted o (yielded ops a.tmps) = true)
    (h : o.wp P a w (wpList P ops Q rest) Q) : wpList P ops Q (o :: rest) a w := by
  unfold wpList; rw [if_pos hw]; exact .inl h
/-- append to bytes of the call's own -/
theorem app_bytes_wp {w : World} {o : Oper} {a : Act} {K : Act → World → Prop} {Q : Exit → Act → World → Prop} (s x : Operand)
    (ho : o.op = .call { callee := .builtin .append, args := #[s, x], argTypes := #[22, 22] })
    (base : Nat) (V : Option Addr) (vc n : Nat) (xs : List UInt8) (hs : a.eval s = .slice V n vc) (hxn : xs.length = n) (hown : OwnB w base V vc xs)
    (A : Option Addr) (m c : Nat) (news : List UInt8) (hx : a.eval x = .slice A m c) (hl : news.length = m) (hnews : Rd w A news) (hnil : A = none → m = 0 ∧ c = 0)
    (hbytes : n + m ≤ 140737488355328) (hbase : base ≤ w.heap.size)
    (h : ∀ V' vc' w', OwnB w' base V' vc' (xs ++ news) → w.grownBy w' (Value.slice V n vc).ownBlock → K (a.put o.dst (.slice V' (n + m) vc')) w') : o.wp Try.prog a w K Q := by
  obtain ⟨i0, hi, hz0, hz1, hz2⟩ := info_parts info5
  subst hxn; subst hl
  cases A with
  | some ad =>
    refine wp_append_own w s x 22 ho base 5 i0 (.int .u8 0) 1 1 Try.underlying22 hi hz0 hz1 hz2 rfl (by decide) _ xs.length (cellsOf xs) hs hown ad news.length c (cellsOf news) hx (by rw [cellsOf_length]; omega) ?_ (cellsOf_one _) (by unfold maxLen; omega) (by omega) hbase ?_
    · intro j u hu
      obtain ⟨ad', e', hc⟩ := rd_cells hnews j u hu
      injection e' with e'; subst e'; exact hc
    · intro v' w' h1 h2 h3
      have h4 : ∃ V' vc', v' = .slice V' (xs.length + news.length) vc' := by
        rcases h1.2 with ⟨hv, hn⟩ | ⟨g, cp, cur, hv, _⟩
        · exact ⟨none, 0, by rw [hv, hn]⟩
        · exact ⟨_, _, hv⟩
      obtain ⟨V', vc', rfl⟩ := h4
      refine h V' vc' w' ?_ h2
      unfold OwnB
      rw [List.length_append, cellsOf_append]; exact h1
  | none =>
    have hm := hnil rfl
    have : news = [] := List.length_eq_zero_iff.1 hm.1
    subst this
    obtain ⟨_, rfl⟩ := hm
    have hrun := run_append_owned_none (P := Try.prog) (w := w) base 22 o.type 5 i0 1 Try.underlying22 hi _ xs.length (cellsOf xs) hown
    unfold Oper.wp
    simp [execOp, ho, resolve, invoke, builtin, hs, hx, hrun, Result.andThen]
    exact h V vc w (by rw [List.append_nil]; exact hown) ⟨rfl, rfl, rfl, Nat.le_refl _, fun _ _ _ => rfl⟩
theorem app_bytes {w : World} {ops : Array Oper} {rest : List Oper} {o : Oper} {a : Act} {Q : Exit → Act → World → Prop} (hgd : o.guard = none) (s x : Operand)
    (ho : o.op = .call { callee := .builtin .append, args := #[s, x], argTypes := #[22, 22] })
    (base : Nat) (V : Option Addr) (vc n : Nat) (xs : List UInt8) (hs : a.eval s = .slice V n vc) (hxn : xs.length = n) (hown : OwnB w base V vc xs)
    (A : Option Addr) (m c : Nat) (news : List UInt8) (hx : a.eval x = .slice A m c) (hl : news.length = m) (hnews : Rd w A news) (hnil : A = none → m = 0 ∧ c = 0)
    (hbytes : n + m ≤ 140737488355328) (hbase : base ≤ w.heap.size)
    (h : ∀ V' vc' w', OwnB w' base V' vc' (xs ++ news) → w.grownBy w' (Value.slice V n vc).ownBlock → wpList Try.prog ops Q rest (a.put o.dst (.slice V' (n + m) vc')) w') : wpList Try.prog ops Q (o :: rest) a w :=
  wpList_plain hgd fun _ hK => app_bytes_wp s x ho base V vc n xs hs hxn hown A m c news hx hl hnews hnil hbytes hbase fun V' vc' w' h1 h2 => hK _ _ (h V' vc' w' h1 h2)
def strB (bs : List UInt8) : ByteArray := (bs.map fun c => J c).foldl (fun r n => r.push (UInt8.ofNat n.toNat)) ByteArray.empty
/-- string(b) -/
theorem conv_bytes (w : World) (A : Option Addr) (n c : Nat) (bs : List UInt8) (h : Rd w A bs) (hn : bs.length = n) (hnil : A = none → n = 0 ∧ c = 0) :
    (convert 22 9 (.slice A n c)).run Try.prog w = .ok (.string (strB bs)) w := by
  rw [run_convert_bytes_string w 22 9 5 A n c Try.underlying22 Try.underlying5 Try.underlying9]
  subst hn
  cases A with
  | some ad =>
    rw [run_bytesToString w ad bs.length c (bs.map fun c => J c)]
    · rfl
    · have := run_loadCells_list (P := Try.prog) w ad ((bs.map fun c => J c).map (Value.int .u8)) (by
        intro j v hv
        obtain ⟨ad', e', hc⟩ := rd_cells h j v (by unfold cellsOf; rw [List.map_map] at hv; exact hv)
        injection e' with e'; subst e'; exact hc)
      rw [show ((bs.map fun c => J c).map (Value.int .u8)).length = bs.length by simp] at this
      exact this
  | none =>
    obtain ⟨h0, rfl⟩ := hnil rfl
    have : bs = [] := List.length_eq_zero_iff.1 h0
    subst this
    rfl
theorem rd_kept {w w' : World} (h : Below w.heap.size w w') {a : Option Addr} {bs : List UInt8} (hr : Rd w a bs) : Rd w' a bs := by
  intro k hk
  obtain ⟨b, o, e, hc⟩ := hr k hk
  subst e
  exact ⟨b, o, rfl, by rw [h.cell (p := ⟨b, o + k, none⟩) (block_lt_of_cell hc)]; exact hc⟩
/-- a row of numbers that came in, as bytes -/
def IsRow (k : IntKind) (w : World) (a : Option Addr) (len cap : Nat) (zs : List Int) : Prop :=
  (a = none ∧ len = 0 ∧ cap = 0 ∧ zs = []) ∨
  ∃ x, a = some x ∧ len ≤ cap ∧ cap ≤ maxLen ∧ zs.length = cap ∧ (∀ i, i < zs.length → w.cell? (x.add i) = some (.int k (zs.getD i 0))) ∧ ∀ n ∈ zs, (Lit.int k n).wf = true
theorem IsRow.bytes {w : World} {a : Option Addr} {len cap : Nat} {zs : List Int} (h : IsRow .u8 w a len cap zs) :
    ∃ bs : List UInt8, bs.length = len ∧ Rd w a bs ∧ (a = none → len = 0 ∧ cap = 0) := by
  rcases h with ⟨h1, h2, h3, h4⟩ | ⟨x, h1, h2, h3, h4, h5, h6⟩
  · exact ⟨[], by rw [h2]; rfl, fun k hk => absurd hk (by simp), fun _ => ⟨h2, h3⟩⟩
  · refine ⟨(zs.take len).map fun n => UInt8.ofNat n.toNat, by simp; omega, ?_, fun e => by rw [h1] at e; cases e⟩
    intro k hk
    have hk' : k < zs.length := by simp at hk; omega
    have hk2 : k < len := by simp at hk; omega
    have hc := h5 k hk'
    obtain ⟨b, off, spot⟩ := x
    have hsp : spot = none := by
      have := hc
      unfold World.cell? Addr.add at this
      cases spot with
      | none => rfl
      | some q =>
        exfalso
        by_cases hk0 : k = 0
        · subst hk0
          simp at this
          split at this <;> simp at this
        · have h0 := h5 0 (by omega)
          unfold World.cell? Addr.add at h0
          simp at h0
          split at h0 <;> simp at h0
    subst hsp
    refine ⟨b, off, h1, ?_⟩
    rw [addr_add] at hc
    rw [hc]
    have hg : zs.getD k 0 = zs[k] := by simp [List.getD, hk']
    have hw := h6 zs[k] (List.getElem_mem hk')
    have hb : 0 ≤ zs[k] ∧ zs[k] ≤ 255 := by
      simpa [Lit.wf, IntKind.min, IntKind.max, IntKind.signed, IntKind.bits] using hw
    rw [hg]
    congr 2
    unfold J
    simp
    omega
theorem word_of {n : Int} (h : (Lit.int .u32 n).wf = true) : ∃ s : W32, n = I s := by
  have hb : 0 ≤ n ∧ n ≤ 4294967295 := by
    simpa [Lit.wf, IntKind.min, IntKind.max, IntKind.signed, IntKind.bits] using h
  refine ⟨BitVec.ofNat 32 n.toNat, ?_⟩
  unfold I
  rw [BitVec.toNat_ofNat]
  omega
theorem bal {w w' : World} {o : Obj} (h : Below (w.alloc o).heap.size (w.alloc o) w') : Below w.heap.size w w' :=
  ((Below.refl _ _).alloc (Nat.le_refl _) _).trans (h.mono (by simp))
theorem bdr {w w' : World} (h : Below w.drew.heap.size w.drew w') : Below w.heap.size w w' := ⟨h.os, h.tape, h.output, h.size, h.block⟩
theorem bch {w w1 w2 : World} (h : Below w.heap.size w w1) (h2 : Below w1.heap.size w1 w2) : Below w.heap.size w w2 := h.trans (h2.mono h.size)
theorem app_new {w w1 : World} {o : Obj} (hg : (w.alloc o).grownBy w1 (Value.slice (some ⟨w.heap.size, 0, none⟩) 0 0).ownBlock) : Below w.heap.size w w1 :=
  ((Below.refl _ _).alloc (Nat.le_refl _) _).grown hg (by simp) (by intro k hk; simp [Value.ownBlock] at hk; omega)
end Go.Proofs.Ytenkbgcmmmdhmaa
