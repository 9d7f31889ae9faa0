/-
  What the proof of the law rests on, part 4: walks of functions, and plain laws; each says its conditions itself.
-/
import Derived.Deep.Slices
import Derived.Lib.SmallJoins
import Derived.ChangeArms
import Derived.Laws.StructEq
import Derived.Test.YtkajcjefckjijaaZD3
set_option maxHeartbeats 1600000
set_option linter.unusedVariables false
set_option linter.unusedSimpArgs false
namespace Go.Proofs.Ytkajcjefckjijaa
open Go.RowKit Rt
open Fx (x_move x_assign x_field x_load1 x_conv x_indexS x_index x_leqF x_loadA x_len x_gtrF x_eqlF x_eqlT Lv sN Ln Ws Qv Wl Rp Wc Qs Wr Sb Lk Wk rV sR Rs Rn Rd Rk Wb Wx Wo WoE Wt Wone Qn Qcl Lcl Lbs Lap Lnw Lbx Stv cOs cOg sRf mRf gRf cRf oNl bGr WsJ Wro rv varr Blk ovr putI ev Stp ovr_all flat updV Mp run_loadV Cel fill_step ret0 Chg i64e Arr flat_cong cells_agg cells_one ChT ovr_ones jnN u64e appX fOne_out upd_all blkR blkN seqX blkX lpX lpN lpR retV2)
section
set_option linter.unusedVariables false
namespace Rt
theorem and1 {x : Int} (h : 0 ≤ x ∧ x ≤ 18446744073709551615) : bits .and .u64 x 1 = x % 2 := by
  obtain ⟨n, rfl⟩ := Int.eq_ofNat_of_zero_le h.1
  have e : ((BitVec.ofInt 64 (n : Int) &&& BitVec.ofInt 64 (1 : Int)).toNat : Int) = (n : Int) % 2 := by
    rw [BitVec.toNat_and, BitVec.toNat_ofInt, BitVec.toNat_ofInt]
    rw [show ((n : Int) % ((2 ^ 64 : Nat) : Int)).toNat = n by omega, show ((1 : Int) % ((2 ^ 64 : Nat) : Int)).toNat = 1 by decide, Nat.and_one_is_mod]
    omega
  show IntKind.u64.wrap ((BitVec.ofInt 64 (n : Int) &&& BitVec.ofInt 64 (1 : Int)).toNat : Int) = _
  rw [e]; exact u64e (by omega) rfl
theorem nat_and2 (n : Nat) : n &&& 2 = 2 * (n / 2 % 2) := by
  have h1 : (n &&& 2) / 2 = n / 2 % 2 := by rw [Nat.and_div_two]; exact Nat.and_one_is_mod _
  have h2 : (n &&& 2) % 2 = 0 := by rw [Nat.and_mod_two_pow (n := 1)]; simp
  omega
theorem and2 {x : Int} (h : 0 ≤ x ∧ x ≤ 18446744073709551615) : bits .and .u64 x 2 = 2 * (x / 2 % 2) := by
  obtain ⟨n, rfl⟩ := Int.eq_ofNat_of_zero_le h.1
  have e : ((BitVec.ofInt 64 (n : Int) &&& BitVec.ofInt 64 (2 : Int)).toNat : Int) = 2 * ((n : Int) / 2 % 2) := by
    rw [BitVec.toNat_and, BitVec.toNat_ofInt, BitVec.toNat_ofInt]
    rw [show ((n : Int) % ((2 ^ 64 : Nat) : Int)).toNat = n by omega, show ((2 : Int) % ((2 ^ 64 : Nat) : Int)).toNat = 2 by decide, nat_and2]
    omega
  show IntKind.u64.wrap ((BitVec.ofInt 64 (n : Int) &&& BitVec.ofInt 64 (2 : Int)).toNat : Int) = _
  rw [e]; exact u64e (by omega) rfl
section
variable {l : List UInt8} {s : Ct}
theorem cutN_add (l : List UInt8) (k a : Nat) (s : Ct) : ∀ b, cutN l k b (cutN l k a s) = cutN l k (a + b) s
  | 0 => rfl
  | b + 1 => by show cutS l (cutN l k b (cutN l k a s)) k = cutS l (cutN l k (a + b) s) k; rw [cutN_add l k a s b]
theorem rowV_add (l : List UInt8) (k a b : Nat) (s : Ct) : rowV l (cutN l k a s) k b = rowV l s k (a + b) := by unfold rowV; rw [cutN_add]
theorem row_u (k i : Nat) (hk : k ≤ 8) : U64r (rowV l s k i) := cutV_bd hk
theorem i64w_r (x : Int) : I64r (i64w x) := by
  unfold i64w IntKind.wrap I64r
  simp only [IntKind.bits, IntKind.signed]
  simp
  split <;> omega
theorem cut1 : 0 ≤ cutV l s 1 ∧ cutV l s 1 ≤ 255 := by
  unfold cutV
  split
  · exact ⟨Int.le_refl _, by decide⟩
  obtain ⟨h1, h2⟩ := val_bd ((l.drop s.1).take 1)
  have h3 : ((l.drop s.1).take 1).length ≤ 1 := by rw [List.length_take]; omega
  have : ∀ n, n ≤ 1 → (256 : Int) ^ n ≤ 256 := by decide
  have := this _ h3
  omega
theorem cut2 : 0 ≤ cutV l s 2 ∧ cutV l s 2 ≤ 65535 := by
  unfold cutV
  split
  · exact ⟨Int.le_refl _, by decide⟩
  obtain ⟨h1, h2⟩ := val_bd ((l.drop s.1).take 2)
  have h3 : ((l.drop s.1).take 2).length ≤ 2 := by rw [List.length_take]; omega
  have : ∀ n, n ≤ 2 → (256 : Int) ^ n ≤ 65536 := by decide
  have := this _ h3
  omega
def GM (l : List UInt8) (i j : Nat) : StM := ⟨fun q => if q < i then decide (rowV l (s4 l) 1 q % 2 = 1) else false, fun q => if q < j then decide (rowV l (s4 l) 1 q / 2 % 2 = 1) else false, fun _ => 0, none, 0, 0, none, 0, 0⟩
theorem GM_0 (l : List UInt8) : ∀ j, j < 20 → stY mz j = stY (GM l 0 0) j := stY_cong (m := mz) (k := GM l 0 0) (fun q _ => by show false = (if q < 0 then decide (rowV l (s4 l) 1 q % 2 = 1) else false); rw [if_neg (Nat.not_lt_zero q)]) (fun q _ => by show false = (if q < 0 then decide (rowV l (s4 l) 1 q / 2 % 2 = 1) else false); rw [if_neg (Nat.not_lt_zero q)]) (fun _ _ => rfl) rfl rfl
theorem set_lt {P : Nat → Bool} {i q : Nat} {v : Bool} (hv : v = P i) : (if q = i then v else if q < i then P q else false) = (if q < i + 1 then P q else false) := by
  by_cases e : q = i
  · rw [if_pos e, if_pos (by omega), e, hv]
  rw [if_neg e]
  by_cases c : q < i
  · rw [if_pos c, if_pos (by omega)]
  rw [if_neg c, if_neg (by omega)]
theorem stY_setIn (M : StM) {i : Nat} {v : Bool} (hi : i < 6) : ∀ j, j < 20 → updV (stY M) i (.bool v) j = stY { M with inn := fun q => if q = i then v else M.inn q } j := fun j hj => by
  unfold updV
  by_cases c1 : j < 6
  · rw [stY_in _ c1, stY_in _ c1]; show _ = Value.bool (if j = i then v else M.inn j); split <;> rfl
  · rw [if_neg (by omega)]; unfold stY; rw [if_neg c1, if_neg c1]
theorem stY_setLeft (M : StM) {i p : Nat} {v : Bool} (hi : i < 6) (hp : p = 6 + i) : ∀ j, j < 20 → updV (stY M) p (.bool v) j = stY { M with left := fun q => if q = i then v else M.left q } j := fun j hj => by
  subst hp
  unfold updV
  by_cases c1 : j < 6
  · rw [if_neg (by omega), stY_in _ c1, stY_in _ c1]
  · by_cases c2 : j < 12
    · rw [stY_left (p := j - 6) M (by omega) (by omega), stY_left (p := j - 6) _ (by omega) (by omega)]
      show _ = Value.bool (if j - 6 = i then v else M.left (j - 6))
      by_cases e : j = 6 + i
      · rw [if_pos e, if_pos (by omega)]
      · rw [if_neg e, if_neg (by omega)]
    · rw [if_neg (by omega)]; unfold stY; rw [if_neg c1, if_neg c1, if_neg c2, if_neg c2]
theorem G_in {i : Nat} {v : Bool} (hi : i < 6) (hv : v = decide (rowV l (s4 l) 1 i % 2 = 1)) : ∀ j, j < 20 → updV (stY (GM l i i)) i (.bool v) j = stY (GM l (i + 1) i) j := fun j hj => by
  rw [stY_setIn _ hi j hj]
  exact stY_cong (m := { GM l i i with inn := fun q => if q = i then v else (GM l i i).inn q }) (k := GM l (i + 1) i) (fun q _ => set_lt (P := fun q => decide (rowV l (s4 l) 1 q % 2 = 1)) hv) (fun _ _ => rfl) (fun _ _ => rfl) rfl rfl j hj
theorem G_left {i p : Nat} {v : Bool} (hi : i < 6) (hp : p = 6 + i) (hv : v = decide (rowV l (s4 l) 1 i / 2 % 2 = 1)) : ∀ j, j < 20 → updV (stY (GM l (i + 1) i)) p (.bool v) j = stY (GM l (i + 1) (i + 1)) j := fun j hj => by
  rw [stY_setLeft _ hi hp j hj]
  exact stY_cong (m := { GM l (i + 1) i with left := fun q => if q = i then v else (GM l (i + 1) i).left q }) (k := GM l (i + 1) (i + 1)) (fun _ _ => rfl) (fun q _ => set_lt (P := fun q => decide (rowV l (s4 l) 1 q / 2 % 2 = 1)) hv) (fun _ _ => rfl) rfl rfl j hj
def GN (l : List UInt8) (na : Option Addr) (nn nc : Nat) (ga : Option Addr) (gn gc : Nat) : StM := ⟨fun i => decide (rowV l (s4 l) 1 i % 2 = 1), fun i => decide (rowV l (s4 l) 1 i / 2 % 2 = 1), fun i => rowV l (s10 l) 8 i, na, nn, nc, ga, gn, gc⟩
theorem G_known (l : List UInt8) : ∀ j, j < 20 → ovr (stY (GM l 6 6)) 12 6 (rv .u64 (rowV l (s10 l) 8)) j = stY (GN l none 0 0 none 0 0) j := fun j hj => by
  unfold ovr
  by_cases c : 12 ≤ j ∧ j < 12 + 6
  · rw [if_pos c]; exact (stY_known (p := j - 12) (q := j) (GN l none 0 0 none 0 0) (by omega) (by omega)).symm
  · rw [if_neg c]
    by_cases c1 : j < 6
    · rw [stY_in _ c1, stY_in _ c1]; exact congrArg Value.bool (if_pos c1)
    · by_cases c2 : j < 12
      · rw [stY_left (p := j - 6) _ (by omega) (by omega), stY_left (p := j - 6) _ (by omega) (by omega)]; exact congrArg Value.bool (if_pos (by omega))
      · have h18 : ¬ j < 18 := by omega
        unfold stY; rw [if_neg c1, if_neg c1, if_neg c2, if_neg c2, if_neg h18, if_neg h18]; rfl
theorem stY_18 (M : StM) : stY M 18 = .slice M.na M.nn M.nc := rfl
theorem stY_19 (M : StM) : stY M 19 = .slice M.ga M.gn M.gc := rfl
theorem G_ns {na na' ga : Option Addr} {nn nc nn' nc' gn gc : Nat} : ∀ j, j < 20 → updV (stY (GN l na nn nc ga gn gc)) 18 (.slice na' nn' nc') j = stY (GN l na' nn' nc' ga gn gc) j := fun j hj => by
  unfold updV
  by_cases e : j = 18
  · subst e; rw [if_pos rfl, stY_18]; rfl
  · rw [if_neg e]
    by_cases c1 : j < 6
    · rw [stY_in _ c1, stY_in _ c1]; rfl
    · by_cases c2 : j < 12
      · rw [stY_left (p := j - 6) _ (by omega) (by omega), stY_left (p := j - 6) _ (by omega) (by omega)]; rfl
      · by_cases c3 : j < 18
        · rw [stY_known (p := j - 12) _ (by omega) (by omega), stY_known (p := j - 12) _ (by omega) (by omega)]; rfl
        · have : j = 19 := by omega
          subst this; rw [stY_19, stY_19]; rfl
theorem G_gs {na ga ga' : Option Addr} {nn nc gn gc gn' gc' : Nat} : ∀ j, j < 20 → updV (stY (GN l na nn nc ga gn gc)) 19 (.slice ga' gn' gc') j = stY (GN l na nn nc ga' gn' gc') j := fun j hj => by
  unfold updV
  by_cases e : j = 19
  · subst e; rw [if_pos rfl, stY_19]; rfl
  · rw [if_neg e]
    by_cases c1 : j < 6
    · rw [stY_in _ c1, stY_in _ c1]; rfl
    · by_cases c2 : j < 12
      · rw [stY_left (p := j - 6) _ (by omega) (by omega), stY_left (p := j - 6) _ (by omega) (by omega)]; rfl
      · by_cases c3 : j < 18
        · rw [stY_known (p := j - 12) _ (by omega) (by omega), stY_known (p := j - 12) _ (by omega) (by omega)]; rfl
        · have : j = 18 := by omega
          subst this; rw [stY_18, stY_18]; rfl
theorem G_end {na ga : Option Addr} {nc gc : Nat} : stY (GN l na (nsV l).1.length nc ga (gsV l).1.length gc) = stY (stS (rawV l) na nc ga gc) := by unfold GN stS rawV; rfl
def ndQ (l : List UInt8) (s : Ct) (q : Nat) : NdM := ⟨rowV l s 8 0, rowV l s 8 1, fun p => if p < 6 * q then i64w (rowV l s 8 (2 + p)) else 0⟩
theorem ndZ_R' (x : NdM) {j p : Nat} (h : j = p + 2) : ndZ x j = Ki6 (x.R p) := by subst h; unfold ndZ ndY; rw [if_neg (by omega), if_neg (by omega)]; rfl
theorem nq_step {q : Nat} (hq : q < 9) : ∀ j, j < 56 → ovr (ndZ (ndQ l s q)) (2 + 6 * q) 6 (rv .i64 (fun i => i64w (rowV l (cutN l 8 (2 + 6 * q) s) 8 i))) j = ndZ (ndQ l s (q + 1)) j := fun j hj => by
  unfold ovr
  by_cases c0 : j = 0
  · subst c0; rw [if_neg (by omega)]; rfl
  · by_cases c1 : j = 1
    · subst c1; rw [if_neg (by omega)]; rfl
    · obtain ⟨p, rfl⟩ : ∃ p, j = p + 2 := ⟨j - 2, by omega⟩
      rw [ndZ_R' (ndQ l s (q + 1)) rfl]
      show _ = Value.int .i64 (if p < 6 * (q + 1) then i64w (rowV l s 8 (2 + p)) else 0)
      by_cases c : 2 + 6 * q ≤ p + 2 ∧ p + 2 < 2 + 6 * q + 6
      · rw [if_pos c, if_pos (by omega)]
        show Value.int .i64 (i64w (rowV l (cutN l 8 (2 + 6 * q) s) 8 (p + 2 - (2 + 6 * q)))) = _
        rw [rowV_add, show 2 + 6 * q + (p + 2 - (2 + 6 * q)) = 2 + p by omega]
      · rw [if_neg c, ndZ_R' (ndQ l s q) rfl]
        show Value.int .i64 (if p < 6 * q then i64w (rowV l s 8 (2 + p)) else 0) = _
        by_cases c3 : p < 6 * q
        · rw [if_pos c3, if_pos (by omega)]
        · rw [if_neg c3, if_neg (by omega)]
theorem nq_end : ∀ j, j < 56 → ndZ (ndQ l s 9) j = ndZ (ndV l s) j := fun j hj => by
  match j, hj with
  | 0, _ => rfl
  | 1, _ => rfl
  | p + 2, hj => rw [ndZ_R' (ndQ l s 9) rfl, ndZ_R' (ndV l s) rfl]; exact congrArg (Value.int .i64) (if_pos (by omega))
theorem nds_step {r : Nat} (h : 0 < r) (hs : s.2 = false) : ndsV l r s = (ndV l s :: (ndsV l (r - 1) (ndS l s)).1, (ndsV l (r - 1) (ndS l s)).2) := by
  cases r with
  | zero => cases h
  | succ r =>
    show (if s.2 = true then ([], s) else (ndV l s :: (ndsV l r (ndS l s)).1, (ndsV l r (ndS l s)).2)) = _
    exact if_neg (by rw [hs]; decide)
theorem nds_end {r : Nat} (h : r = 0 ∨ s.2 = true) : ndsV l r s = ([], s) := by
  cases r with
  | zero => rfl
  | succ r =>
    show (if s.2 = true then ([], s) else (ndV l s :: (ndsV l r (ndS l s)).1, (ndsV l r (ndS l s)).2)) = _
    exact if_pos (h.resolve_left (by omega))
theorem grs_step {r : Nat} (h : 0 < r) (hs : s.2 = false) : grsV l r s = (grV l s :: (grsV l (r - 1) (grS l s)).1, (grsV l (r - 1) (grS l s)).2) := by
  cases r with
  | zero => cases h
  | succ r =>
    show (if s.2 = true then ([], s) else (grV l s :: (grsV l r (grS l s)).1, (grsV l r (grS l s)).2)) = _
    exact if_neg (by rw [hs]; decide)
theorem grs_end {r : Nat} (h : r = 0 ∨ s.2 = true) : grsV l r s = ([], s) := by
  cases r with
  | zero => rfl
  | succ r =>
    show (if s.2 = true then ([], s) else (grV l s :: (grsV l r (grS l s)).1, (grsV l r (grS l s)).2)) = _
    exact if_pos (h.resolve_left (by omega))
theorem ol_step {α : Type} {ol a : List α} {x : α} {t : List α} {S : Ct} {p : List α × Ct} (h : ol ++ p.1 = a) (e : p = (x :: t, S)) : (ol ++ [x]) ++ t = a := by rw [← h, e]; simp
theorem ndsV_r : ∀ (n : Nat) (s : Ct), (∀ x ∈ (ndsV l n s).1, NdR x) ∧ (ndsV l n s).1.length ≤ n
  | 0, s => ⟨fun x hx => (nomatch hx), Nat.le_refl _⟩
  | n + 1, s => by
    unfold ndsV
    split
    · exact ⟨fun x hx => (nomatch hx), Nat.zero_le _⟩
    · obtain ⟨h1, h2⟩ := ndsV_r n (ndS l s)
      refine ⟨fun x hx => ?_, Nat.succ_le_succ h2⟩
      rcases List.mem_cons.1 hx with rfl | hx
      · exact ⟨row_u _ _ (by decide), row_u _ _ (by decide), fun p _ => i64w_r _⟩
      · exact h1 x hx
theorem grsV_r : ∀ (n : Nat) (s : Ct), (∀ x ∈ (grsV l n s).1, GrR x) ∧ (grsV l n s).1.length ≤ n
  | 0, s => ⟨fun x hx => (nomatch hx), Nat.le_refl _⟩
  | n + 1, s => by
    unfold grsV
    split
    · exact ⟨fun x hx => (nomatch hx), Nat.zero_le _⟩
    · obtain ⟨h1, h2⟩ := grsV_r n (grS l s)
      refine ⟨fun x hx => ?_, Nat.succ_le_succ h2⟩
      rcases List.mem_cons.1 hx with rfl | hx
      · have := @cut1 l s
        exact ⟨⟨by show -9223372036854775808 ≤ cutV l s 1; omega, by show cutV l s 1 ≤ 9223372036854775807; omega⟩, row_u _ _ (by decide), row_u _ _ (by decide), i64w_r _, row_u _ _ (by decide)⟩
      · exact h1 x hx
theorem nn_le : nnV l ≤ 65535 := by unfold nnV; have := @cut2 l (s58 l); omega
theorem gn_le : gnV l ≤ 65535 := by unfold gnV; have := @cut2 l (nsV l).2; omega
theorem raw_r : SnR (rawV l) := ⟨fun i _ => row_u _ _ (by decide), (ndsV_r _ _).1, (grsV_r _ _).1⟩
theorem raw_len : (rawV l).ns.length ≤ 65535 ∧ (rawV l).gs.length ≤ 65535 := ⟨Nat.le_trans (ndsV_r _ _).2 nn_le, Nat.le_trans (grsV_r _ _).2 gn_le⟩
end
open Classical in
theorem get_y {l : List UInt8} (h : GetP l) : getV l = rawV l ∧ getE l = 0 := ⟨if_pos h, if_pos h⟩
open Classical in
theorem get_n {l : List UInt8} (h : ¬ GetP l) : getV l = sn0 ∧ getE l = 5 := ⟨if_neg h, if_neg h⟩
open Classical in
theorem getV_r (l : List UInt8) : SnR (getV l) ∧ (getV l).ns.length ≤ 65535 ∧ (getV l).gs.length ≤ 65535 := by
  unfold getV; split
  · exact ⟨raw_r, raw_len⟩
  exact ⟨sn0_r, Nat.zero_le _, Nat.zero_le _⟩
end Rt
end
set_option linter.unusedVariables false
theorem Rt.nq_zero {l : List UInt8} {s : Ct} {z : Nat → Value} (hz : ∀ p, z (p + 2) = Ki6 0) : ∀ j, j < 56 → ovr (ovr z 0 1 (fun _ => Ku6 (rowV l s 8 0))) 1 1 (fun _ => Ku6 (rowV l s 8 1)) j = ndZ (ndQ l s 0) j := fun j hj => by
  match j, hj with
  | 0, _ => rfl
  | 1, _ => rfl
  | p + 2, hj =>
    unfold ovr
    rw [if_neg (by omega), if_neg (by omega), hz, ndZ_R' (ndQ l s 0) rfl]
    show Value.int .i64 0 = Value.int .i64 (if p < 6 * 0 then i64w (rowV l s 8 (2 + p)) else 0)
    rw [if_neg (by omega)]
theorem b_equal (aa ba : Option Addr) (na ca nb cb : Nat) (la lb : List UInt8) (w : World) (hla : na = la.length) (hlb : nb = lb.length) (ha : Arr w aa na 1 (Fx.byY la)) (hb : Arr w ba nb 1 (Fx.byY lb)) :
    Calls Try.prog 33 #[.slice aa (na) (ca), .slice ba (nb) (cb)] w fun e w' => e = .returned (.bool (decide (la = lb))) ∧ w' = w := by
 refine Kent Try.func33 10 ?_
 refine KWsl (KLq KbF (KLe (KWsl (KLq (.slice aa (na) (ca)) (Lv (.string (Fx.strL la)) (Fx.x_bstr (l := la) rfl rfl Try.underlying30 Try.underlying5 Try.underlying9 hla ha) (KLq (.slice ba (nb) (cb)) (Lv (.string (Fx.strL lb)) (Fx.x_bstr (l := lb) rfl rfl Try.underlying30 Try.underlying5 Try.underlying9 hlb hb) (Lv (.bool (decide (la = lb))) (Fx.x_eqlS rfl rfl rfl) (KLq (.bool (decide (la = lb))) (KLe (Wr (Kret (.bool (decide (la = lb))) ?_))))))))))))
 exact ⟨rfl, rfl⟩
set_option maxRecDepth 20000 in
set_option maxHeartbeats 8000000 in
theorem s_get (a : Option Addr) (n c : Nat) (l : List UInt8) (w : World) (hn : n = l.length) (hc : n ≤ c) (hl : n ≤ 100000000) (hb : Arr w a n 1 (Fx.byY l)) :
    Calls Try.prog 10 #[.slice a (n) (c)] w fun e w' => ∃ na nc ga gc, e = .returned (.tuple #[.agg (varr 20 (stY (stS (getV l) na nc ga gc))), Ki6 (getE l)]) ∧ Fx.Own w' w.heap.size 50 56 (.slice na (getV l).ns.length nc) (getV l).ns.length (ndsX (getV l).ns) ∧ Fx.Own w' w.heap.size 59 5 (.slice ga (getV l).gs.length gc) (getV l).gs.length (grsX (getV l).gs) ∧ Below w.heap.size w w' := by
 refine Kent Try.func10 128 ?_
 refine KWsl (Lnw (m := 20) (y := fun zq => if zq < 12 then .bool false else if zq < 18 then Ku6 0 else .slice none 0 0) (by rfl) rfl (by kernel_rfl) rfl fun g1 w1 eg1 m1 s1 z1 => ?_)
 have b1 := KTk1 s1.old (Below.refl w.heap.size w)
 have lg1 := KGk0 eg1
 have tg1 := m1.lt
 refine KLq (Ki6 0) (KLe (KWsl (KLq (.slice a (n) (c)) (KLq (.agg (varr 3 (ovr (fun zq => if zq < 1 then .slice none 0 0 else if zq < 2 then Ki6 0 else .bool false) 0 1 (fun _ => .slice a (n) (c))))) (KLb fun g2 w2 eg2 m2 s2 z2 => ?_)))))
 have ⟨m3, b2⟩ := KTk2 s2.old m1 b1
 have lg2 := KGk eg2 b1.size
 have ng2m3 := KNk1 eg2 m1.lt
 have tg2 := m2.lt
 refine KLq ((pt g2)) (KLe (Ws ?_))
 have m4 : Blk w2 g2 3 (ctY a n c (0, false)) 66 := m2.congr (fun j hj => match j, hj with | 0, _ => rfl | 1, _ => rfl | 2, _ => rfl | j + 3, h => absurd h (by omega))
 refine Wl (KLq ((pt g2)) (KLc1 (c_number g2 a n c l (0, false) 4 _ (by decide) (by rw [hn]; exact Nat.zero_le _) hn hc hl (hb.up b2 rfl) m4) _ rfl ?_))
 rintro w3 ⟨hq1, s3⟩
 have hct1 := cOs s3 m4.ty
 have m6 := KCk1 hct1 m3
 have b3 := s3.below b2 b2.size (by omega)
 have m5 : Blk w3 g2 3 (ctY a n c (Rt.s4 l)) 66 := hq1
 refine KLe (KWsl (Lnw (m := 20) (y := fun zq => if zq < 12 then .bool false else if zq < 18 then Ku6 0 else .slice none 0 0) (by rfl) rfl (by kernel_rfl) rfl fun g3 w4 eg3 m7 s4 z3 => ?_))
 have ⟨m8, m9, b4⟩ := KTk3 s4.old m6 m5 b3
 have lg3 := KGk eg3 b3.size
 have ⟨ng3m8, ng3m9⟩ := KNk2 eg3 m6.lt m5.lt
 have tg3 := m7.lt
 refine KLe (Ws (Ws ?_))
 have m10 : Blk w4 g3 20 (stY mz) 29 := m7.congr (fun j hj => match j, hj with | 0, _ => rfl | 1, _ => rfl | 2, _ => rfl | 3, _ => rfl | 4, _ => rfl | 5, _ => rfl | 6, _ => rfl | 7, _ => rfl | 8, _ => rfl | 9, _ => rfl | 10, _ => rfl | 11, _ => rfl | 12, _ => rfl | 13, _ => rfl | 14, _ => rfl | 15, _ => rfl | 16, _ => rfl | 17, _ => rfl | 18, _ => rfl | 19, _ => rfl | j + 20, h => absurd h (by omega))
 have m11 : Blk w4 g3 20 (stY (GM l 0 0)) 29 := m10.congr (GM_0 l)
 refine Wl (KLq (Ki6 0) (KLe (Wb (Wo (fun f w_ => ∃ i : Nat, i ≤ 6 ∧ f 0 = .slice a (n) (c) ∧ f 2 = (pt g1) ∧ f 4 = (pt g2) ∧ f 5 = (pt g3) ∧ f 19 = Ki6 ((i : Int)) ∧ Blk w_ g1 20 (fun zq => if zq < 12 then .bool false else if zq < 18 then Ku6 0 else .slice none 0 0) 29 ∧ Blk w_ g2 3 (ctY a n c (cutN l 1 i (Rt.s4 l))) 66 ∧ Blk w_ g3 20 (stY (GM l i i)) 29 ∧ Below w.heap.size w w_) (fun f _ => (6 - (intOf (f 19)).toNat)) ⟨0, by omega, (by rfl), (by rfl), (by rfl), (by rfl), Fx.ic, m8, m9, m11, b4⟩ ?_))))
 rintro f1 w5 ⟨i, hi, h1, h2, h3, h4, h5, m12, m13, m14, b5⟩
 refine KWsl ?_
 by_cases c20 : (i : Int) < 6
 ·refine Lv KbT (KltT c20 (hx := h5)) (KLe (Ws (KWcT (Wk (sN (Ws (Wb (KWsl (KLh h5 (KLq (Ki6 i) (KLe (KWsl (KLh h3 (KLc1 (c_number g2 a n c l (cutN l 1 i (Rt.s4 l)) 1 _ (by decide) (by rw [hn]; exact cutN_le (cut_le (Nat.zero_le _)) i) hn hc hl (hb.up b5 rfl) m13) _ rfl ?_))))))))))))))
  rintro w6 ⟨hq2, s5⟩
  have hct2 := cOs s5 m13.ty
  have ⟨m16, m17⟩ := KCk2 hct2 m12 m14
  have b6 := s5.below b5 b5.size (by omega)
  have m15 : Blk w6 g2 3 (ctY a n c (cutN l 1 (i + 1) (Rt.s4 l))) 66 := hq2
  refine KLq (Ku6 (rowV l (Rt.s4 l) 1 i)) (KLe (Wl (KLq (Ki6 i) (KLq (Ki6 i) (KLq (Ku6 (rowV l (Rt.s4 l) 1 i)) (Lv (Ku6 (rowV l (Rt.s4 l) 1 i % 2)) (Fx.x_and rfl rfl rfl (and1 (row_u _ _ (by decide)))) ?_))))))
  by_cases c28 : (rowV l (Rt.s4 l) 1 i % 2) = 0
  ·refine Lv KbF (KneF c28) (KLq (Ku6 (rowV l (Rt.s4 l) 1 i)) (Lv (Ku6 (2 * (rowV l (Rt.s4 l) 1 i / 2 % 2))) (Fx.x_and rfl rfl rfl (and2 (row_u _ _ (by decide)))) ?_))
   by_cases c31 : (2 * (rowV l (Rt.s4 l) 1 i / 2 % 2)) = 0
   ·refine Lv KbF (KneF c31) (Lv ((pt g3)) (Kxf h4 0) (Lv ((pf g3 i)) (Kxj 6 1) (KLs m17 i KbF fun w7 m18 s6 z4 => ?_)))
    have m19 : Blk w7 g3 20 (stY (GM l (i + 1) i)) 29 := m18.congr (G_in (by omega) (by rw [decide_eq_false (by omega)]))
    have m20 := m16.stp s6 (by omega)
    have hct3 := cOs s6 m17.ty
    have m21 := KCk1 hct3 m15
    have b7 := s6.below b6 b6.size (by omega)
    refine Lv ((pf g3 6)) (Kxf h4 6) (Lv ((pf g3 (i + 6))) (Kxj 6 1) (KLs m19 (i + 6) KbF fun w8 m22 s7 z5 => ?_))
    have m23 : Blk w8 g3 20 (stY (GM l (i + 1) (i + 1))) 29 := m22.congr (G_left (by omega) (by omega) (by rw [decide_eq_false (by omega)]))
    have m24 := m20.stp s7 (by omega)
    have hct4 := cOs s7 m19.ty
    have m25 := KCk1 hct4 m21
    have b8 := s7.below b7 b7.size (by omega)
    refine Ln (blkN (sN (Wl (Lv (Ki6 ((i : Int) + 1)) (KxP (hx := h5)) (KLq (Ki6 ((i : Int) + 1)) (Ln (lpN ⟨i + 1, by omega, h1, h2, h3, h4, Fx.ic, m24, m25, m23, b8⟩ ?_)))))))
    show (6 - (intOf ((Ki6 ((i : Int) + 1)))).toNat) < _
    simp only [h5, intOf]; omega
   refine Lv KbT (KneT c31) (Lv ((pt g3)) (Kxf h4 0) (Lv ((pf g3 i)) (Kxj 6 1) (KLs m17 i KbF fun w9 m26 s8 z6 => ?_)))
   have m27 : Blk w9 g3 20 (stY (GM l (i + 1) i)) 29 := m26.congr (G_in (by omega) (by rw [decide_eq_false (by omega)]))
   have m28 := m16.stp s8 (by omega)
   have hct5 := cOs s8 m17.ty
   have m29 := KCk1 hct5 m15
   have b9 := s8.below b6 b6.size (by omega)
   refine Lv ((pf g3 6)) (Kxf h4 6) (Lv ((pf g3 (i + 6))) (Kxj 6 1) (KLs m27 (i + 6) KbT fun w10 m30 s9 z7 => ?_))
   have m31 : Blk w10 g3 20 (stY (GM l (i + 1) (i + 1))) 29 := m30.congr (G_left (by omega) (by omega) (by exact (decide_eq_true (show rowV l (Rt.s4 l) 1 i / 2 % 2 = 1 by omega)).symm))
   have m32 := m28.stp s9 (by omega)
   have hct6 := cOs s9 m27.ty
   have m33 := KCk1 hct6 m29
   have b10 := s9.below b9 b9.size (by omega)
   refine Ln (blkN (sN (Wl (Lv (Ki6 ((i : Int) + 1)) (KxP (hx := h5)) (KLq (Ki6 ((i : Int) + 1)) (Ln (lpN ⟨i + 1, by omega, h1, h2, h3, h4, Fx.ic, m32, m33, m31, b10⟩ ?_)))))))
   show (6 - (intOf ((Ki6 ((i : Int) + 1)))).toNat) < _
   simp only [h5, intOf]; omega
  refine Lv KbT (KneT c28) (KLq (Ku6 (rowV l (Rt.s4 l) 1 i)) (Lv (Ku6 (2 * (rowV l (Rt.s4 l) 1 i / 2 % 2))) (Fx.x_and rfl rfl rfl (and2 (row_u _ _ (by decide)))) ?_))
  by_cases c31 : (2 * (rowV l (Rt.s4 l) 1 i / 2 % 2)) = 0
  ·refine Lv KbF (KneF c31) (Lv ((pt g3)) (Kxf h4 0) (Lv ((pf g3 i)) (Kxj 6 1) (KLs m17 i KbT fun w11 m34 s10 z8 => ?_)))
   have m35 : Blk w11 g3 20 (stY (GM l (i + 1) i)) 29 := m34.congr (G_in (by omega) (by exact (decide_eq_true (show rowV l (Rt.s4 l) 1 i % 2 = 1 by omega)).symm))
   have m36 := m16.stp s10 (by omega)
   have hct7 := cOs s10 m17.ty
   have m37 := KCk1 hct7 m15
   have b11 := s10.below b6 b6.size (by omega)
   refine Lv ((pf g3 6)) (Kxf h4 6) (Lv ((pf g3 (i + 6))) (Kxj 6 1) (KLs m35 (i + 6) KbF fun w12 m38 s11 z9 => ?_))
   have m39 : Blk w12 g3 20 (stY (GM l (i + 1) (i + 1))) 29 := m38.congr (G_left (by omega) (by omega) (by rw [decide_eq_false (by omega)]))
   have m40 := m36.stp s11 (by omega)
   have hct8 := cOs s11 m35.ty
   have m41 := KCk1 hct8 m37
   have b12 := s11.below b11 b11.size (by omega)
   refine Ln (blkN (sN (Wl (Lv (Ki6 ((i : Int) + 1)) (KxP (hx := h5)) (KLq (Ki6 ((i : Int) + 1)) (Ln (lpN ⟨i + 1, by omega, h1, h2, h3, h4, Fx.ic, m40, m41, m39, b12⟩ ?_)))))))
   show (6 - (intOf ((Ki6 ((i : Int) + 1)))).toNat) < _
   simp only [h5, intOf]; omega
  refine Lv KbT (KneT c31) (Lv ((pt g3)) (Kxf h4 0) (Lv ((pf g3 i)) (Kxj 6 1) (KLs m17 i KbT fun w13 m42 s12 z10 => ?_)))
  have m43 : Blk w13 g3 20 (stY (GM l (i + 1) i)) 29 := m42.congr (G_in (by omega) (by exact (decide_eq_true (show rowV l (Rt.s4 l) 1 i % 2 = 1 by omega)).symm))
  have m44 := m16.stp s12 (by omega)
  have hct9 := cOs s12 m17.ty
  have m45 := KCk1 hct9 m15
  have b13 := s12.below b6 b6.size (by omega)
  refine Lv ((pf g3 6)) (Kxf h4 6) (Lv ((pf g3 (i + 6))) (Kxj 6 1) (KLs m43 (i + 6) KbT fun w14 m46 s13 z11 => ?_))
  have m47 : Blk w14 g3 20 (stY (GM l (i + 1) (i + 1))) 29 := m46.congr (G_left (by omega) (by omega) (by exact (decide_eq_true (show rowV l (Rt.s4 l) 1 i / 2 % 2 = 1 by omega)).symm))
  have m48 := m44.stp s13 (by omega)
  have hct10 := cOs s13 m43.ty
  have m49 := KCk1 hct10 m45
  have b14 := s13.below b13 b13.size (by omega)
  refine Ln (blkN (sN (Wl (Lv (Ki6 ((i : Int) + 1)) (KxP (hx := h5)) (KLq (Ki6 ((i : Int) + 1)) (Ln (lpN ⟨i + 1, by omega, h1, h2, h3, h4, Fx.ic, m48, m49, m47, b14⟩ ?_)))))))
  show (6 - (intOf ((Ki6 ((i : Int) + 1)))).toNat) < _
  simp only [h5, intOf]; omega
 refine Lv KbF (KltF c20 (hx := h5)) (KLe (Ws (KWcF (Wx (seqX (lpX (blkX (sN (Ws ?_)))))))))
 have ei6 : i = 6 := by omega
 have m50 : Blk w5 g3 20 (stY (GM l 6 6)) 29 := by have q9 := m14; rw [ei6] at q9; exact q9
 have m51 : Blk w5 g2 3 (ctY a n c (Rt.s10 l)) 66 := by have q9 := m13; rw [ei6] at q9; exact q9
 refine Wl (KLh h3 (Lv ((pf g3 12)) (Kxf h4 12) (Lv (.slice (some ⟨g3, 12, none⟩) (6) (6)) (Fx.x_sliceArr rfl rfl Try.underlying25 (s := 1) (by kernel_rfl)) (KLc1 (c_manyu g2 g3 a n c l (Rt.s10 l) 12 6 6 (stY (GM l 6 6)) _ (by rw [hn]; exact cutN_le (cut_le (Nat.zero_le _)) 6) hn hc hl (by decide) (fun w9 h9 => hb.up (h9.below b5 (by rintro k9 (h8 | h8) <;> omega) b5.size) rfl) m51 m50) _ rfl ?_))))
 rintro w15 ⟨hq3, hqt1, hcg1⟩
 have m54 := m12.chg hcg1 (show ¬ (g1 = g2 ∨ g1 = g3) by omega)
 have b15 := hcg1.below b5 (by rintro k9 (h9 | h9) <;> omega) b5.size
 have m52 : Blk w15 g2 3 (ctY a n c (Rt.s58 l)) 66 := hq3
 have m53 : Blk w15 g3 20 (stY (GN l none 0 0 none 0 0)) 29 := hqt1.congr (G_known l)
 refine KLe (Ws (KWsl (KLh h3 (KLc1 (c_number g2 a n c l (Rt.s58 l) 2 _ (by decide) (by rw [hn]; exact cutN_le (cutN_le (cut_le (Nat.zero_le _)) 6) 6) hn hc hl (hb.up b15 rfl) m52) _ rfl ?_))))
 rintro w16 ⟨hq4, s14⟩
 have hct11 := cOs s14 m52.ty
 have ⟨m56, m57⟩ := KCk2 hct11 m54 m53
 have b16 := s14.below b15 b15.size (by omega)
 have m55 : Blk w16 g2 3 (ctY a n c (Rt.s60 l)) 66 := hq4
 refine KLq (Ku6 (cutV l (Rt.s58 l) 2)) (KLe (Wb ?_))
 have m58 : Fx.Own w16 w.heap.size 50 56 (.slice none (0) (0)) 0 (ndsX ([])) := oNl _ _ _ _ _
 obtain ⟨k9N, hk9N⟩ : ∃ q, q = nnV l := ⟨_, rfl⟩
 refine WoE (fun kE f w_ => ∃ r : Nat, ∃ s : Ct, ∃ ol : List NdM, ∃ n9 : Nat, ∃ ao : Option Addr, ∃ co : Nat, kE = r ∧ s.1 ≤ l.length ∧ ol ++ (ndsV l r s).1 = (nsV l).1 ∧ (ndsV l r s).2 = (nsV l).2 ∧ n9 = ol.length ∧ n9 + r ≤ 65535 ∧ f 0 = .slice a (n) (c) ∧ f 2 = (pt g1) ∧ f 4 = (pt g2) ∧ f 5 = (pt g3) ∧ f 8 = Ku6 ((r : Int)) ∧ Blk w_ g1 20 (fun zq => if zq < 12 then .bool false else if zq < 18 then Ku6 0 else .slice none 0 0) 29 ∧ Blk w_ g2 3 (ctY a n c s) 66 ∧ Blk w_ g3 20 (stY (GN l ao n9 co none 0 0)) 29 ∧ Fx.Own w_ w.heap.size 50 56 (.slice ao (n9) (co)) n9 (ndsX ol) ∧ Below w.heap.size w w_) (k9N) ⟨k9N, Rt.s60 l, [], 0, none, 0, rfl, (cut_le (cutN_le (cutN_le (cut_le (Nat.zero_le _)) 6) 6)), (by rw [hk9N]; rfl), (by rw [hk9N]; rfl), rfl, (by have := @nn_le l; omega), h1, h2, h3, h4, (congrArg (Value.int .u64) (by rw [hk9N]; exact (Int.toNat_of_nonneg (cutV_bd (by decide)).1).symm)), m56, m55, m57, m58, b16⟩ ?_
 rintro kE f2 w17 ⟨r, s, ol, n9, ao, co, hkE, hs, hol, hst, hnl, hr, h6, h7, h8, h9, h10, m59, m60, m61, m62, b17⟩
 refine Ws (KWsl (KLh h10 ?_))
 by_cases c44 : 0 < (r : Int)
 ·refine Lv KbT (KgtT c44) (KLq KbT (KLh h8 (KLq ((pt g2)) (KLq ((pf g2 2)) ?_))))
  by_cases c49 : s.2 = true
  ·refine Lv KbT (Kxl m60.cel 2 ((show _ = Value.bool s.2 from rfl).trans (congrArg Value.bool c49))) (KLq KbF (KLq KbF (KLe (KWcF (Wx (seqX (lpX (blkX (sN (Ws (Ws ?_)))))))))))
   have he9N := nds_end (l := l) (r := r) (s := s) (.inr c49)
   have eoN : ol = (nsV l).1 := by have q9 := hol; rw [he9N] at q9; simpa using q9
   have esN : s = (nsV l).2 := by have q9 := hst; rw [he9N] at q9; exact q9
   have m63 : Blk w17 g2 3 (ctY a n c ((nsV l).2)) 66 := by have q9 := m60; rw [esN] at q9; exact q9
   have hsN : (nsV l).2.1 ≤ l.length := by rw [← esN]; exact hs
   have hnN : n9 = (nsV l).1.length := by rw [← eoN]; exact hnl
   have m64 : Fx.Own w17 w.heap.size 50 56 (.slice ao (n9) (co)) n9 (ndsX (nsV l).1) := by have q9 := m62; rw [eoN] at q9; exact q9
   refine Wl (KLh h8 (KLc1 (c_number g2 a n c l ((nsV l).2) 2 _ (by decide) (by rw [hn]; exact hsN) hn hc hl (hb.up b17 rfl) m63) _ rfl ?_))
   rintro w18 ⟨hq5, s15⟩
   have hct12 := cOs s15 m63.ty
   have ⟨m66, m67, m68⟩ := KCk3 hct12 m59 m61 m64
   have b18 := s15.below b17 b17.size (by omega)
   have m65 : Blk w18 g2 3 (ctY a n c (cutS l (nsV l).2 2)) 66 := hq5
   refine KLq (Ku6 (cutV l (nsV l).2 2)) (KLe (Wb ?_))
   have m69 : Fx.Own w18 w.heap.size 59 5 (.slice none (0) (0)) 0 (grsX ([])) := oNl _ _ _ _ _
   obtain ⟨k9G, hk9G⟩ : ∃ q, q = gnV l := ⟨_, rfl⟩
   refine WoE (fun kE f w_ => ∃ r : Nat, ∃ s : Ct, ∃ gl : List GrM, ∃ n8 : Nat, ∃ bo : Option Addr, ∃ do9 : Nat, kE = r ∧ s.1 ≤ l.length ∧ gl ++ (grsV l r s).1 = (gsV l).1 ∧ (grsV l r s).2 = (gsV l).2 ∧ n8 = gl.length ∧ n8 + r ≤ 65535 ∧ f 0 = .slice a (n) (c) ∧ f 2 = (pt g1) ∧ f 4 = (pt g2) ∧ f 5 = (pt g3) ∧ f 12 = Ku6 ((r : Int)) ∧ Blk w_ g1 20 (fun zq => if zq < 12 then .bool false else if zq < 18 then Ku6 0 else .slice none 0 0) 29 ∧ Blk w_ g2 3 (ctY a n c s) 66 ∧ Blk w_ g3 20 (stY (GN l ao n9 co bo n8 do9)) 29 ∧ Fx.Own w_ w.heap.size 59 5 (.slice bo (n8) (do9)) n8 (grsX gl) ∧ Fx.Own w_ w.heap.size 50 56 (.slice ao (n9) (co)) n9 (ndsX (nsV l).1) ∧ Below w.heap.size w w_) (k9G) ⟨k9G, cutS l (nsV l).2 2, [], 0, none, 0, rfl, (cut_le hsN), (by rw [hk9G]; rfl), (by rw [hk9G]; rfl), rfl, (by have := @gn_le l; omega), h6, h7, h8, h9, (congrArg (Value.int .u64) (by rw [hk9G]; exact (Int.toNat_of_nonneg (cutV_bd (by decide)).1).symm)), m66, m65, m67, m69, m68, b18⟩ ?_
   rintro kE f3 w19 ⟨r, s, gl, n8, bo, do9, hkE, hs, hol, hst, hnl, hr, h11, h12, h13, h14, h15, m70, m71, m72, m73, m74, b19⟩
   refine Ws (KWsl (KLh h15 ?_))
   by_cases c79 : 0 < (r : Int)
   ·refine Lv KbT (KgtT c79) (KLq KbT (KLh h13 (KLq ((pt g2)) (KLq ((pf g2 2)) ?_))))
    by_cases c84 : s.2 = true
    ·refine Lv KbT (Kxl m71.cel 2 ((show _ = Value.bool s.2 from rfl).trans (congrArg Value.bool c84))) (KLq KbF (KLq KbF (KLe (KWcF (Wx (seqX (lpX (blkX (sN (Ws (Ws ?_)))))))))))
     have he9G := grs_end (l := l) (r := r) (s := s) (.inr c84)
     have eoG : gl = (gsV l).1 := by have q9 := hol; rw [he9G] at q9; simpa using q9
     have esG : s = (gsV l).2 := by have q9 := hst; rw [he9G] at q9; exact q9
     have m75 : Blk w19 g2 3 (ctY a n c ((gsV l).2)) 66 := by have q9 := m71; rw [esG] at q9; exact q9
     have hnG : n8 = (gsV l).1.length := by rw [← eoG]; exact hnl
     have m76 : Fx.Own w19 w.heap.size 59 5 (.slice bo (n8) (do9)) n8 (grsX (gsV l).1) := by have q9 := m73; rw [eoG] at q9; exact q9
     have m77 : Blk w19 g3 20 (stY (stS (rawV l) ao co bo do9)) 29 := by have q9 := m72; rw [hnN, hnG, G_end] at q9; exact q9
     have m78 : Fx.Own w19 w.heap.size 50 56 (.slice ao ((rawV l).ns.length) (co)) ((rawV l).ns.length) (ndsX (rawV l).ns) := by have q9 := m74; rw [hnN] at q9; exact q9
     have m79 : Fx.Own w19 w.heap.size 59 5 (.slice bo ((rawV l).gs.length) (do9)) ((rawV l).gs.length) (grsX (rawV l).gs) := by have q9 := m76; rw [hnG] at q9; exact q9
     refine Wl (KLh h13 (KLq ((pt g2)) (KLq ((pf g2 2)) ?_)))
     by_cases c113 : (((gsV l).2).2) = true
     ·refine Lv KbT (Kxl m75.cel 2 ((show _ = Value.bool (((gsV l).2).2) from rfl).trans (congrArg Value.bool c113))) (KLq KbT (KLu (KLu (KLu (KLq KbT (KLq KbT (KLu (KLu (KLu (KLu (KLu (KLq KbT (KLe (KWcT (KWsl (KLq (.agg (varr 20 (fun zq => if zq < 12 then .bool false else if zq < 18 then Ku6 0 else .slice none 0 0))) (KLsA m70 0 (ha := h12) (h1 := (fun jq _ => by show ((fun zq => if zq < 12 then .bool false else if zq < 18 then Ku6 0 else .slice none 0 0 : Nat → Value) jq).oneCell' = true; simp only []; repeat (first | rfl | split))) fun w20 m80 s16 z12 => ?_)))))))))))))))))
      have m81 : Blk w20 g1 20 (fun zq => if zq < 12 then .bool false else if zq < 18 then Ku6 0 else .slice none 0 0) 29 := ovr_all m80
      have m82 : Blk w20 g1 20 (stY mz) 29 := m81.congr (fun j hj => match j, hj with | 0, _ => rfl | 1, _ => rfl | 2, _ => rfl | 3, _ => rfl | 4, _ => rfl | 5, _ => rfl | 6, _ => rfl | 7, _ => rfl | 8, _ => rfl | 9, _ => rfl | 10, _ => rfl | 11, _ => rfl | 12, _ => rfl | 13, _ => rfl | 14, _ => rfl | 15, _ => rfl | 16, _ => rfl | 17, _ => rfl | 18, _ => rfl | 19, _ => rfl | j + 20, h => absurd h (by omega))
      have m84 := m77.stp s16 (by omega)
      have b20 := s16.below b19 b19.size (by omega)
      refine KLq (Ki6 5) (KLe (Wr (sR (⟨.tuple #[.agg (varr 20 (stY mz)), Ki6 5], retV2 Try.results10 ⟨_, h12, run_loadV m82.cel (by kernel_rfl) (by kernel_rfl)⟩ (by exact rfl), ?_⟩))))
      have hg9 := get_n (l := l) (fun h => by have q9 := h.1; rw [c113] at q9; cases q9)
      rw [hg9.1, hg9.2]
      exact ⟨none, 0, none, 0, rfl, oNl _ _ _ _ _, oNl _ _ _ _ _, b20⟩
     rw [Bool.not_eq_true] at c113
     refine Lv KbF (Kxl m75.cel 2 ((show _ = Value.bool (((gsV l).2).2) from rfl).trans (congrArg Value.bool c113))) (KLq KbF (KLh h11 (KLq (Ki6 n) ?_)))
     by_cases c117 : (n : Int) = 0
     ·refine Lv KbT (KeqT c117) (KLq KbT (KLq KbT (KLu (KLu (KLu (KLu (KLu (KLq KbT (KLe (KWcT (KWsl (KLq (.agg (varr 20 (fun zq => if zq < 12 then .bool false else if zq < 18 then Ku6 0 else .slice none 0 0))) (KLsA m70 0 (ha := h12) (h1 := (fun jq _ => by show ((fun zq => if zq < 12 then .bool false else if zq < 18 then Ku6 0 else .slice none 0 0 : Nat → Value) jq).oneCell' = true; simp only []; repeat (first | rfl | split))) fun w21 m87 s17 z13 => ?_)))))))))))))
      have m88 : Blk w21 g1 20 (fun zq => if zq < 12 then .bool false else if zq < 18 then Ku6 0 else .slice none 0 0) 29 := ovr_all m87
      have m89 : Blk w21 g1 20 (stY mz) 29 := m88.congr (fun j hj => match j, hj with | 0, _ => rfl | 1, _ => rfl | 2, _ => rfl | 3, _ => rfl | 4, _ => rfl | 5, _ => rfl | 6, _ => rfl | 7, _ => rfl | 8, _ => rfl | 9, _ => rfl | 10, _ => rfl | 11, _ => rfl | 12, _ => rfl | 13, _ => rfl | 14, _ => rfl | 15, _ => rfl | 16, _ => rfl | 17, _ => rfl | 18, _ => rfl | 19, _ => rfl | j + 20, h => absurd h (by omega))
      have m91 := m77.stp s17 (by omega)
      have b21 := s17.below b19 b19.size (by omega)
      refine KLq (Ki6 5) (KLe (Wr (sR (⟨.tuple #[.agg (varr 20 (stY mz)), Ki6 5], retV2 Try.results10 ⟨_, h12, run_loadV m89.cel (by kernel_rfl) (by kernel_rfl)⟩ (by exact rfl), ?_⟩))))
      have hg9 := get_n (l := l) (fun h => h.2.1 (List.eq_nil_of_length_eq_zero (by omega)))
      rw [hg9.1, hg9.2]
      exact ⟨none, 0, none, 0, rfl, oNl _ _ _ _ _, oNl _ _ _ _ _, b21⟩
     refine Lv KbF (KeqF c117) (KLq KbF (KLq KbF (Lv (.agg (varr 20 (stY (stS (rawV l) ao co bo do9)))) (KxA m77.cel 0 (ha := h14)) (KLc (s_put (rawV l) ao co bo do9 _ ⟨raw_r, Nat.le_trans raw_len.1 (by decide), Nat.le_trans raw_len.2 (by decide), m78.arr, m79.arr, m78.le, m79.le⟩) ?_))))
     rintro e9 w22 ⟨pa1, pc1, he, hm1, hb1⟩
     refine ⟨_, he, ?_⟩
     clear he
     have ⟨m95, m97, m98, m99, b22⟩ := KTk5 hb1 m70 m77 m78 m79 b19
     have m94 : Fx.Own w22 w.heap.size 5 1 (.slice pa1 ((putB (rawV l)).length) (pc1)) ((putB (rawV l)).length) (Fx.byY (putB (rawV l))) := hm1.mono b19.size
     refine KLh h11 ?_
     by_cases c123 : (decide (putB (rawV l) = l)) = true
     ·refine KLc0 (b_equal pa1 a ((putB (rawV l)).length) pc1 n c (putB (rawV l)) l _ rfl hn m94.arr (hb.up b22 rfl)) KbT (by rw [c123]) (KLq KbF (KLq KbF (KLe (KWcF (Wk (sN (KWsl (Lv (.agg (varr 20 (stY (stS (rawV l) ao co bo do9)))) (KxA m97.cel 0 (ha := h14)) (KLsA m95 0 (ha := h12) (h1 := (fun j _ => stY_one _ j)) fun w23 m100 s19 z14 => ?_)))))))))
      have m101 : Blk w23 g1 20 (stY (stS (rawV l) ao co bo do9)) 29 := ovr_all m100
      have hct15 := cOs s19 m95.ty
      have m104 := m97.stp s19 (by omega)
      have ⟨m105, m106⟩ := KCk2 hct15 m98 m99
      have b23 := s19.below b22 b22.size (by omega)
      refine KLq (Ki6 0) (KLe (Wr (⟨.tuple #[.agg (varr 20 (stY (stS (rawV l) ao co bo do9))), Ki6 0], retV2 Try.results10 ⟨_, h12, run_loadV m101.cel (by kernel_rfl) (by kernel_rfl)⟩ (by exact rfl), ?_⟩)))
      have hg9 := get_y (l := l) ⟨c113, (fun h => by rw [h] at hn; exact absurd hn (by rw [List.length_nil]; omega)), of_decide_eq_true c123⟩
      rw [hg9.1, hg9.2]
      exact ⟨ao, co, bo, do9, rfl, m105, m106, b23⟩
     rw [Bool.not_eq_true] at c123
     refine KLc0 (b_equal pa1 a ((putB (rawV l)).length) pc1 n c (putB (rawV l)) l _ rfl hn m94.arr (hb.up b22 rfl)) KbF (by rw [c123]) (KLq KbT (KLq KbT (KLe (KWcT (KWsl (KLq (.agg (varr 20 (fun zq => if zq < 12 then .bool false else if zq < 18 then Ku6 0 else .slice none 0 0))) (KLsA m95 0 (ha := h12) (h1 := (fun jq _ => by show ((fun zq => if zq < 12 then .bool false else if zq < 18 then Ku6 0 else .slice none 0 0 : Nat → Value) jq).oneCell' = true; simp only []; repeat (first | rfl | split))) fun w24 m108 s20 z15 => ?_)))))))
     have m109 : Blk w24 g1 20 (fun zq => if zq < 12 then .bool false else if zq < 18 then Ku6 0 else .slice none 0 0) 29 := ovr_all m108
     have m110 : Blk w24 g1 20 (stY mz) 29 := m109.congr (fun j hj => match j, hj with | 0, _ => rfl | 1, _ => rfl | 2, _ => rfl | 3, _ => rfl | 4, _ => rfl | 5, _ => rfl | 6, _ => rfl | 7, _ => rfl | 8, _ => rfl | 9, _ => rfl | 10, _ => rfl | 11, _ => rfl | 12, _ => rfl | 13, _ => rfl | 14, _ => rfl | 15, _ => rfl | 16, _ => rfl | 17, _ => rfl | 18, _ => rfl | 19, _ => rfl | j + 20, h => absurd h (by omega))
     have m112 := m97.stp s20 (by omega)
     have b24 := s20.below b22 b22.size (by omega)
     refine KLq (Ki6 5) (KLe (Wr (sR (⟨.tuple #[.agg (varr 20 (stY mz)), Ki6 5], retV2 Try.results10 ⟨_, h12, run_loadV m110.cel (by kernel_rfl) (by kernel_rfl)⟩ (by exact rfl), ?_⟩))))
     have hg9 := get_n (l := l) (fun h => (of_decide_eq_false c123) h.2.2)
     rw [hg9.1, hg9.2]
     exact ⟨none, 0, none, 0, rfl, oNl _ _ _ _ _, oNl _ _ _ _ _, b24⟩
    rw [Bool.not_eq_true] at c84
    refine Lv KbF (Kxl m71.cel 2 ((show _ = Value.bool s.2 from rfl).trans (congrArg Value.bool c84))) (KLq KbT (KLq KbT (KLe (KWcT (Wk (sN (Ws (Wb (Ws ?_)))))))))
    have hbad : s.2 = false := c84
    have hc1 := @cut1 l s
    refine Wl (KLh h13 (KLc1 (c_number g2 a n c l s 1 _ (by decide) (by rw [hn]; exact hs) hn hc hl (hb.up b19 rfl) m71) _ rfl ?_))
    rintro w25 ⟨hq6, s21⟩
    have hct17 := cOs s21 m71.ty
    have ⟨m117, m118, m119, m120⟩ := KCk4 hct17 m70 m72 m73 m74
    have b25 := s21.below b19 b19.size (by omega)
    have m116 : Blk w25 g2 3 (ctY a n c (cutS l s 1)) 66 := hq6
    refine Lv (Ki6 (cutV l s 1)) (x_conv rfl rfl (by kernel_rfl) Try.underlying3 (i64e (by omega) rfl)) (KLh h13 (KLc1 (c_number g2 a n c l (cutS l s 1) 8 _ (by decide) (by rw [hn]; exact cut_le hs) hn hc hl (hb.up b25 rfl) m116) _ rfl ?_))
    rintro w26 ⟨hq7, s22⟩
    have hct18 := cOs s22 m116.ty
    have ⟨m122, m123, m124, m125⟩ := KCk4 hct18 m117 m118 m119 m120
    have b26 := s22.below b25 b25.size (by omega)
    have m121 : Blk w26 g2 3 (ctY a n c (cutN l 8 1 (cutS l s 1))) 66 := hq7
    refine KLh h13 (KLc1 (c_number g2 a n c l (cutN l 8 1 (cutS l s 1)) 8 _ (by decide) (by rw [hn]; exact cutN_le (cut_le hs) 1) hn hc hl (hb.up b26 rfl) m121) _ rfl ?_)
    rintro w27 ⟨hq8, s23⟩
    have hct19 := cOs s23 m121.ty
    have ⟨m127, m128, m129, m130⟩ := KCk4 hct19 m122 m123 m124 m125
    have b27 := s23.below b26 b26.size (by omega)
    have m126 : Blk w27 g2 3 (ctY a n c (cutN l 8 2 (cutS l s 1))) 66 := hq8
    refine KLq (.agg (varr 5 (ovr (ovr (ovr (fun zq => if zq < 1 then Ki6 0 else if zq < 3 then Ku6 0 else if zq < 4 then Ki6 0 else Ku6 0) 0 1 (fun _ => Ki6 (cutV l s 1))) 1 1 (fun _ => Ku6 (rowV l (cutS l s 1) 8 0))) 2 1 (fun _ => Ku6 (rowV l (cutS l s 1) 8 1))))) (KLw 5 (fun zq => if zq < 1 then Ki6 0 else if zq < 3 then Ku6 0 else if zq < 4 then Ki6 0 else Ku6 0) fun g4 w28 eg4 m131 s24 z16 => ?_)
    have ⟨m132, m133, m134, m135, m136, b28⟩ := KTk6 s24.old m127 m128 m129 m130 m126 b27
    have lg4 := KGk eg4 b27.size
    have ⟨ng4m132, ng4m133⟩ := KNk2 eg4 m127.lt m128.lt
    have ng4m134 : (.slice bo (n8) (do9) : Value).ownBlock ≠ some g4 := by rw [eg4]; exact m129.notNew (Nat.le_refl _)
    have ng4m136 := KNk1 eg4 m126.lt
    have tg4 := m131.lt
    refine KLsA m131 0 (h1 := (ovr_ones (ovr_ones (ovr_ones (fun jq _ => by show ((fun zq => if zq < 1 then Ki6 0 else if zq < 3 then Ku6 0 else if zq < 4 then Ki6 0 else Ku6 0 : Nat → Value) jq).oneCell' = true; simp only []; repeat (first | rfl | split)) (fun _ _ => rfl)) (fun _ _ => rfl)) (fun _ _ => rfl))) fun w29 m137 s25 z17 => ?_
    have m138 : Blk w29 g4 5 (ovr (ovr (ovr (fun zq => if zq < 1 then Ki6 0 else if zq < 3 then Ku6 0 else if zq < 4 then Ki6 0 else Ku6 0) 0 1 (fun _ => Ki6 (cutV l s 1))) 1 1 (fun _ => Ku6 (rowV l (cutS l s 1) 8 0))) 2 1 (fun _ => Ku6 (rowV l (cutS l s 1) 8 1))) 59 := ovr_all m137
    have m139 : Blk w29 g4 5 (grZ ⟨cutV l s 1, rowV l (cutS l s 1) 8 0, rowV l (cutS l s 1) 8 1, 0, 0⟩) 59 := m138.congr (fun j hj => match j, hj with | 0, _ => rfl | 1, _ => rfl | 2, _ => rfl | 3, _ => rfl | 4, _ => rfl | j + 5, h => absurd h (by omega))
    have hct20 := cOs s25 m131.ty
    have ⟨m140, m141⟩ := KCk2 hct20 m132 m133
    have m142 := m134.stp s25 ng4m134
    have ⟨m143, m144⟩ := KCk2 hct20 m135 m136
    have b29 := s25.below b28 b28.size (by omega)
    refine KLe (KWsl (KLh h13 (KLc1 (c_number g2 a n c l (cutN l 8 2 (cutS l s 1)) 8 _ (by decide) (by rw [hn]; exact cutN_le (cut_le hs) 2) hn hc hl (hb.up b29 rfl) m144) _ rfl ?_)))
    rintro w30 ⟨hq9, s26⟩
    have hct21 := cOs s26 m144.ty
    have ⟨m146, m147, m148, m149, m150⟩ := KCk5 hct21 m140 m141 m142 m143 m139
    have b30 := s26.below b29 b29.size (by omega)
    have m145 : Blk w30 g2 3 (ctY a n c (cutN l 8 3 (cutS l s 1))) 66 := hq9
    refine Lv (Ki6 (i64w (rowV l (cutS l s 1) 8 2))) (x_conv rfl rfl (by kernel_rfl) Try.underlying2 rfl) (KLh h13 (KLc1 (c_number g2 a n c l (cutN l 8 3 (cutS l s 1)) 8 _ (by decide) (by rw [hn]; exact cutN_le (cut_le hs) 3) hn hc hl (hb.up b30 rfl) m145) _ rfl ?_))
    rintro w31 ⟨hq10, s27⟩
    have hct22 := cOs s27 m145.ty
    have ⟨m152, m153, m154, m155, m156⟩ := KCk5 hct22 m146 m147 m148 m149 m150
    have b31 := s27.below b30 b30.size (by omega)
    have m151 : Blk w31 g2 3 (ctY a n c (grS l s)) 66 := hq10
    refine KLq ((pf g4 3)) (KLs m156 3 (Ki6 (i64w (rowV l (cutS l s 1) 8 2))) fun w32 m157 s28 z18 => ?_)
    have m158 : Blk w32 g4 5 (grZ ⟨cutV l s 1, rowV l (cutS l s 1) 8 0, rowV l (cutS l s 1) 8 1, i64w (rowV l (cutS l s 1) 8 2), 0⟩) 59 := m157.congr (fun j hj => by rcases j with _|_|_|_|_|j <;> first | rfl | omega)
    have hct23 := cOs s28 m156.ty
    have ⟨m159, m160⟩ := KCk2 hct23 m152 m153
    have m161 := m154.stp s28 ng4m134
    have ⟨m162, m163⟩ := KCk2 hct23 m155 m151
    have b32 := s28.below b31 b31.size (by omega)
    refine KLq ((pf g4 4)) (KLs m158 4 (Ku6 (rowV l (cutS l s 1) 8 3)) fun w33 m164 s29 z19 => ?_)
    have m165 : Blk w33 g4 5 (grZ (grV l s)) 59 := m164.congr (fun j hj => by rcases j with _|_|_|_|_|j <;> first | rfl | omega)
    have hct24 := cOs s29 m158.ty
    have ⟨m166, m167⟩ := KCk2 hct24 m159 m160
    have m168 := m161.stp s29 ng4m134
    have ⟨m169, m170⟩ := KCk2 hct24 m162 m163
    have b33 := s29.below b32 b32.size (by omega)
    refine KLe (Wl (Lv ((pf g3 19)) (Kxf h14 19) (Lv (.slice bo (n8) (do9)) (Kxl m167.cel 19) (Lv (.agg (varr 5 (grZ (grV l s)))) (KxA m165.cel 0) (Lbs (vs := [(0, .agg (varr 5 (grZ (grV l s))))]) (s := 5) (zc := fun zq => if zq < 1 then Ki6 0 else if zq < 3 then Ku6 0 else if zq < 4 then Ki6 0 else Ku6 0) (y := ovr (fun j => (fun zq => if zq < 1 then Ki6 0 else if zq < 3 then Ku6 0 else if zq < 4 then Ki6 0 else Ku6 0) (j % 5)) (0 * 5) 5 (grZ (grV l s))) (by rfl) rfl rfl Try.underlying27 (by kernel_rfl) (by rfl) (by rfl) (by kernel_rfl) (by rw [fill_step (off := 0 * 5) (s := 5) (y := grZ (grV l s)) rfl (cells_agg _ _) (by rfl)]; rfl) rfl fun g5 w34 eg5 m171 s30 z20 => ?_)))))
    have ⟨m172, m173, m174, m175, m176, m177, b34⟩ := KTk7 s30.old m166 m167 m168 m169 m170 m165 b33
    have lg5 := KGk eg5 b33.size
    have ⟨ng5m172, ng5m173⟩ := KNk2 eg5 m166.lt m167.lt
    have ng5m174 : (.slice bo (n8) (do9) : Value).ownBlock ≠ some g5 := by rw [eg5]; exact m168.notNew (Nat.le_refl _)
    have ⟨ng5m176, ng5m177⟩ := KNk2 eg5 m170.lt m165.lt
    have tg5 := m171.lt
    refine Lap (B := w.heap.size) (s := 5) (bytes := 40) (k := n8) (m := 1) (v := .slice bo (n8) (do9)) (x := grsX gl) (by rfl) rfl rfl rfl Try.underlying27 (by kernel_rfl) (by kernel_rfl) rfl rfl m174 m171.cel (fun j hj => by unfold ovr; rw [if_pos ⟨by omega, by omega⟩]; exact grZ_one _ _) (by omega) (by omega) (by omega) b34.size fun g6 cap1 w35 ho1 hg1 hgv1 hlt1 => ?_
    have hct25 := cOg hg1 m174
    have ⟨m179, m180, m181, m182⟩ := KCk4 hct25 m172 m173 m175 m176
    have ng6m183 : g4 ≠ g6 := fun e => hgv1.elim (fun e2 => ng4m134 (by rw [e]; exact e2)) (fun e2 => by have := m177.lt; omega)
    have m178 : Fx.Own w35 w.heap.size 59 5 (Ksl g6 (n8 + 1) cap1) (n8 + 1) (grsX (gl ++ [(grV l s)])) := (ho1.congr (grs_app1 (l := gl) (x := (grV l s)) hnl))
    have b35 : Below w.heap.size w w35 := bGr b34 hg1 b34.size (fun q hq => (m174.ge hq).1)
    refine Lv ((pf g3 19)) (Kxf h14 19) (KLs m180 19 (Ksl g6 (n8 + 1) cap1) fun w36 m184 s31 z21 => ?_)
    have m185 : Blk w36 g3 20 (stY (GN l ao n9 co (some ⟨g6, 0, none⟩) (n8 + 1) cap1)) 29 := m184.congr G_gs
    have m186 := m179.stp s31 (by omega)
    have hct26 := cOs s31 m180.ty
    have ⟨m187, m188, m190⟩ := KCk3 hct26 m181 m182 m178
    have b36 := s31.below b35 b35.size (by omega)
    refine Ln (blkN (sN (Wl (KLh h15 (Lv (Ku6 ((r : Int) - 1)) KxM (KLq (Ku6 ((r : Int) - 1)) (Ln ?_)))))))
    skip
    refine lpN ⟨kE - 1, (by omega), r - 1, grS l s, gl ++ [(grV l s)], n8 + 1, (some ⟨g6, 0, none⟩), cap1, (by omega), (cutN_le (cut_le hs) 4), (ol_step (p := grsV l r s) (S := (grsV l (r - 1) (grS l s)).2) hol (grs_step (by omega) hbad)), (by rw [← hst, grs_step (by omega) hbad]), (by rw [List.length_append]; exact congrArg (· + 1) hnl), (by omega), h11, h12, h13, h14, Fx.ic, m186, m188, m185, m190, m187, b36⟩ (by decide)
   refine Lv KbF (KgtF c79) (KLq KbF (KLu (KLu (KLu (KLu (KLu (KLq KbF (KLe (KWcF (Wx (seqX (lpX (blkX (sN (Ws (Ws ?_))))))))))))))))
   have he9G := grs_end (l := l) (r := r) (s := s) (.inl (by omega))
   have eoG : gl = (gsV l).1 := by have q9 := hol; rw [he9G] at q9; simpa using q9
   have esG : s = (gsV l).2 := by have q9 := hst; rw [he9G] at q9; exact q9
   have m191 : Blk w19 g2 3 (ctY a n c ((gsV l).2)) 66 := by have q9 := m71; rw [esG] at q9; exact q9
   have hnG : n8 = (gsV l).1.length := by rw [← eoG]; exact hnl
   have m192 : Fx.Own w19 w.heap.size 59 5 (.slice bo (n8) (do9)) n8 (grsX (gsV l).1) := by have q9 := m73; rw [eoG] at q9; exact q9
   have m193 : Blk w19 g3 20 (stY (stS (rawV l) ao co bo do9)) 29 := by have q9 := m72; rw [hnN, hnG, G_end] at q9; exact q9
   have m194 : Fx.Own w19 w.heap.size 50 56 (.slice ao ((rawV l).ns.length) (co)) ((rawV l).ns.length) (ndsX (rawV l).ns) := by have q9 := m74; rw [hnN] at q9; exact q9
   have m195 : Fx.Own w19 w.heap.size 59 5 (.slice bo ((rawV l).gs.length) (do9)) ((rawV l).gs.length) (grsX (rawV l).gs) := by have q9 := m192; rw [hnG] at q9; exact q9
   refine Wl (KLh h13 (KLq ((pt g2)) (KLq ((pf g2 2)) ?_)))
   by_cases c113 : (((gsV l).2).2) = true
   ·refine Lv KbT (Kxl m191.cel 2 ((show _ = Value.bool (((gsV l).2).2) from rfl).trans (congrArg Value.bool c113))) (KLq KbT (KLu (KLu (KLu (KLq KbT (KLq KbT (KLu (KLu (KLu (KLu (KLu (KLq KbT (KLe (KWcT (KWsl (KLq (.agg (varr 20 (fun zq => if zq < 12 then .bool false else if zq < 18 then Ku6 0 else .slice none 0 0))) (KLsA m70 0 (ha := h12) (h1 := (fun jq _ => by show ((fun zq => if zq < 12 then .bool false else if zq < 18 then Ku6 0 else .slice none 0 0 : Nat → Value) jq).oneCell' = true; simp only []; repeat (first | rfl | split))) fun w37 m196 s32 z22 => ?_)))))))))))))))))
    have m197 : Blk w37 g1 20 (fun zq => if zq < 12 then .bool false else if zq < 18 then Ku6 0 else .slice none 0 0) 29 := ovr_all m196
    have m198 : Blk w37 g1 20 (stY mz) 29 := m197.congr (fun j hj => match j, hj with | 0, _ => rfl | 1, _ => rfl | 2, _ => rfl | 3, _ => rfl | 4, _ => rfl | 5, _ => rfl | 6, _ => rfl | 7, _ => rfl | 8, _ => rfl | 9, _ => rfl | 10, _ => rfl | 11, _ => rfl | 12, _ => rfl | 13, _ => rfl | 14, _ => rfl | 15, _ => rfl | 16, _ => rfl | 17, _ => rfl | 18, _ => rfl | 19, _ => rfl | j + 20, h => absurd h (by omega))
    have m200 := m193.stp s32 (by omega)
    have b37 := s32.below b19 b19.size (by omega)
    refine KLq (Ki6 5) (KLe (Wr (sR (⟨.tuple #[.agg (varr 20 (stY mz)), Ki6 5], retV2 Try.results10 ⟨_, h12, run_loadV m198.cel (by kernel_rfl) (by kernel_rfl)⟩ (by exact rfl), ?_⟩))))
    have hg9 := get_n (l := l) (fun h => by have q9 := h.1; rw [c113] at q9; cases q9)
    rw [hg9.1, hg9.2]
    exact ⟨none, 0, none, 0, rfl, oNl _ _ _ _ _, oNl _ _ _ _ _, b37⟩
   rw [Bool.not_eq_true] at c113
   refine Lv KbF (Kxl m191.cel 2 ((show _ = Value.bool (((gsV l).2).2) from rfl).trans (congrArg Value.bool c113))) (KLq KbF (KLh h11 (KLq (Ki6 n) ?_)))
   by_cases c117 : (n : Int) = 0
   ·refine Lv KbT (KeqT c117) (KLq KbT (KLq KbT (KLu (KLu (KLu (KLu (KLu (KLq KbT (KLe (KWcT (KWsl (KLq (.agg (varr 20 (fun zq => if zq < 12 then .bool false else if zq < 18 then Ku6 0 else .slice none 0 0))) (KLsA m70 0 (ha := h12) (h1 := (fun jq _ => by show ((fun zq => if zq < 12 then .bool false else if zq < 18 then Ku6 0 else .slice none 0 0 : Nat → Value) jq).oneCell' = true; simp only []; repeat (first | rfl | split))) fun w38 m203 s33 z23 => ?_)))))))))))))
    have m204 : Blk w38 g1 20 (fun zq => if zq < 12 then .bool false else if zq < 18 then Ku6 0 else .slice none 0 0) 29 := ovr_all m203
    have m205 : Blk w38 g1 20 (stY mz) 29 := m204.congr (fun j hj => match j, hj with | 0, _ => rfl | 1, _ => rfl | 2, _ => rfl | 3, _ => rfl | 4, _ => rfl | 5, _ => rfl | 6, _ => rfl | 7, _ => rfl | 8, _ => rfl | 9, _ => rfl | 10, _ => rfl | 11, _ => rfl | 12, _ => rfl | 13, _ => rfl | 14, _ => rfl | 15, _ => rfl | 16, _ => rfl | 17, _ => rfl | 18, _ => rfl | 19, _ => rfl | j + 20, h => absurd h (by omega))
    have m207 := m193.stp s33 (by omega)
    have b38 := s33.below b19 b19.size (by omega)
    refine KLq (Ki6 5) (KLe (Wr (sR (⟨.tuple #[.agg (varr 20 (stY mz)), Ki6 5], retV2 Try.results10 ⟨_, h12, run_loadV m205.cel (by kernel_rfl) (by kernel_rfl)⟩ (by exact rfl), ?_⟩))))
    have hg9 := get_n (l := l) (fun h => h.2.1 (List.eq_nil_of_length_eq_zero (by omega)))
    rw [hg9.1, hg9.2]
    exact ⟨none, 0, none, 0, rfl, oNl _ _ _ _ _, oNl _ _ _ _ _, b38⟩
   refine Lv KbF (KeqF c117) (KLq KbF (KLq KbF (Lv (.agg (varr 20 (stY (stS (rawV l) ao co bo do9)))) (KxA m193.cel 0 (ha := h14)) (KLc (s_put (rawV l) ao co bo do9 _ ⟨raw_r, Nat.le_trans raw_len.1 (by decide), Nat.le_trans raw_len.2 (by decide), m194.arr, m195.arr, m194.le, m195.le⟩) ?_))))
   rintro e9 w39 ⟨pa2, pc2, he, hm2, hb2⟩
   refine ⟨_, he, ?_⟩
   clear he
   have ⟨m211, m213, m214, m215, b39⟩ := KTk5 hb2 m70 m193 m194 m195 b19
   have m210 : Fx.Own w39 w.heap.size 5 1 (.slice pa2 ((putB (rawV l)).length) (pc2)) ((putB (rawV l)).length) (Fx.byY (putB (rawV l))) := hm2.mono b19.size
   refine KLh h11 ?_
   by_cases c123 : (decide (putB (rawV l) = l)) = true
   ·refine KLc0 (b_equal pa2 a ((putB (rawV l)).length) pc2 n c (putB (rawV l)) l _ rfl hn m210.arr (hb.up b39 rfl)) KbT (by rw [c123]) (KLq KbF (KLq KbF (KLe (KWcF (Wk (sN (KWsl (Lv (.agg (varr 20 (stY (stS (rawV l) ao co bo do9)))) (KxA m213.cel 0 (ha := h14)) (KLsA m211 0 (ha := h12) (h1 := (fun j _ => stY_one _ j)) fun w40 m216 s35 z24 => ?_)))))))))
    have m217 : Blk w40 g1 20 (stY (stS (rawV l) ao co bo do9)) 29 := ovr_all m216
    have hct29 := cOs s35 m211.ty
    have m220 := m213.stp s35 (by omega)
    have ⟨m221, m222⟩ := KCk2 hct29 m214 m215
    have b40 := s35.below b39 b39.size (by omega)
    refine KLq (Ki6 0) (KLe (Wr (⟨.tuple #[.agg (varr 20 (stY (stS (rawV l) ao co bo do9))), Ki6 0], retV2 Try.results10 ⟨_, h12, run_loadV m217.cel (by kernel_rfl) (by kernel_rfl)⟩ (by exact rfl), ?_⟩)))
    have hg9 := get_y (l := l) ⟨c113, (fun h => by rw [h] at hn; exact absurd hn (by rw [List.length_nil]; omega)), of_decide_eq_true c123⟩
    rw [hg9.1, hg9.2]
    exact ⟨ao, co, bo, do9, rfl, m221, m222, b40⟩
   rw [Bool.not_eq_true] at c123
   refine KLc0 (b_equal pa2 a ((putB (rawV l)).length) pc2 n c (putB (rawV l)) l _ rfl hn m210.arr (hb.up b39 rfl)) KbF (by rw [c123]) (KLq KbT (KLq KbT (KLe (KWcT (KWsl (KLq (.agg (varr 20 (fun zq => if zq < 12 then .bool false else if zq < 18 then Ku6 0 else .slice none 0 0))) (KLsA m211 0 (ha := h12) (h1 := (fun jq _ => by show ((fun zq => if zq < 12 then .bool false else if zq < 18 then Ku6 0 else .slice none 0 0 : Nat → Value) jq).oneCell' = true; simp only []; repeat (first | rfl | split))) fun w41 m224 s36 z25 => ?_)))))))
   have m225 : Blk w41 g1 20 (fun zq => if zq < 12 then .bool false else if zq < 18 then Ku6 0 else .slice none 0 0) 29 := ovr_all m224
   have m226 : Blk w41 g1 20 (stY mz) 29 := m225.congr (fun j hj => match j, hj with | 0, _ => rfl | 1, _ => rfl | 2, _ => rfl | 3, _ => rfl | 4, _ => rfl | 5, _ => rfl | 6, _ => rfl | 7, _ => rfl | 8, _ => rfl | 9, _ => rfl | 10, _ => rfl | 11, _ => rfl | 12, _ => rfl | 13, _ => rfl | 14, _ => rfl | 15, _ => rfl | 16, _ => rfl | 17, _ => rfl | 18, _ => rfl | 19, _ => rfl | j + 20, h => absurd h (by omega))
   have m228 := m213.stp s36 (by omega)
   have b41 := s36.below b39 b39.size (by omega)
   refine KLq (Ki6 5) (KLe (Wr (sR (⟨.tuple #[.agg (varr 20 (stY mz)), Ki6 5], retV2 Try.results10 ⟨_, h12, run_loadV m226.cel (by kernel_rfl) (by kernel_rfl)⟩ (by exact rfl), ?_⟩))))
   have hg9 := get_n (l := l) (fun h => (of_decide_eq_false c123) h.2.2)
   rw [hg9.1, hg9.2]
   exact ⟨none, 0, none, 0, rfl, oNl _ _ _ _ _, oNl _ _ _ _ _, b41⟩
  rw [Bool.not_eq_true] at c49
  refine Lv KbF (Kxl m60.cel 2 ((show _ = Value.bool s.2 from rfl).trans (congrArg Value.bool c49))) (KLq KbT (KLq KbT (KLe (KWcT (Wk (sN (Ws (Wb (Ws ?_)))))))))
  have hbad : s.2 = false := c49
  refine Wl (KLh h8 (KLc1 (c_number g2 a n c l s 8 _ (by decide) (by rw [hn]; exact hs) hn hc hl (hb.up b17 rfl) m60) _ rfl ?_))
  rintro w42 ⟨hq11, s37⟩
  have hct31 := cOs s37 m60.ty
  have ⟨m233, m234, m235⟩ := KCk3 hct31 m59 m61 m62
  have b42 := s37.below b17 b17.size (by omega)
  have m232 : Blk w42 g2 3 (ctY a n c (cutN l 8 1 s)) 66 := hq11
  refine KLh h8 (KLc1 (c_number g2 a n c l (cutN l 8 1 s) 8 _ (by decide) (by rw [hn]; exact cutN_le hs 1) hn hc hl (hb.up b42 rfl) m232) _ rfl ?_)
  rintro w43 ⟨hq12, s38⟩
  have hct32 := cOs s38 m232.ty
  have ⟨m237, m238, m239⟩ := KCk3 hct32 m233 m234 m235
  have b43 := s38.below b42 b42.size (by omega)
  have m236 : Blk w43 g2 3 (ctY a n c (cutN l 8 2 s)) 66 := hq12
  refine KLq (.agg (varr 56 (ovr (ovr (fun zq => if zq < 2 then Ku6 0 else Ki6 0) 0 1 (fun _ => Ku6 (rowV l s 8 0))) 1 1 (fun _ => Ku6 (rowV l s 8 1))))) (KLw 56 (fun zq => if zq < 2 then Ku6 0 else Ki6 0) fun g7 w44 eg7 m240 s39 z26 => ?_)
  have ⟨m241, m242, m243, m244, b44⟩ := KTk5 s39.old m237 m238 m239 m236 b43
  have lg7 := KGk eg7 b43.size
  have ⟨ng7m241, ng7m242⟩ := KNk2 eg7 m237.lt m238.lt
  have ng7m243 : (.slice ao (n9) (co) : Value).ownBlock ≠ some g7 := by rw [eg7]; exact m239.notNew (Nat.le_refl _)
  have ng7m244 := KNk1 eg7 m236.lt
  have tg7 := m240.lt
  refine KLsA m240 0 (h1 := (ovr_ones (ovr_ones (fun jq _ => by show ((fun zq => if zq < 2 then Ku6 0 else Ki6 0 : Nat → Value) jq).oneCell' = true; simp only []; repeat (first | rfl | split)) (fun _ _ => rfl)) (fun _ _ => rfl))) fun w45 m245 s40 z27 => ?_
  have m246 : Blk w45 g7 56 (ovr (ovr (fun zq => if zq < 2 then Ku6 0 else Ki6 0) 0 1 (fun _ => Ku6 (rowV l s 8 0))) 1 1 (fun _ => Ku6 (rowV l s 8 1))) 50 := ovr_all m245
  have m247 : Blk w45 g7 56 (ndZ (ndQ l s 0)) 50 := m246.congr (nq_zero (fun p => if_neg (by omega)))
  have hct33 := cOs s40 m240.ty
  have ⟨m248, m249⟩ := KCk2 hct33 m241 m242
  have m250 := m243.stp s40 ng7m243
  have m251 := KCk1 hct33 m244
  have b45 := s40.below b44 b44.size (by omega)
  refine KLe (Ws (KWsl (KLq ((pf g7 2)) (KLc (s_rows g7 2 _) ?_))))
  rintro e9 w46 ⟨ra1, rc1, he, hm3, hb3⟩
  refine ⟨_, he, ?_⟩
  clear he
  have ⟨m253, m254, m255, m256, m257, b46⟩ := KTk6 hb3 m248 m249 m250 m251 m247 b45
  have m252 : Fx.Own w46 w.heap.size 73 1 (.slice ra1 (9) (rc1)) 9 (rowsX g7 2) := hm3.mono b45.size
  refine KLq (Ki6 9) (KLq (Ki6 0) (KLe (Wb (Wo (fun f w_ => ∃ q : Nat, q ≤ 9 ∧ f 0 = .slice a (n) (c) ∧ f 2 = (pt g1) ∧ f 4 = (pt g2) ∧ f 5 = (pt g3) ∧ f 8 = Ku6 ((r : Int)) ∧ f 9 = (pt g7) ∧ f 60 = .slice ra1 (9) (rc1) ∧ f 61 = Ki6 9 ∧ f 62 = Ki6 ((q : Int)) ∧ Blk w_ g1 20 (fun zq => if zq < 12 then .bool false else if zq < 18 then Ku6 0 else .slice none 0 0) 29 ∧ Blk w_ g3 20 (stY (GN l ao n9 co none 0 0)) 29 ∧ Blk w_ g2 3 (ctY a n c (cutN l 8 (2 + 6 * q) s)) 66 ∧ Blk w_ g7 56 (ndZ (ndQ l s q)) 50 ∧ Fx.Own w_ w.heap.size 50 56 (.slice ao (n9) (co)) n9 (ndsX ol) ∧ Fx.Own w_ w.heap.size 73 1 (.slice ra1 (9) (rc1)) 9 (rowsX g7 2) ∧ Below w.heap.size w w_) (fun f _ => (9 - (intOf (f 62)).toNat)) ⟨0, by omega, h6, h7, h8, h9, (h10.trans Fx.ic), (by rfl), (by rfl), Fx.ic, Fx.ic, m253, m254, m256, m257, m255, m252, b46⟩ ?_))))
  rintro f4 w47 ⟨q, hq, h16, h17, h18, h19, h20, h21, h22, h23, h24, m258, m259, m260, m261, m262, m263, b47⟩
  refine KWsl ?_
  by_cases c63 : (q : Int) < 9
  ·refine Lv KbT (KltT c63 (hx := h24) (hy := h23)) (KLe (Ws (KWcT (Wk (sN (Ws (Wb (KWsl ?_))))))))
   obtain ⟨gq1, eq1⟩ := m263.addr (by omega)
   have m264 : Fx.Own w47 w.heap.size 73 1 (Ksl gq1 9 rc1) 9 (rowsX g7 2) := m263.congV (congrArg (fun q => Value.slice q 9 rc1) eq1)
   refine Lv ((pf gq1 q)) (Kxi 1 (hx := (h22.trans (congrArg (fun q => Value.slice q (9) (rc1)) eq1))) (hi := h24)) (Lv (.slice (some ⟨g7, 2 + 6 * q, none⟩) (6) (6)) (Kxl m264.cel q) (KLq (.slice (some ⟨g7, 2 + 6 * q, none⟩) (6) (6)) (KLe (Wl (KLh h18 (KLq (.slice (some ⟨g7, 2 + 6 * q, none⟩) (6) (6)) (KLc1 (c_manyi g2 g7 a n c l (cutN l 8 (2 + 6 * q) s) (2 + 6 * q) 6 6 (ndZ (ndQ l s q)) _ (by rw [hn]; exact cutN_le hs _) hn hc hl (by omega) (fun w9 h9 => hb.up (h9.below b47 (by rintro k9 (h8 | h8) <;> omega) b47.size) rfl) m260 m261) _ rfl ?_)))))))
   rintro w48 ⟨hq13, hqt2, hcg2⟩
   have m267 := m258.chg hcg2 (show ¬ (g1 = g2 ∨ g1 = g7) by omega)
   have m268 := m259.chg hcg2 (show ¬ (g3 = g2 ∨ g3 = g7) by omega)
   have m269 := m262.chg hcg2 (fun g9 hg9 h9 => h9.elim (fun h9 => absurd (Fx.Ty.only (h9 ▸ m262.ty hg9) m260.ty) (by decide)) (fun h9 => ng7m243 (h9 ▸ hg9)))
   have m270 := m264.chg hcg2 (fun g9 hg9 h9 => h9.elim (fun h9 => absurd (Fx.Ty.only (h9 ▸ m264.ty hg9) m260.ty) (by decide)) (fun h9 => absurd (Fx.Ty.only (h9 ▸ m264.ty hg9) m261.ty) (by decide)))
   have b48 := hcg2.below b47 (by rintro k9 (h9 | h9) <;> omega) b47.size
   have m265 : Blk w48 g2 3 (ctY a n c (cutN l 8 (2 + 6 * (q + 1)) s)) 66 := by have q9 := hq13; rw [cutN_add, show 2 + 6 * q + 6 = 2 + 6 * (q + 1) by omega] at q9; exact q9
   have m266 : Blk w48 g7 56 (ndZ (ndQ l s (q + 1))) 50 := hqt2.congr (nq_step (by omega))
   refine Ln (blkN (sN (Wl (Lv (Ki6 ((q : Int) + 1)) (KxP (hx := h24)) (KLq (Ki6 ((q : Int) + 1)) (Ln ?_))))))
   have m271 : Fx.Own w48 w.heap.size 73 1 (.slice ra1 (9) (rc1)) 9 (rowsX g7 2) := m270.congV (congrArg (fun q => Value.slice q 9 rc1) eq1.symm)
   refine lpN ⟨q + 1, by omega, h16, h17, h18, h19, (h20.trans Fx.ic), h21, h22, (h23.trans Fx.ic), Fx.ic, m267, m268, m265, m266, m269, m271, b48⟩ ?_
   show (9 - (intOf ((Ki6 ((q : Int) + 1)))).toNat) < _
   simp only [h24, intOf]; omega
  refine Lv KbF (KltF c63 (hx := h24) (hy := h23)) (KLe (Ws (KWcF (Wx (seqX (lpX (blkX (sN ?_))))))))
  have eq9 : q = 9 := by omega
  have m272 : Blk w47 g7 56 (ndZ (ndV l s)) 50 := (m261.congr (fun j hj => by rw [eq9]; exact nq_end j hj))
  have m273 : Blk w47 g2 3 (ctY a n c (ndS l s)) 66 := by have q9 := m260; rw [eq9] at q9; exact q9
  refine Wl (Lv ((pf g3 18)) (Kxf h19 18) (Lv (.slice ao (n9) (co)) (Kxl m259.cel 18) (Lv (.agg (varr 56 (ndZ (ndV l s)))) (KxA m272.cel 0 (ha := h21)) (Lbs (vs := [(0, .agg (varr 56 (ndZ (ndV l s))))]) (s := 56) (zc := fun zq => if zq < 2 then Ku6 0 else Ki6 0) (y := ovr (fun j => (fun zq => if zq < 2 then Ku6 0 else Ki6 0) (j % 56)) (0 * 56) 56 (ndZ (ndV l s))) (by rfl) rfl rfl Try.underlying26 (by kernel_rfl) (by rfl) (by rfl) (by kernel_rfl) (by rw [fill_step (off := 0 * 56) (s := 56) (y := ndZ (ndV l s)) rfl (cells_agg _ _) (by rfl)]; rfl) rfl fun g8 w49 eg8 m274 s42 z28 => ?_))))
  have ⟨m275, m276, m277, m279, m280, b49⟩ := KTk6 s42.old m258 m259 m262 m272 m273 b47
  have lg8 := KGk eg8 b47.size
  have ⟨ng8m275, ng8m276⟩ := KNk2 eg8 m258.lt m259.lt
  have ng8m277 : (.slice ao (n9) (co) : Value).ownBlock ≠ some g8 := by rw [eg8]; exact m262.notNew (Nat.le_refl _)
  have ⟨ng8m279, ng8m280⟩ := KNk2 eg8 m272.lt m273.lt
  have tg8 := m274.lt
  refine Lap (B := w.heap.size) (s := 56) (bytes := 448) (k := n9) (m := 1) (v := .slice ao (n9) (co)) (x := ndsX ol) (by rfl) rfl rfl rfl Try.underlying26 (by kernel_rfl) (by kernel_rfl) rfl rfl m277 m274.cel (fun j hj => by unfold ovr; rw [if_pos ⟨by omega, by omega⟩]; exact ndZ_one _ _) (by omega) (by omega) (by omega) b49.size fun g9 cap2 w50 ho2 hg2 hgv2 hlt2 => ?_
  have hct34 := cOg hg2 m277
  have ⟨m282, m283⟩ := KCk2 hct34 m275 m276
  have ng9m285 : g7 ≠ g9 := fun e => hgv2.elim (fun e2 => ng7m243 (by rw [e]; exact e2)) (fun e2 => by have := m279.lt; omega)
  have m286 := KCk1 hct34 m280
  have m281 : Fx.Own w50 w.heap.size 50 56 (Ksl g9 (n9 + 1) cap2) (n9 + 1) (ndsX (ol ++ [(ndV l s)])) := (ho2.congr (nds_app1 (l := ol) (x := (ndV l s)) hnl))
  have b50 : Below w.heap.size w w50 := bGr b49 hg2 b49.size (fun q hq => (m277.ge hq).1)
  refine Lv ((pf g3 18)) (Kxf h19 18) (KLs m283 18 (Ksl g9 (n9 + 1) cap2) fun w51 m287 s43 z29 => ?_)
  have m288 : Blk w51 g3 20 (stY (GN l (some ⟨g9, 0, none⟩) (n9 + 1) cap2 none 0 0)) 29 := m287.congr G_ns
  have m289 := m282.stp s43 (by omega)
  have hct35 := cOs s43 m283.ty
  have ⟨m292, m293⟩ := KCk2 hct35 m286 m281
  have b51 := s43.below b50 b50.size (by omega)
  refine Ln (blkN (sN (Wl (KLh h20 (Lv (Ku6 ((r : Int) - 1)) KxM (KLq (Ku6 ((r : Int) - 1)) (Ln ?_)))))))
  skip
  refine lpN ⟨kE - 1, (by omega), r - 1, ndS l s, ol ++ [(ndV l s)], n9 + 1, (some ⟨g9, 0, none⟩), cap2, (by omega), (cutN_le hs 56), (ol_step (p := ndsV l r s) (S := (ndsV l (r - 1) (ndS l s)).2) hol (nds_step (by omega) hbad)), (by rw [← hst, nds_step (by omega) hbad]), (by rw [List.length_append]; exact congrArg (· + 1) hnl), (by omega), h16, h17, h18, h19, Fx.ic, m289, m292, m288, m293, b51⟩ (by decide)
 refine Lv KbF (KgtF c44) (KLq KbF (KLu (KLu (KLu (KLu (KLu (KLq KbF (KLe (KWcF (Wx (seqX (lpX (blkX (sN (Ws (Ws ?_))))))))))))))))
 have he9N := nds_end (l := l) (r := r) (s := s) (.inl (by omega))
 have eoN : ol = (nsV l).1 := by have q9 := hol; rw [he9N] at q9; simpa using q9
 have esN : s = (nsV l).2 := by have q9 := hst; rw [he9N] at q9; exact q9
 have m294 : Blk w17 g2 3 (ctY a n c ((nsV l).2)) 66 := by have q9 := m60; rw [esN] at q9; exact q9
 have hsN : (nsV l).2.1 ≤ l.length := by rw [← esN]; exact hs
 have hnN : n9 = (nsV l).1.length := by rw [← eoN]; exact hnl
 have m295 : Fx.Own w17 w.heap.size 50 56 (.slice ao (n9) (co)) n9 (ndsX (nsV l).1) := by have q9 := m62; rw [eoN] at q9; exact q9
 refine Wl (KLh h8 (KLc1 (c_number g2 a n c l ((nsV l).2) 2 _ (by decide) (by rw [hn]; exact hsN) hn hc hl (hb.up b17 rfl) m294) _ rfl ?_))
 rintro w52 ⟨hq14, s44⟩
 have hct36 := cOs s44 m294.ty
 have ⟨m297, m298, m299⟩ := KCk3 hct36 m59 m61 m295
 have b52 := s44.below b17 b17.size (by omega)
 have m296 : Blk w52 g2 3 (ctY a n c (cutS l (nsV l).2 2)) 66 := hq14
 refine KLq (Ku6 (cutV l (nsV l).2 2)) (KLe (Wb ?_))
 have m300 : Fx.Own w52 w.heap.size 59 5 (.slice none (0) (0)) 0 (grsX ([])) := oNl _ _ _ _ _
 obtain ⟨k9G, hk9G⟩ : ∃ q, q = gnV l := ⟨_, rfl⟩
 refine WoE (fun kE f w_ => ∃ r : Nat, ∃ s : Ct, ∃ gl : List GrM, ∃ n8 : Nat, ∃ bo : Option Addr, ∃ do9 : Nat, kE = r ∧ s.1 ≤ l.length ∧ gl ++ (grsV l r s).1 = (gsV l).1 ∧ (grsV l r s).2 = (gsV l).2 ∧ n8 = gl.length ∧ n8 + r ≤ 65535 ∧ f 0 = .slice a (n) (c) ∧ f 2 = (pt g1) ∧ f 4 = (pt g2) ∧ f 5 = (pt g3) ∧ f 12 = Ku6 ((r : Int)) ∧ Blk w_ g1 20 (fun zq => if zq < 12 then .bool false else if zq < 18 then Ku6 0 else .slice none 0 0) 29 ∧ Blk w_ g2 3 (ctY a n c s) 66 ∧ Blk w_ g3 20 (stY (GN l ao n9 co bo n8 do9)) 29 ∧ Fx.Own w_ w.heap.size 59 5 (.slice bo (n8) (do9)) n8 (grsX gl) ∧ Fx.Own w_ w.heap.size 50 56 (.slice ao (n9) (co)) n9 (ndsX (nsV l).1) ∧ Below w.heap.size w w_) (k9G) ⟨k9G, cutS l (nsV l).2 2, [], 0, none, 0, rfl, (cut_le hsN), (by rw [hk9G]; rfl), (by rw [hk9G]; rfl), rfl, (by have := @gn_le l; omega), h6, h7, h8, h9, (congrArg (Value.int .u64) (by rw [hk9G]; exact (Int.toNat_of_nonneg (cutV_bd (by decide)).1).symm)), m297, m296, m298, m300, m299, b52⟩ ?_
 rintro kE f5 w53 ⟨r, s, gl, n8, bo, do9, hkE, hs, hol, hst, hnl, hr, h25, h26, h27, h28, h29, m301, m302, m303, m304, m305, b53⟩
 refine Ws (KWsl (KLh h29 ?_))
 by_cases c79 : 0 < (r : Int)
 ·refine Lv KbT (KgtT c79) (KLq KbT (KLh h27 (KLq ((pt g2)) (KLq ((pf g2 2)) ?_))))
  by_cases c84 : s.2 = true
  ·refine Lv KbT (Kxl m302.cel 2 ((show _ = Value.bool s.2 from rfl).trans (congrArg Value.bool c84))) (KLq KbF (KLq KbF (KLe (KWcF (Wx (seqX (lpX (blkX (sN (Ws (Ws ?_)))))))))))
   have he9G := grs_end (l := l) (r := r) (s := s) (.inr c84)
   have eoG : gl = (gsV l).1 := by have q9 := hol; rw [he9G] at q9; simpa using q9
   have esG : s = (gsV l).2 := by have q9 := hst; rw [he9G] at q9; exact q9
   have m306 : Blk w53 g2 3 (ctY a n c ((gsV l).2)) 66 := by have q9 := m302; rw [esG] at q9; exact q9
   have hnG : n8 = (gsV l).1.length := by rw [← eoG]; exact hnl
   have m307 : Fx.Own w53 w.heap.size 59 5 (.slice bo (n8) (do9)) n8 (grsX (gsV l).1) := by have q9 := m304; rw [eoG] at q9; exact q9
   have m308 : Blk w53 g3 20 (stY (stS (rawV l) ao co bo do9)) 29 := by have q9 := m303; rw [hnN, hnG, G_end] at q9; exact q9
   have m309 : Fx.Own w53 w.heap.size 50 56 (.slice ao ((rawV l).ns.length) (co)) ((rawV l).ns.length) (ndsX (rawV l).ns) := by have q9 := m305; rw [hnN] at q9; exact q9
   have m310 : Fx.Own w53 w.heap.size 59 5 (.slice bo ((rawV l).gs.length) (do9)) ((rawV l).gs.length) (grsX (rawV l).gs) := by have q9 := m307; rw [hnG] at q9; exact q9
   refine Wl (KLh h27 (KLq ((pt g2)) (KLq ((pf g2 2)) ?_)))
   by_cases c113 : (((gsV l).2).2) = true
   ·refine Lv KbT (Kxl m306.cel 2 ((show _ = Value.bool (((gsV l).2).2) from rfl).trans (congrArg Value.bool c113))) (KLq KbT (KLu (KLu (KLu (KLq KbT (KLq KbT (KLu (KLu (KLu (KLu (KLu (KLq KbT (KLe (KWcT (KWsl (KLq (.agg (varr 20 (fun zq => if zq < 12 then .bool false else if zq < 18 then Ku6 0 else .slice none 0 0))) (KLsA m301 0 (ha := h26) (h1 := (fun jq _ => by show ((fun zq => if zq < 12 then .bool false else if zq < 18 then Ku6 0 else .slice none 0 0 : Nat → Value) jq).oneCell' = true; simp only []; repeat (first | rfl | split))) fun w54 m311 s45 z30 => ?_)))))))))))))))))
    have m312 : Blk w54 g1 20 (fun zq => if zq < 12 then .bool false else if zq < 18 then Ku6 0 else .slice none 0 0) 29 := ovr_all m311
    have m313 : Blk w54 g1 20 (stY mz) 29 := m312.congr (fun j hj => match j, hj with | 0, _ => rfl | 1, _ => rfl | 2, _ => rfl | 3, _ => rfl | 4, _ => rfl | 5, _ => rfl | 6, _ => rfl | 7, _ => rfl | 8, _ => rfl | 9, _ => rfl | 10, _ => rfl | 11, _ => rfl | 12, _ => rfl | 13, _ => rfl | 14, _ => rfl | 15, _ => rfl | 16, _ => rfl | 17, _ => rfl | 18, _ => rfl | 19, _ => rfl | j + 20, h => absurd h (by omega))
    have m315 := m308.stp s45 (by omega)
    have b54 := s45.below b53 b53.size (by omega)
    refine KLq (Ki6 5) (KLe (Wr (sR (⟨.tuple #[.agg (varr 20 (stY mz)), Ki6 5], retV2 Try.results10 ⟨_, h26, run_loadV m313.cel (by kernel_rfl) (by kernel_rfl)⟩ (by exact rfl), ?_⟩))))
    have hg9 := get_n (l := l) (fun h => by have q9 := h.1; rw [c113] at q9; cases q9)
    rw [hg9.1, hg9.2]
    exact ⟨none, 0, none, 0, rfl, oNl _ _ _ _ _, oNl _ _ _ _ _, b54⟩
   rw [Bool.not_eq_true] at c113
   refine Lv KbF (Kxl m306.cel 2 ((show _ = Value.bool (((gsV l).2).2) from rfl).trans (congrArg Value.bool c113))) (KLq KbF (KLh h25 (KLq (Ki6 n) ?_)))
   by_cases c117 : (n : Int) = 0
   ·refine Lv KbT (KeqT c117) (KLq KbT (KLq KbT (KLu (KLu (KLu (KLu (KLu (KLq KbT (KLe (KWcT (KWsl (KLq (.agg (varr 20 (fun zq => if zq < 12 then .bool false else if zq < 18 then Ku6 0 else .slice none 0 0))) (KLsA m301 0 (ha := h26) (h1 := (fun jq _ => by show ((fun zq => if zq < 12 then .bool false else if zq < 18 then Ku6 0 else .slice none 0 0 : Nat → Value) jq).oneCell' = true; simp only []; repeat (first | rfl | split))) fun w55 m318 s46 z31 => ?_)))))))))))))
    have m319 : Blk w55 g1 20 (fun zq => if zq < 12 then .bool false else if zq < 18 then Ku6 0 else .slice none 0 0) 29 := ovr_all m318
    have m320 : Blk w55 g1 20 (stY mz) 29 := m319.congr (fun j hj => match j, hj with | 0, _ => rfl | 1, _ => rfl | 2, _ => rfl | 3, _ => rfl | 4, _ => rfl | 5, _ => rfl | 6, _ => rfl | 7, _ => rfl | 8, _ => rfl | 9, _ => rfl | 10, _ => rfl | 11, _ => rfl | 12, _ => rfl | 13, _ => rfl | 14, _ => rfl | 15, _ => rfl | 16, _ => rfl | 17, _ => rfl | 18, _ => rfl | 19, _ => rfl | j + 20, h => absurd h (by omega))
    have m322 := m308.stp s46 (by omega)
    have b55 := s46.below b53 b53.size (by omega)
    refine KLq (Ki6 5) (KLe (Wr (sR (⟨.tuple #[.agg (varr 20 (stY mz)), Ki6 5], retV2 Try.results10 ⟨_, h26, run_loadV m320.cel (by kernel_rfl) (by kernel_rfl)⟩ (by exact rfl), ?_⟩))))
    have hg9 := get_n (l := l) (fun h => h.2.1 (List.eq_nil_of_length_eq_zero (by omega)))
    rw [hg9.1, hg9.2]
    exact ⟨none, 0, none, 0, rfl, oNl _ _ _ _ _, oNl _ _ _ _ _, b55⟩
   refine Lv KbF (KeqF c117) (KLq KbF (KLq KbF (Lv (.agg (varr 20 (stY (stS (rawV l) ao co bo do9)))) (KxA m308.cel 0 (ha := h28)) (KLc (s_put (rawV l) ao co bo do9 _ ⟨raw_r, Nat.le_trans raw_len.1 (by decide), Nat.le_trans raw_len.2 (by decide), m309.arr, m310.arr, m309.le, m310.le⟩) ?_))))
   rintro e9 w56 ⟨pa3, pc3, he, hm4, hb4⟩
   refine ⟨_, he, ?_⟩
   clear he
   have ⟨m326, m328, m329, m330, b56⟩ := KTk5 hb4 m301 m308 m309 m310 b53
   have m325 : Fx.Own w56 w.heap.size 5 1 (.slice pa3 ((putB (rawV l)).length) (pc3)) ((putB (rawV l)).length) (Fx.byY (putB (rawV l))) := hm4.mono b53.size
   refine KLh h25 ?_
   by_cases c123 : (decide (putB (rawV l) = l)) = true
   ·refine KLc0 (b_equal pa3 a ((putB (rawV l)).length) pc3 n c (putB (rawV l)) l _ rfl hn m325.arr (hb.up b56 rfl)) KbT (by rw [c123]) (KLq KbF (KLq KbF (KLe (KWcF (Wk (sN (KWsl (Lv (.agg (varr 20 (stY (stS (rawV l) ao co bo do9)))) (KxA m328.cel 0 (ha := h28)) (KLsA m326 0 (ha := h26) (h1 := (fun j _ => stY_one _ j)) fun w57 m331 s48 z32 => ?_)))))))))
    have m332 : Blk w57 g1 20 (stY (stS (rawV l) ao co bo do9)) 29 := ovr_all m331
    have hct39 := cOs s48 m326.ty
    have m335 := m328.stp s48 (by omega)
    have ⟨m336, m337⟩ := KCk2 hct39 m329 m330
    have b57 := s48.below b56 b56.size (by omega)
    refine KLq (Ki6 0) (KLe (Wr (⟨.tuple #[.agg (varr 20 (stY (stS (rawV l) ao co bo do9))), Ki6 0], retV2 Try.results10 ⟨_, h26, run_loadV m332.cel (by kernel_rfl) (by kernel_rfl)⟩ (by exact rfl), ?_⟩)))
    have hg9 := get_y (l := l) ⟨c113, (fun h => by rw [h] at hn; exact absurd hn (by rw [List.length_nil]; omega)), of_decide_eq_true c123⟩
    rw [hg9.1, hg9.2]
    exact ⟨ao, co, bo, do9, rfl, m336, m337, b57⟩
   rw [Bool.not_eq_true] at c123
   refine KLc0 (b_equal pa3 a ((putB (rawV l)).length) pc3 n c (putB (rawV l)) l _ rfl hn m325.arr (hb.up b56 rfl)) KbF (by rw [c123]) (KLq KbT (KLq KbT (KLe (KWcT (KWsl (KLq (.agg (varr 20 (fun zq => if zq < 12 then .bool false else if zq < 18 then Ku6 0 else .slice none 0 0))) (KLsA m326 0 (ha := h26) (h1 := (fun jq _ => by show ((fun zq => if zq < 12 then .bool false else if zq < 18 then Ku6 0 else .slice none 0 0 : Nat → Value) jq).oneCell' = true; simp only []; repeat (first | rfl | split))) fun w58 m339 s49 z33 => ?_)))))))
   have m340 : Blk w58 g1 20 (fun zq => if zq < 12 then .bool false else if zq < 18 then Ku6 0 else .slice none 0 0) 29 := ovr_all m339
   have m341 : Blk w58 g1 20 (stY mz) 29 := m340.congr (fun j hj => match j, hj with | 0, _ => rfl | 1, _ => rfl | 2, _ => rfl | 3, _ => rfl | 4, _ => rfl | 5, _ => rfl | 6, _ => rfl | 7, _ => rfl | 8, _ => rfl | 9, _ => rfl | 10, _ => rfl | 11, _ => rfl | 12, _ => rfl | 13, _ => rfl | 14, _ => rfl | 15, _ => rfl | 16, _ => rfl | 17, _ => rfl | 18, _ => rfl | 19, _ => rfl | j + 20, h => absurd h (by omega))
   have m343 := m328.stp s49 (by omega)
   have b58 := s49.below b56 b56.size (by omega)
   refine KLq (Ki6 5) (KLe (Wr (sR (⟨.tuple #[.agg (varr 20 (stY mz)), Ki6 5], retV2 Try.results10 ⟨_, h26, run_loadV m341.cel (by kernel_rfl) (by kernel_rfl)⟩ (by exact rfl), ?_⟩))))
   have hg9 := get_n (l := l) (fun h => (of_decide_eq_false c123) h.2.2)
   rw [hg9.1, hg9.2]
   exact ⟨none, 0, none, 0, rfl, oNl _ _ _ _ _, oNl _ _ _ _ _, b58⟩
  rw [Bool.not_eq_true] at c84
  refine Lv KbF (Kxl m302.cel 2 ((show _ = Value.bool s.2 from rfl).trans (congrArg Value.bool c84))) (KLq KbT (KLq KbT (KLe (KWcT (Wk (sN (Ws (Wb (Ws ?_)))))))))
  have hbad : s.2 = false := c84
  have hc1 := @cut1 l s
  refine Wl (KLh h27 (KLc1 (c_number g2 a n c l s 1 _ (by decide) (by rw [hn]; exact hs) hn hc hl (hb.up b53 rfl) m302) _ rfl ?_))
  rintro w59 ⟨hq15, s50⟩
  have hct41 := cOs s50 m302.ty
  have ⟨m348, m349, m350, m351⟩ := KCk4 hct41 m301 m303 m304 m305
  have b59 := s50.below b53 b53.size (by omega)
  have m347 : Blk w59 g2 3 (ctY a n c (cutS l s 1)) 66 := hq15
  refine Lv (Ki6 (cutV l s 1)) (x_conv rfl rfl (by kernel_rfl) Try.underlying3 (i64e (by omega) rfl)) (KLh h27 (KLc1 (c_number g2 a n c l (cutS l s 1) 8 _ (by decide) (by rw [hn]; exact cut_le hs) hn hc hl (hb.up b59 rfl) m347) _ rfl ?_))
  rintro w60 ⟨hq16, s51⟩
  have hct42 := cOs s51 m347.ty
  have ⟨m353, m354, m355, m356⟩ := KCk4 hct42 m348 m349 m350 m351
  have b60 := s51.below b59 b59.size (by omega)
  have m352 : Blk w60 g2 3 (ctY a n c (cutN l 8 1 (cutS l s 1))) 66 := hq16
  refine KLh h27 (KLc1 (c_number g2 a n c l (cutN l 8 1 (cutS l s 1)) 8 _ (by decide) (by rw [hn]; exact cutN_le (cut_le hs) 1) hn hc hl (hb.up b60 rfl) m352) _ rfl ?_)
  rintro w61 ⟨hq17, s52⟩
  have hct43 := cOs s52 m352.ty
  have ⟨m358, m359, m360, m361⟩ := KCk4 hct43 m353 m354 m355 m356
  have b61 := s52.below b60 b60.size (by omega)
  have m357 : Blk w61 g2 3 (ctY a n c (cutN l 8 2 (cutS l s 1))) 66 := hq17
  refine KLq (.agg (varr 5 (ovr (ovr (ovr (fun zq => if zq < 1 then Ki6 0 else if zq < 3 then Ku6 0 else if zq < 4 then Ki6 0 else Ku6 0) 0 1 (fun _ => Ki6 (cutV l s 1))) 1 1 (fun _ => Ku6 (rowV l (cutS l s 1) 8 0))) 2 1 (fun _ => Ku6 (rowV l (cutS l s 1) 8 1))))) (KLw 5 (fun zq => if zq < 1 then Ki6 0 else if zq < 3 then Ku6 0 else if zq < 4 then Ki6 0 else Ku6 0) fun g10 w62 eg10 m362 s53 z34 => ?_)
  have ⟨m363, m364, m365, m366, m367, b62⟩ := KTk6 s53.old m358 m359 m360 m361 m357 b61
  have lg10 := KGk eg10 b61.size
  have ⟨ng10m363, ng10m364⟩ := KNk2 eg10 m358.lt m359.lt
  have ng10m365 : (.slice bo (n8) (do9) : Value).ownBlock ≠ some g10 := by rw [eg10]; exact m360.notNew (Nat.le_refl _)
  have ng10m367 := KNk1 eg10 m357.lt
  have tg10 := m362.lt
  refine KLsA m362 0 (h1 := (ovr_ones (ovr_ones (ovr_ones (fun jq _ => by show ((fun zq => if zq < 1 then Ki6 0 else if zq < 3 then Ku6 0 else if zq < 4 then Ki6 0 else Ku6 0 : Nat → Value) jq).oneCell' = true; simp only []; repeat (first | rfl | split)) (fun _ _ => rfl)) (fun _ _ => rfl)) (fun _ _ => rfl))) fun w63 m368 s54 z35 => ?_
  have m369 : Blk w63 g10 5 (ovr (ovr (ovr (fun zq => if zq < 1 then Ki6 0 else if zq < 3 then Ku6 0 else if zq < 4 then Ki6 0 else Ku6 0) 0 1 (fun _ => Ki6 (cutV l s 1))) 1 1 (fun _ => Ku6 (rowV l (cutS l s 1) 8 0))) 2 1 (fun _ => Ku6 (rowV l (cutS l s 1) 8 1))) 59 := ovr_all m368
  have m370 : Blk w63 g10 5 (grZ ⟨cutV l s 1, rowV l (cutS l s 1) 8 0, rowV l (cutS l s 1) 8 1, 0, 0⟩) 59 := m369.congr (fun j hj => match j, hj with | 0, _ => rfl | 1, _ => rfl | 2, _ => rfl | 3, _ => rfl | 4, _ => rfl | j + 5, h => absurd h (by omega))
  have hct44 := cOs s54 m362.ty
  have ⟨m371, m372⟩ := KCk2 hct44 m363 m364
  have m373 := m365.stp s54 ng10m365
  have ⟨m374, m375⟩ := KCk2 hct44 m366 m367
  have b63 := s54.below b62 b62.size (by omega)
  refine KLe (KWsl (KLh h27 (KLc1 (c_number g2 a n c l (cutN l 8 2 (cutS l s 1)) 8 _ (by decide) (by rw [hn]; exact cutN_le (cut_le hs) 2) hn hc hl (hb.up b63 rfl) m375) _ rfl ?_)))
  rintro w64 ⟨hq18, s55⟩
  have hct45 := cOs s55 m375.ty
  have ⟨m377, m378, m379, m380, m381⟩ := KCk5 hct45 m371 m372 m373 m374 m370
  have b64 := s55.below b63 b63.size (by omega)
  have m376 : Blk w64 g2 3 (ctY a n c (cutN l 8 3 (cutS l s 1))) 66 := hq18
  refine Lv (Ki6 (i64w (rowV l (cutS l s 1) 8 2))) (x_conv rfl rfl (by kernel_rfl) Try.underlying2 rfl) (KLh h27 (KLc1 (c_number g2 a n c l (cutN l 8 3 (cutS l s 1)) 8 _ (by decide) (by rw [hn]; exact cutN_le (cut_le hs) 3) hn hc hl (hb.up b64 rfl) m376) _ rfl ?_))
  rintro w65 ⟨hq19, s56⟩
  have hct46 := cOs s56 m376.ty
  have ⟨m383, m384, m385, m386, m387⟩ := KCk5 hct46 m377 m378 m379 m380 m381
  have b65 := s56.below b64 b64.size (by omega)
  have m382 : Blk w65 g2 3 (ctY a n c (grS l s)) 66 := hq19
  refine KLq ((pf g10 3)) (KLs m387 3 (Ki6 (i64w (rowV l (cutS l s 1) 8 2))) fun w66 m388 s57 z36 => ?_)
  have m389 : Blk w66 g10 5 (grZ ⟨cutV l s 1, rowV l (cutS l s 1) 8 0, rowV l (cutS l s 1) 8 1, i64w (rowV l (cutS l s 1) 8 2), 0⟩) 59 := m388.congr (fun j hj => by rcases j with _|_|_|_|_|j <;> first | rfl | omega)
  have hct47 := cOs s57 m387.ty
  have ⟨m390, m391⟩ := KCk2 hct47 m383 m384
  have m392 := m385.stp s57 ng10m365
  have ⟨m393, m394⟩ := KCk2 hct47 m386 m382
  have b66 := s57.below b65 b65.size (by omega)
  refine KLq ((pf g10 4)) (KLs m389 4 (Ku6 (rowV l (cutS l s 1) 8 3)) fun w67 m395 s58 z37 => ?_)
  have m396 : Blk w67 g10 5 (grZ (grV l s)) 59 := m395.congr (fun j hj => by rcases j with _|_|_|_|_|j <;> first | rfl | omega)
  have hct48 := cOs s58 m389.ty
  have ⟨m397, m398⟩ := KCk2 hct48 m390 m391
  have m399 := m392.stp s58 ng10m365
  have ⟨m400, m401⟩ := KCk2 hct48 m393 m394
  have b67 := s58.below b66 b66.size (by omega)
  refine KLe (Wl (Lv ((pf g3 19)) (Kxf h28 19) (Lv (.slice bo (n8) (do9)) (Kxl m398.cel 19) (Lv (.agg (varr 5 (grZ (grV l s)))) (KxA m396.cel 0) (Lbs (vs := [(0, .agg (varr 5 (grZ (grV l s))))]) (s := 5) (zc := fun zq => if zq < 1 then Ki6 0 else if zq < 3 then Ku6 0 else if zq < 4 then Ki6 0 else Ku6 0) (y := ovr (fun j => (fun zq => if zq < 1 then Ki6 0 else if zq < 3 then Ku6 0 else if zq < 4 then Ki6 0 else Ku6 0) (j % 5)) (0 * 5) 5 (grZ (grV l s))) (by rfl) rfl rfl Try.underlying27 (by kernel_rfl) (by rfl) (by rfl) (by kernel_rfl) (by rw [fill_step (off := 0 * 5) (s := 5) (y := grZ (grV l s)) rfl (cells_agg _ _) (by rfl)]; rfl) rfl fun g11 w68 eg11 m402 s59 z38 => ?_)))))
  have ⟨m403, m404, m405, m406, m407, m408, b68⟩ := KTk7 s59.old m397 m398 m399 m400 m401 m396 b67
  have lg11 := KGk eg11 b67.size
  have ⟨ng11m403, ng11m404⟩ := KNk2 eg11 m397.lt m398.lt
  have ng11m405 : (.slice bo (n8) (do9) : Value).ownBlock ≠ some g11 := by rw [eg11]; exact m399.notNew (Nat.le_refl _)
  have ⟨ng11m407, ng11m408⟩ := KNk2 eg11 m401.lt m396.lt
  have tg11 := m402.lt
  refine Lap (B := w.heap.size) (s := 5) (bytes := 40) (k := n8) (m := 1) (v := .slice bo (n8) (do9)) (x := grsX gl) (by rfl) rfl rfl rfl Try.underlying27 (by kernel_rfl) (by kernel_rfl) rfl rfl m405 m402.cel (fun j hj => by unfold ovr; rw [if_pos ⟨by omega, by omega⟩]; exact grZ_one _ _) (by omega) (by omega) (by omega) b68.size fun g12 cap3 w69 ho3 hg3 hgv3 hlt3 => ?_
  have hct49 := cOg hg3 m405
  have ⟨m410, m411, m412, m413⟩ := KCk4 hct49 m403 m404 m406 m407
  have ng12m414 : g10 ≠ g12 := fun e => hgv3.elim (fun e2 => ng10m365 (by rw [e]; exact e2)) (fun e2 => by have := m408.lt; omega)
  have m409 : Fx.Own w69 w.heap.size 59 5 (Ksl g12 (n8 + 1) cap3) (n8 + 1) (grsX (gl ++ [(grV l s)])) := (ho3.congr (grs_app1 (l := gl) (x := (grV l s)) hnl))
  have b69 : Below w.heap.size w w69 := bGr b68 hg3 b68.size (fun q hq => (m405.ge hq).1)
  refine Lv ((pf g3 19)) (Kxf h28 19) (KLs m411 19 (Ksl g12 (n8 + 1) cap3) fun w70 m415 s60 z39 => ?_)
  have m416 : Blk w70 g3 20 (stY (GN l ao n9 co (some ⟨g12, 0, none⟩) (n8 + 1) cap3)) 29 := m415.congr G_gs
  have m417 := m410.stp s60 (by omega)
  have hct50 := cOs s60 m411.ty
  have ⟨m418, m419, m421⟩ := KCk3 hct50 m412 m413 m409
  have b70 := s60.below b69 b69.size (by omega)
  refine Ln (blkN (sN (Wl (KLh h29 (Lv (Ku6 ((r : Int) - 1)) KxM (KLq (Ku6 ((r : Int) - 1)) (Ln ?_)))))))
  skip
  refine lpN ⟨kE - 1, (by omega), r - 1, grS l s, gl ++ [(grV l s)], n8 + 1, (some ⟨g12, 0, none⟩), cap3, (by omega), (cutN_le (cut_le hs) 4), (ol_step (p := grsV l r s) (S := (grsV l (r - 1) (grS l s)).2) hol (grs_step (by omega) hbad)), (by rw [← hst, grs_step (by omega) hbad]), (by rw [List.length_append]; exact congrArg (· + 1) hnl), (by omega), h25, h26, h27, h28, Fx.ic, m417, m419, m416, m421, m418, b70⟩ (by decide)
 refine Lv KbF (KgtF c79) (KLq KbF (KLu (KLu (KLu (KLu (KLu (KLq KbF (KLe (KWcF (Wx (seqX (lpX (blkX (sN (Ws (Ws ?_))))))))))))))))
 have he9G := grs_end (l := l) (r := r) (s := s) (.inl (by omega))
 have eoG : gl = (gsV l).1 := by have q9 := hol; rw [he9G] at q9; simpa using q9
 have esG : s = (gsV l).2 := by have q9 := hst; rw [he9G] at q9; exact q9
 have m422 : Blk w53 g2 3 (ctY a n c ((gsV l).2)) 66 := by have q9 := m302; rw [esG] at q9; exact q9
 have hnG : n8 = (gsV l).1.length := by rw [← eoG]; exact hnl
 have m423 : Fx.Own w53 w.heap.size 59 5 (.slice bo (n8) (do9)) n8 (grsX (gsV l).1) := by have q9 := m304; rw [eoG] at q9; exact q9
 have m424 : Blk w53 g3 20 (stY (stS (rawV l) ao co bo do9)) 29 := by have q9 := m303; rw [hnN, hnG, G_end] at q9; exact q9
 have m425 : Fx.Own w53 w.heap.size 50 56 (.slice ao ((rawV l).ns.length) (co)) ((rawV l).ns.length) (ndsX (rawV l).ns) := by have q9 := m305; rw [hnN] at q9; exact q9
 have m426 : Fx.Own w53 w.heap.size 59 5 (.slice bo ((rawV l).gs.length) (do9)) ((rawV l).gs.length) (grsX (rawV l).gs) := by have q9 := m423; rw [hnG] at q9; exact q9
 refine Wl (KLh h27 (KLq ((pt g2)) (KLq ((pf g2 2)) ?_)))
 by_cases c113 : (((gsV l).2).2) = true
 ·refine Lv KbT (Kxl m422.cel 2 ((show _ = Value.bool (((gsV l).2).2) from rfl).trans (congrArg Value.bool c113))) (KLq KbT (KLu (KLu (KLu (KLq KbT (KLq KbT (KLu (KLu (KLu (KLu (KLu (KLq KbT (KLe (KWcT (KWsl (KLq (.agg (varr 20 (fun zq => if zq < 12 then .bool false else if zq < 18 then Ku6 0 else .slice none 0 0))) (KLsA m301 0 (ha := h26) (h1 := (fun jq _ => by show ((fun zq => if zq < 12 then .bool false else if zq < 18 then Ku6 0 else .slice none 0 0 : Nat → Value) jq).oneCell' = true; simp only []; repeat (first | rfl | split))) fun w71 m427 s61 z40 => ?_)))))))))))))))))
  have m428 : Blk w71 g1 20 (fun zq => if zq < 12 then .bool false else if zq < 18 then Ku6 0 else .slice none 0 0) 29 := ovr_all m427
  have m429 : Blk w71 g1 20 (stY mz) 29 := m428.congr (fun j hj => match j, hj with | 0, _ => rfl | 1, _ => rfl | 2, _ => rfl | 3, _ => rfl | 4, _ => rfl | 5, _ => rfl | 6, _ => rfl | 7, _ => rfl | 8, _ => rfl | 9, _ => rfl | 10, _ => rfl | 11, _ => rfl | 12, _ => rfl | 13, _ => rfl | 14, _ => rfl | 15, _ => rfl | 16, _ => rfl | 17, _ => rfl | 18, _ => rfl | 19, _ => rfl | j + 20, h => absurd h (by omega))
  have m431 := m424.stp s61 (by omega)
  have b71 := s61.below b53 b53.size (by omega)
  refine KLq (Ki6 5) (KLe (Wr (sR (⟨.tuple #[.agg (varr 20 (stY mz)), Ki6 5], retV2 Try.results10 ⟨_, h26, run_loadV m429.cel (by kernel_rfl) (by kernel_rfl)⟩ (by exact rfl), ?_⟩))))
  have hg9 := get_n (l := l) (fun h => by have q9 := h.1; rw [c113] at q9; cases q9)
  rw [hg9.1, hg9.2]
  exact ⟨none, 0, none, 0, rfl, oNl _ _ _ _ _, oNl _ _ _ _ _, b71⟩
 rw [Bool.not_eq_true] at c113
 refine Lv KbF (Kxl m422.cel 2 ((show _ = Value.bool (((gsV l).2).2) from rfl).trans (congrArg Value.bool c113))) (KLq KbF (KLh h25 (KLq (Ki6 n) ?_)))
 by_cases c117 : (n : Int) = 0
 ·refine Lv KbT (KeqT c117) (KLq KbT (KLq KbT (KLu (KLu (KLu (KLu (KLu (KLq KbT (KLe (KWcT (KWsl (KLq (.agg (varr 20 (fun zq => if zq < 12 then .bool false else if zq < 18 then Ku6 0 else .slice none 0 0))) (KLsA m301 0 (ha := h26) (h1 := (fun jq _ => by show ((fun zq => if zq < 12 then .bool false else if zq < 18 then Ku6 0 else .slice none 0 0 : Nat → Value) jq).oneCell' = true; simp only []; repeat (first | rfl | split))) fun w72 m434 s62 z41 => ?_)))))))))))))
  have m435 : Blk w72 g1 20 (fun zq => if zq < 12 then .bool false else if zq < 18 then Ku6 0 else .slice none 0 0) 29 := ovr_all m434
  have m436 : Blk w72 g1 20 (stY mz) 29 := m435.congr (fun j hj => match j, hj with | 0, _ => rfl | 1, _ => rfl | 2, _ => rfl | 3, _ => rfl | 4, _ => rfl | 5, _ => rfl | 6, _ => rfl | 7, _ => rfl | 8, _ => rfl | 9, _ => rfl | 10, _ => rfl | 11, _ => rfl | 12, _ => rfl | 13, _ => rfl | 14, _ => rfl | 15, _ => rfl | 16, _ => rfl | 17, _ => rfl | 18, _ => rfl | 19, _ => rfl | j + 20, h => absurd h (by omega))
  have m438 := m424.stp s62 (by omega)
  have b72 := s62.below b53 b53.size (by omega)
  refine KLq (Ki6 5) (KLe (Wr (sR (⟨.tuple #[.agg (varr 20 (stY mz)), Ki6 5], retV2 Try.results10 ⟨_, h26, run_loadV m436.cel (by kernel_rfl) (by kernel_rfl)⟩ (by exact rfl), ?_⟩))))
  have hg9 := get_n (l := l) (fun h => h.2.1 (List.eq_nil_of_length_eq_zero (by omega)))
  rw [hg9.1, hg9.2]
  exact ⟨none, 0, none, 0, rfl, oNl _ _ _ _ _, oNl _ _ _ _ _, b72⟩
 refine Lv KbF (KeqF c117) (KLq KbF (KLq KbF (Lv (.agg (varr 20 (stY (stS (rawV l) ao co bo do9)))) (KxA m424.cel 0 (ha := h28)) (KLc (s_put (rawV l) ao co bo do9 _ ⟨raw_r, Nat.le_trans raw_len.1 (by decide), Nat.le_trans raw_len.2 (by decide), m425.arr, m426.arr, m425.le, m426.le⟩) ?_))))
 rintro e9 w73 ⟨pa4, pc4, he, hm5, hb5⟩
 refine ⟨_, he, ?_⟩
 clear he
 have ⟨m442, m444, m445, m446, b73⟩ := KTk5 hb5 m301 m424 m425 m426 b53
 have m441 : Fx.Own w73 w.heap.size 5 1 (.slice pa4 ((putB (rawV l)).length) (pc4)) ((putB (rawV l)).length) (Fx.byY (putB (rawV l))) := hm5.mono b53.size
 refine KLh h25 ?_
 by_cases c123 : (decide (putB (rawV l) = l)) = true
 ·refine KLc0 (b_equal pa4 a ((putB (rawV l)).length) pc4 n c (putB (rawV l)) l _ rfl hn m441.arr (hb.up b73 rfl)) KbT (by rw [c123]) (KLq KbF (KLq KbF (KLe (KWcF (Wk (sN (KWsl (Lv (.agg (varr 20 (stY (stS (rawV l) ao co bo do9)))) (KxA m444.cel 0 (ha := h28)) (KLsA m442 0 (ha := h26) (h1 := (fun j _ => stY_one _ j)) fun w74 m447 s64 z42 => ?_)))))))))
  have m448 : Blk w74 g1 20 (stY (stS (rawV l) ao co bo do9)) 29 := ovr_all m447
  have hct53 := cOs s64 m442.ty
  have m451 := m444.stp s64 (by omega)
  have ⟨m452, m453⟩ := KCk2 hct53 m445 m446
  have b74 := s64.below b73 b73.size (by omega)
  refine KLq (Ki6 0) (KLe (Wr (⟨.tuple #[.agg (varr 20 (stY (stS (rawV l) ao co bo do9))), Ki6 0], retV2 Try.results10 ⟨_, h26, run_loadV m448.cel (by kernel_rfl) (by kernel_rfl)⟩ (by exact rfl), ?_⟩)))
  have hg9 := get_y (l := l) ⟨c113, (fun h => by rw [h] at hn; exact absurd hn (by rw [List.length_nil]; omega)), of_decide_eq_true c123⟩
  rw [hg9.1, hg9.2]
  exact ⟨ao, co, bo, do9, rfl, m452, m453, b74⟩
 rw [Bool.not_eq_true] at c123
 refine KLc0 (b_equal pa4 a ((putB (rawV l)).length) pc4 n c (putB (rawV l)) l _ rfl hn m441.arr (hb.up b73 rfl)) KbF (by rw [c123]) (KLq KbT (KLq KbT (KLe (KWcT (KWsl (KLq (.agg (varr 20 (fun zq => if zq < 12 then .bool false else if zq < 18 then Ku6 0 else .slice none 0 0))) (KLsA m442 0 (ha := h26) (h1 := (fun jq _ => by show ((fun zq => if zq < 12 then .bool false else if zq < 18 then Ku6 0 else .slice none 0 0 : Nat → Value) jq).oneCell' = true; simp only []; repeat (first | rfl | split))) fun w75 m455 s65 z43 => ?_)))))))
 have m456 : Blk w75 g1 20 (fun zq => if zq < 12 then .bool false else if zq < 18 then Ku6 0 else .slice none 0 0) 29 := ovr_all m455
 have m457 : Blk w75 g1 20 (stY mz) 29 := m456.congr (fun j hj => match j, hj with | 0, _ => rfl | 1, _ => rfl | 2, _ => rfl | 3, _ => rfl | 4, _ => rfl | 5, _ => rfl | 6, _ => rfl | 7, _ => rfl | 8, _ => rfl | 9, _ => rfl | 10, _ => rfl | 11, _ => rfl | 12, _ => rfl | 13, _ => rfl | 14, _ => rfl | 15, _ => rfl | 16, _ => rfl | 17, _ => rfl | 18, _ => rfl | 19, _ => rfl | j + 20, h => absurd h (by omega))
 have m459 := m444.stp s65 (by omega)
 have b75 := s65.below b73 b73.size (by omega)
 refine KLq (Ki6 5) (KLe (Wr (sR (⟨.tuple #[.agg (varr 20 (stY mz)), Ki6 5], retV2 Try.results10 ⟨_, h26, run_loadV m457.cel (by kernel_rfl) (by kernel_rfl)⟩ (by exact rfl), ?_⟩))))
 have hg9 := get_n (l := l) (fun h => (of_decide_eq_false c123) h.2.2)
 rw [hg9.1, hg9.2]
 exact ⟨none, 0, none, 0, rfl, oNl _ _ _ _ _, oNl _ _ _ _ _, b75⟩
end Go.Proofs.Ytkajcjefckjijaa
namespace Go.Proofs.Ytkajcjefckjijaa
namespace Crc
def bw (x : Bool) : W32 := if x then 1#32 else 0#32
def S (t : W32) (x : Nat → Bool) : Nat → W32
  | 0 => t
  | n + 1 => stp (S t x n ^^^ bw (x n))
end Crc
end Go.Proofs.Ytkajcjefckjijaa
namespace Go.Proofs.Ytkajcjefckjijaa
open Go.RowKit Rt
open Fx (x_move x_assign x_field x_load1 x_conv x_indexS x_index x_leqF x_loadA x_len x_gtrF x_eqlF x_eqlT Lv sN Ln Ws Qv Wl Rp Wc Qs Wr Sb Lk Wk rV sR Rs Rn Rd Rk Wb Wx Wo WoE Wt Wone Qn Qcl Lcl Lbs Lap Lnw Lbx Stv cOs cOg sRf mRf gRf cRf oNl bGr WsJ Wro rv varr Blk ovr putI ev Stp ovr_all flat updV Mp run_loadV Cel fill_step ret0 Chg i64e Arr flat_cong cells_agg cells_one ChT ovr_ones jnN u64e appX fOne_out upd_all blkR blkN seqX blkX lpX lpN lpR retV2)
section
set_option linter.unusedVariables false
namespace Rt
theorem emod_mul (x d : Int) (hd : 0 < d) : x % (d * 256) = (x / d % 256) * d + x % d := by
  have h1 := Int.mul_ediv_add_emod x d
  have h2 := Int.mul_ediv_add_emod (x / d) 256
  have r1 := Int.emod_nonneg x (Int.ne_of_gt hd)
  have r2 := Int.emod_lt_of_pos x hd
  have r3 := Int.emod_nonneg (x / d) (show (256 : Int) ≠ 0 by decide)
  have r4 := Int.emod_lt_of_pos (x / d) (show (0 : Int) < 256 by decide)
  generalize x / d % 256 = b at *
  generalize x / d / 256 = q at *
  generalize x % d = r at *
  generalize x / d = y at *
  have e : x = (b * d + r) + d * 256 * q := by rw [← h1, ← h2, Int.mul_add, Int.mul_assoc, Int.mul_comm d b]; omega
  rw [e, Int.add_mul_emod_self_left]
  have h5 : b * d ≤ 255 * d := Int.mul_le_mul_of_nonneg_right (by omega) (by omega)
  have h6 : 0 ≤ b * d := Int.mul_nonneg r3 (by omega)
  exact Int.emod_eq_of_lt (by omega) (by omega)
theorem byI_val {x : Int} : ((byI x).toNat : Int) = x % 256 := by
  unfold byI
  have h1 := Int.emod_nonneg x (show (256 : Int) ≠ 0 by decide)
  have h2 := Int.emod_lt_of_pos x (show (0 : Int) < 256 by decide)
  rw [UInt8.toNat_ofNat']
  omega
theorem fold_be : ∀ (k : Nat) (n x : Int), (be k x).foldl (fun n c => n * 256 + Crc.J c) n = n * 256 ^ k + x % 256 ^ k
  | 0, n, x => by show n = n * 1 + x % 1; omega
  | k + 1, n, x => by
    show (be k x).foldl (fun n c => n * 256 + Crc.J c) (n * 256 + ((byI (x / 256 ^ k)).toNat : Int)) = _
    rw [fold_be k, byI_val, Int.pow_succ, emod_mul x (256 ^ k) (Int.pow_pos (by decide)), Int.add_mul, Int.mul_assoc, Int.mul_comm 256 (256 ^ k)]
    omega
theorem val_be {k : Nat} {x : Int} (h : 0 ≤ x ∧ x < 256 ^ k) : valB (be k x) = x := by
  unfold valB; rw [fold_be, Int.zero_mul, Int.zero_add]; exact Int.emod_eq_of_lt h.1 h.2
theorem u64_256 {x : Int} (h : U64r x) : 0 ≤ x ∧ x < 256 ^ 8 := ⟨h.1, by have := h.2; rw [show (256 : Int) ^ 8 = 18446744073709551616 by decide]; omega⟩
section
variable {l A R : List UInt8}
theorem cut_at {k : Nat} {x : List UInt8} (hl : l = A ++ (x ++ R)) (hk : x.length = k) : cutV l (A.length, false) k = valB x ∧ cutS l (A.length, false) k = (A.length + k, false) := by
  subst hk
  have h1 : ¬ ((A.length, false).2 = true ∨ l.length - (A.length, false).1 < x.length) := by
    rw [hl]; rintro (h | h)
    · cases h
    · simp only [List.length_append] at h; omega
  unfold cutV cutS
  rw [if_neg h1, if_neg h1]
  refine ⟨?_, rfl⟩
  show valB ((l.drop A.length).take x.length) = _
  rw [hl, List.drop_left, List.take_left]
theorem row_at (x : Nat → Int) : ∀ (n : Nat) (R : List UInt8), (∀ i, i < n → U64r (x i)) → l = A ++ (rowB x n ++ R) → cutN l 8 n (A.length, false) = (A.length + 8 * n, false) ∧ ∀ i, i < n → rowV l (A.length, false) 8 i = x i
  | 0, R, _, _ => ⟨rfl, fun i h => absurd h (Nat.not_lt_zero _)⟩
  | n + 1, R, hx, hl => by
    have hl2 : l = A ++ (rowB x n ++ (be 8 (x n) ++ R)) := by rw [hl, rowB_succ, List.append_assoc]
    obtain ⟨h1, h2⟩ := row_at x n _ (fun i hi => hx i (by omega)) hl2
    have hl3 : l = (A ++ rowB x n) ++ (be 8 (x n) ++ R) := by rw [hl2, List.append_assoc]
    have hA : (A ++ rowB x n).length = A.length + 8 * n := by rw [List.length_append, rowB_len]
    obtain ⟨h3, h4⟩ := cut_at hl3 (be_len 8 (x n))
    rw [hA] at h3 h4
    refine ⟨?_, fun i hi => ?_⟩
    · show cutS l (cutN l 8 n (A.length, false)) 8 = _
      rw [h1, h4, Nat.mul_succ, Nat.add_assoc]
    · by_cases e : i = n
      · subst e
        show cutV l (cutN l 8 i (A.length, false)) 8 = _
        rw [h1, h3, val_be (u64_256 (hx i (by omega)))]
      · exact h2 i (by omega)
theorem row2_at {a b : Int} (ha : U64r a) (hb : U64r b) (x : Nat → Int) (n : Nat) (hx : ∀ i, i < n → U64r (x i)) (hl : l = A ++ ((be 8 a ++ be 8 b ++ rowB x n) ++ R)) : cutN l 8 (2 + n) (A.length, false) = (A.length + 8 * (2 + n), false) ∧ rowV l (A.length, false) 8 0 = a ∧ rowV l (A.length, false) 8 1 = b ∧ ∀ i, i < n → rowV l (A.length, false) 8 (2 + i) = x i := by
  have e : be 8 a ++ be 8 b ++ rowB x n = rowB (fun i => if i = 0 then a else if i = 1 then b else x (i - 2)) (2 + n) := by
    rw [rowB_cut, show (fun j => (fun i => if i = 0 then a else if i = 1 then b else x (i - 2)) (2 + j)) = x from funext fun j => by show (if 2 + j = 0 then a else if 2 + j = 1 then b else x (2 + j - 2)) = x j; rw [if_neg (by omega), if_neg (by omega), Nat.add_sub_cancel_left]]
    congr 1
  rw [e] at hl
  obtain ⟨h1, h2⟩ := row_at _ (2 + n) R (fun i hi => by
    show U64r (if i = 0 then a else if i = 1 then b else x (i - 2))
    split
    · exact ha
    · split
      · exact hb
      · exact hx _ (by omega)) hl
  refine ⟨h1, h2 0 (by omega), h2 1 (by omega), fun i hi => ?_⟩
  rw [h2 (2 + i) (by omega)]
  show (if 2 + i = 0 then a else if 2 + i = 1 then b else x (2 + i - 2)) = x i
  rw [if_neg (by omega), if_neg (by omega), Nat.add_sub_cancel_left]
theorem i64w_id {x : Int} (h : 0 ≤ x ∧ x ≤ 1125899906842624) : i64w x = x := by
  unfold i64w IntKind.wrap
  simp only [IntKind.bits, IntKind.signed]
  simp
  split <;> omega
theorem ndB_eq (x : NdM) : ndB x = be 8 x.id ++ be 8 x.par ++ rowB x.R 54 := ndB.eq_1 x
theorem nds_at : ∀ (ns : List NdM) (A R : List UInt8), (∀ x ∈ ns, NdR x ∧ ∀ p, p < 54 → 0 ≤ x.R p ∧ x.R p ≤ 1125899906842624) → l = A ++ (ns.flatMap ndB ++ R) →
    (ndsV l ns.length (A.length, false)).2 = (A.length + 448 * ns.length, false) ∧ (ndsV l ns.length (A.length, false)).1.length = ns.length ∧ ∀ k, k < ns.length → SameNd (ndA (ndsV l ns.length (A.length, false)).1 k) (ndA ns k)
  | [], A, R, _, _ => ⟨rfl, rfl, fun k h => absurd h (Nat.not_lt_zero _)⟩
  | x :: ns, A, R, hx, hl => by
    obtain ⟨hr, h50⟩ := hx x (List.mem_cons_self ..)
    have hl1 : l = A ++ ((be 8 x.id ++ be 8 x.par ++ rowB x.R 54) ++ (ns.flatMap ndB ++ R)) := by rw [hl, List.flatMap_cons, List.append_assoc, ndB_eq]
    obtain ⟨h1, h2, h3, h4⟩ := row2_at hr.id hr.par x.R 54 (fun i hi => ⟨(h50 i hi).1, by have := (h50 i hi).2; omega⟩) hl1
    have hl2 : l = (A ++ ndB x) ++ (ns.flatMap ndB ++ R) := by rw [hl, List.flatMap_cons, List.append_assoc, List.append_assoc]
    have hA : (A ++ ndB x).length = A.length + 448 := by rw [List.length_append, ndB_len]
    obtain ⟨g1, g2, g3⟩ := nds_at ns (A ++ ndB x) R (fun y hy => hx y (List.mem_cons_of_mem _ hy)) hl2
    rw [hA] at g1 g2 g3
    have hs : ndS l (A.length, false) = (A.length + 448, false) := h1
    have e : ndsV l (x :: ns).length (A.length, false) = (ndV l (A.length, false) :: (ndsV l ns.length (A.length + 448, false)).1, (ndsV l ns.length (A.length + 448, false)).2) := by
      rw [List.length_cons, nds_step (Nat.succ_pos _) rfl, hs]; rfl
    rw [e]
    refine ⟨by rw [List.length_cons]; show (ndsV l ns.length (A.length + 448, false)).2 = _; rw [g1, show A.length + 448 + 448 * ns.length = A.length + 448 * (ns.length + 1) by omega], by simp only [List.length_cons]; rw [g2], fun k hk => ?_⟩
    cases k with
    | zero => exact ⟨h2, h3, fun p hp => by show i64w (rowV l (A.length, false) 8 (2 + p)) = x.R p; rw [h4 p hp, i64w_id (h50 p hp)]⟩
    | succ k => exact g3 k (by simpa using hk)
theorem grs_at : ∀ (gs : List GrM) (A R : List UInt8), (∀ x ∈ gs, GrR x ∧ 0 ≤ x.o ∧ x.o ≤ 255 ∧ 0 ≤ x.a ∧ x.a ≤ 1125899906842624) → l = A ++ (gs.flatMap grB ++ R) →
    (grsV l gs.length (A.length, false)).2 = (A.length + 33 * gs.length, false) ∧ (grsV l gs.length (A.length, false)).1 = gs
  | [], A, R, _, _ => ⟨rfl, rfl⟩
  | x :: gs, A, R, hx, hl => by
    obtain ⟨hr, ho1, ho2, ha1, ha2⟩ := hx x (List.mem_cons_self ..)
    have hl1 : l = A ++ (be 1 x.o ++ (rowB (four x.r x.n x.a x.b) 4 ++ (gs.flatMap grB ++ R))) := by rw [hl, List.flatMap_cons, four_row]; simp [grB, be]
    obtain ⟨c1, c2⟩ := cut_at hl1 (be_len 1 x.o)
    have hl2 : l = (A ++ be 1 x.o) ++ (rowB (four x.r x.n x.a x.b) 4 ++ (gs.flatMap grB ++ R)) := by rw [hl1, List.append_assoc]
    obtain ⟨h1, h2⟩ := row_at (four x.r x.n x.a x.b) 4 _ (four_u hr.r hr.n ⟨ha1, by omega⟩ hr.b) hl2
    rw [List.length_append, be_len] at h1 h2
    have hl3 : l = (A ++ grB x) ++ (gs.flatMap grB ++ R) := by rw [hl, List.flatMap_cons, List.append_assoc, List.append_assoc]
    have hA : (A ++ grB x).length = A.length + 33 := by rw [List.length_append, grB_len]
    obtain ⟨g1, g2⟩ := grs_at gs (A ++ grB x) R (fun y hy => hx y (List.mem_cons_of_mem _ hy)) hl3
    rw [hA] at g1 g2
    have hs : grS l (A.length, false) = (A.length + 33, false) := by
      show cutN l 8 4 (cutS l (A.length, false) 1) = _; rw [c2, h1]
    have ev : grV l (A.length, false) = x := by
      unfold grV
      rw [c1, c2, h2 0 (by decide), h2 1 (by decide), h2 2 (by decide), h2 3 (by decide), val_be ⟨ho1, by rw [show (256 : Int) ^ 1 = 256 by decide]; omega⟩]
      show (⟨x.o, x.r, x.n, i64w x.a, x.b⟩ : GrM) = x
      rw [i64w_id ⟨ha1, ha2⟩]
    have e : grsV l (x :: gs).length (A.length, false) = (grV l (A.length, false) :: (grsV l gs.length (A.length + 33, false)).1, (grsV l gs.length (A.length + 33, false)).2) := by
      rw [List.length_cons, grs_step (Nat.succ_pos _) rfl, hs]; rfl
    rw [e, ev]
    refine ⟨by rw [List.length_cons]; show (grsV l gs.length (A.length + 33, false)).2 = _; rw [g1, show A.length + 33 + 33 * gs.length = A.length + 33 * (gs.length + 1) by omega], ?_⟩
    show x :: (grsV l gs.length (A.length + 33, false)).1 = x :: gs
    rw [g2]
theorem fl_val : ∀ (b c : Bool), decide (((flag b c).toNat : Int) % 2 = 1) = b ∧ decide (((flag b c).toNat : Int) / 2 % 2 = 1) = c := by decide
theorem flags_at (m : SnM) (hl : l = A ++ (flagsB m ++ R)) : ∀ n, n ≤ 6 → cutN l 1 n (A.length, false) = (A.length + n, false) ∧ ∀ i, i < n → rowV l (A.length, false) 1 i = ((flag (m.inn i) (m.left i)).toNat : Int)
  | 0, _ => ⟨rfl, fun i h => absurd h (Nat.not_lt_zero _)⟩
  | n + 1, hn => by
    obtain ⟨h1, h2⟩ := flags_at m hl n (by omega)
    have hs : flagsB m = (flagsB m).take n ++ ([flag (m.inn n) (m.left n)] ++ (flagsB m).drop (n + 1)) := by
      have h := flags_get m (i := n) (by omega)
      obtain ⟨hlt, he⟩ := List.getElem?_eq_some_iff.1 h
      rw [← he]; simp
    have hl3 : l = (A ++ (flagsB m).take n) ++ ([flag (m.inn n) (m.left n)] ++ ((flagsB m).drop (n + 1) ++ R)) := by
      rw [hl]; conv => lhs; rw [hs]
      simp
    have hA : (A ++ (flagsB m).take n).length = A.length + n := by rw [List.length_append, List.length_take, flags_len]; omega
    obtain ⟨h3, h4⟩ := cut_at (k := 1) hl3 rfl
    rw [hA] at h3 h4
    refine ⟨?_, fun i hi => ?_⟩
    · show cutS l (cutN l 1 n (A.length, false)) 1 = _
      rw [h1, h4, Nat.add_assoc]
    · by_cases e : i = n
      · subst e
        show cutV l (cutN l 1 i (A.length, false)) 1 = _
        rw [h1, h3]; unfold valB; simp [Crc.J]
      · exact h2 i (by omega)
end
theorem bytes_split (m : SnM) : bytesB m = lsnp ++ (flagsB m ++ (rowB m.known 6 ++ (be 2 m.ns.length ++ (m.ns.flatMap ndB ++ (be 2 m.gs.length ++ (m.gs.flatMap grB ++ be 4 (Crc.I (Crc.sum (bodyB m))))))))) := by
  unfold bytesB bodyB; simp only [List.append_assoc]; rfl
theorem MayP.ndr {m : SnM} (h : MayP m) (hr : SnR m) : ∀ x ∈ m.ns, NdR x ∧ ∀ p, p < 54 → 0 ≤ x.R p ∧ x.R p ≤ 1125899906842624 := fun x hx => by
  obtain ⟨k, hk, e⟩ := List.mem_iff_getElem.1 hx
  have e2 : ndA m.ns k = x := by unfold ndA; rw [List.getD_eq_getElem?_getD, List.getElem?_eq_getElem hk]; exact e
  have := may_ent (h.nd k hk).2.1
  rw [e2] at this
  exact ⟨hr.n x hx, this⟩
theorem MayP.grr {m : SnM} (h : MayP m) (hr : SnR m) : ∀ x ∈ m.gs, GrR x ∧ 0 ≤ x.o ∧ x.o ≤ 255 ∧ 0 ≤ x.a ∧ x.a ≤ 1125899906842624 := fun x hx => by
  obtain ⟨k, hk, e⟩ := List.mem_iff_getElem.1 hx
  have e2 : grA m.gs k = x := by unfold grA; rw [List.getD_eq_getElem?_getD, List.getElem?_eq_getElem hk]; exact e
  obtain ⟨a1, a2, _, _, a5, a6, _⟩ := h.gd k hk
  rw [e2] at a1 a2 a5 a6
  exact ⟨hr.g x hx, by omega, by omega, by omega, a6⟩
theorem raw_put {m : SnM} (h : MayP m) (hr : SnR m) : SameSn (rawV (bytesB m)) m ∧ (gsV (bytesB m)).2.2 = false := by
  obtain ⟨l, hl⟩ : ∃ l, l = bytesB m := ⟨_, rfl⟩
  have hb := bytes_split m
  rw [← hl] at hb ⊢
  have c4 : s4 l = (4, false) := (cut_at (A := []) (x := lsnp) (k := 4) hb rfl).2
  obtain ⟨f1, f2⟩ := flags_at (A := lsnp) m hb 6 (Nat.le_refl _)
  have f2 : ∀ i, i < 6 → rowV l (4, false) 1 i = ((flag (m.inn i) (m.left i)).toNat : Int) := f2
  have c10 : s10 l = (10, false) := by unfold s10; rw [c4]; exact f1
  have hb2 : l = (lsnp ++ flagsB m) ++ (rowB m.known 6 ++ (be 2 m.ns.length ++ (m.ns.flatMap ndB ++ (be 2 m.gs.length ++ (m.gs.flatMap grB ++ be 4 (Crc.I (Crc.sum (bodyB m)))))))) := by rw [hb]; simp only [List.append_assoc]
  have a2 : (lsnp ++ flagsB m).length = 10 := by rw [List.length_append, flags_len]; rfl
  obtain ⟨k1, k2⟩ := row_at m.known 6 _ hr.k hb2
  rw [a2] at k1 k2
  have c58 : s58 l = (58, false) := by unfold s58; rw [c10]; exact k1
  have hb3 : l = (lsnp ++ flagsB m ++ rowB m.known 6) ++ (be 2 m.ns.length ++ (m.ns.flatMap ndB ++ (be 2 m.gs.length ++ (m.gs.flatMap grB ++ be 4 (Crc.I (Crc.sum (bodyB m))))))) := by rw [hb]; simp only [List.append_assoc]
  have a3 : (lsnp ++ flagsB m ++ rowB m.known 6).length = 58 := by rw [List.length_append, a2, rowB_len]
  obtain ⟨n1, n2⟩ := cut_at hb3 (be_len 2 _)
  rw [a3] at n1 n2
  have hnn := h.nn
  have hgn := h.gn
  rw [val_be ⟨by omega, by rw [show (256 : Int) ^ 2 = 65536 by decide]; omega⟩] at n1
  have e1 : nnV l = m.ns.length := by unfold nnV; rw [c58, n1]; rfl
  have c60 : s60 l = (60, false) := by unfold s60; rw [c58]; exact n2
  have hb4 : l = hdB m ++ (m.ns.flatMap ndB ++ (be 2 m.gs.length ++ (m.gs.flatMap grB ++ be 4 (Crc.I (Crc.sum (bodyB m)))))) := by rw [hb]; unfold hdB; simp only [List.append_assoc]
  obtain ⟨d1, d2, d3⟩ := nds_at m.ns (hdB m) _ (h.ndr hr) hb4
  rw [hd_len] at d1 d2 d3
  have eN : nsV l = ndsV l m.ns.length (60, false) := by unfold nsV; rw [e1, c60]
  have hb5 : l = (hdB m ++ m.ns.flatMap ndB) ++ (be 2 m.gs.length ++ (m.gs.flatMap grB ++ be 4 (Crc.I (Crc.sum (bodyB m))))) := by rw [hb4]; simp only [List.append_assoc]
  have a5 : (hdB m ++ m.ns.flatMap ndB).length = 60 + 448 * m.ns.length := by rw [List.length_append, hd_len, fm_len ndB_len]
  obtain ⟨g1, g2⟩ := cut_at hb5 (be_len 2 _)
  rw [a5] at g1 g2
  rw [val_be ⟨by omega, by rw [show (256 : Int) ^ 2 = 65536 by decide]; omega⟩] at g1
  have e2 : gnV l = m.gs.length := by unfold gnV; rw [eN, d1, g1]; rfl
  have hb6 : l = (hdB m ++ m.ns.flatMap ndB ++ be 2 m.gs.length) ++ (m.gs.flatMap grB ++ be 4 (Crc.I (Crc.sum (bodyB m)))) := by rw [hb4]; simp only [List.append_assoc]
  have a6 : (hdB m ++ m.ns.flatMap ndB ++ be 2 m.gs.length).length = 60 + 448 * m.ns.length + 2 := by rw [List.length_append, a5, be_len]
  obtain ⟨q1, q2⟩ := grs_at m.gs _ _ (h.grr hr) hb6
  rw [a6] at q1 q2
  have eG : gsV l = grsV l m.gs.length (60 + 448 * m.ns.length + 2, false) := by unfold gsV; rw [e2, eN, d1, g2]
  refine ⟨⟨fun i hi => ?_, fun i hi => ?_, fun i hi => ?_, ?_, ?_, fun k hk => ?_, fun k hk => ?_⟩, by rw [eG, q1]⟩
  · show decide (rowV l (s4 l) 1 i % 2 = 1) = _
    rw [c4, f2 i hi]; exact (fl_val _ _).1
  · show decide (rowV l (s4 l) 1 i / 2 % 2 = 1) = _
    rw [c4, f2 i hi]; exact (fl_val _ _).2
  · show rowV l (s10 l) 8 i = _
    rw [c10, k2 i hi]
  · show (nsV l).1.length = _; rw [eN, d2]
  · show (gsV l).1.length = _; rw [eG, q2]
  · have hk2 : k < m.ns.length := by rw [show (rawV l).ns = (nsV l).1 from rfl, eN, d2] at hk; exact hk
    show SameNd (ndA (nsV l).1 k) _; rw [eN]; exact d3 k hk2
  show grA (gsV l).1 k = _; rw [eG, q2]
end Rt
end
set_option linter.unusedVariables false
namespace Rt
theorem L_cong {x y : Nat → Int} (e : ∀ p, p < 54 → x p = y p) {k : Nat} (hk : k < 6) : Rt.L x k = Rt.L y k := by
  unfold Rt.L Rt.G Rt.F Rt.C Rt.R
  rw [e k (by omega), e (12 + k) (by omega), e (18 + 0 * 6 + k) (by omega), e (18 + 1 * 6 + k) (by omega), e (18 + 2 * 6 + k) (by omega), e (18 + 3 * 6 + k) (by omega), e (18 + 4 * 6 + k) (by omega), e (18 + 5 * 6 + k) (by omega), e (6 + k) (by omega), e (18 + k * 6 + 0) (by omega), e (18 + k * 6 + 1) (by omega), e (18 + k * 6 + 2) (by omega), e (18 + k * 6 + 3) (by omega), e (18 + k * 6 + 4) (by omega), e (18 + k * 6 + 5) (by omega)]
theorem may_cong {x y : Nat → Int} (e : ∀ p, p < 54 → x p = y p) (h : may x = true) : may y = true := by
  obtain ⟨h1, h2, h3⟩ := (may_iff x).1 h
  refine (may_iff y).2 ⟨fun p hp => by rw [← e p hp]; exact h1 p hp, fun k hk => ?_, ?_⟩
  · obtain ⟨a1, a2, a3⟩ := h2 k hk
    refine ⟨by rw [← L_cong e hk]; exact a1, ?_, ?_⟩
    · unfold Rt.F Rt.C at *; rw [← e (12 + k) (by omega), ← e (6 + k) (by omega)]; exact a2
    unfold Rt.R at *; rw [← e (18 + k * 6 + k) (by omega)]; exact a3
  unfold gSum Rt.G at *
  rw [← e 0 (by omega), ← e 1 (by omega), ← e 2 (by omega), ← e 3 (by omega), ← e 4 (by omega), ← e 5 (by omega)]; exact h3
theorem firstI_cong {p q : Nat → Bool} : ∀ n, (∀ i, i < n → p i = q i) → firstI p n = firstI q n
  | 0, _ => rfl
  | n + 1, h => by
    show (if 0 ≤ firstI p n then firstI p n else if p n then (n : Int) else -1) = (if 0 ≤ firstI q n then firstI q n else if q n then (n : Int) else -1)
    rw [firstI_cong n (fun i hi => h i (by omega)), h n (by omega)]
structure SameI (a b : List NdM) : Prop where
  n : a.length = b.length
  i : ∀ k, k < a.length → (ndA a k).id = (ndA b k).id
  p : ∀ k, k < a.length → (ndA a k).par = (ndA b k).par
theorem SameI.node {a b : List NdM} (h : SameI a b) (x : Int) : nodeI a x = nodeI b x := by
  unfold nodeI; rw [← h.n]; exact firstI_cong _ fun i hi => by rw [h.i i hi]
theorem SameI.ends {a b : List NdM} (h : SameI a b) : ∀ (f : Nat) (x : Int), endsN a f x = endsN b f x
  | 0, _ => rfl
  | f + 1, x => by
    show (if x = 0 then true else if nodeI a x < 0 then false else endsN a f (ndA a (nodeI a x).toNat).par) = (if x = 0 then true else if nodeI b x < 0 then false else endsN b f (ndA b (nodeI b x).toNat).par)
    rw [← h.node x]
    split
    · rfl
    · split
      · rfl
      · rename_i h1 h2
        obtain ⟨j, hj, e, _⟩ := nodeI_ge (l := a) (x := x) (by omega)
        rw [e, Int.toNat_natCast, h.p j hj]; exact SameI.ends h f _
theorem SameSn.i {a b : SnM} (h : SameSn a b) : SameI a.ns b.ns := ⟨h.nn, fun k hk => (h.n k hk).1, fun k hk => (h.n k hk).2.1⟩
theorem GrOk.cong {a b : List NdM} (h : SameI a b) {g : GrM} (hg : GrOk a g) : GrOk b g := by
  obtain ⟨a1, a2, a3, a4, a5, a6, a7⟩ := hg
  exact ⟨a1, a2, a3, by rw [← h.node]; exact a4, a5, a6, a7⟩
theorem MayP.cong {a b : SnM} (h : SameSn a b) (ha : MayP a) : MayP b where
  kn := fun i hi => by rw [← h.known i hi]; exact ha.kn i hi
  nn := by rw [← h.nn]; exact ha.nn
  gn := by rw [← h.gn]; exact ha.gn
  nr := fun k hk => by
    rw [← h.nn] at hk
    rw [← (h.n k (by omega)).1, ← (h.n (k + 1) hk).1]; exact ha.nr k hk
  gr := fun k hk => by
    rw [← h.gn] at hk
    rw [← h.g k (by omega), ← h.g (k + 1) hk]; exact ha.gr k hk
  li := fun i hi hl => by rw [← h.inn i hi]; rw [← h.left i hi] at hl; exact ha.li i hi hl
  nd := fun k hk => by
    rw [← h.nn] at hk
    obtain ⟨a1, a2, a3⟩ := ha.nd k hk
    obtain ⟨e1, e2, e3⟩ := h.n k hk
    exact ⟨by rw [← e1]; exact a1, may_cong e3 a2, by rw [← e1, ← h.i.ends]; exact a3⟩
  gd := fun k hk => by
    rw [← h.gn] at hk
    rw [← h.g k hk]; exact GrOk.cong h.i (ha.gd k hk)
theorem SameSn.symm {a b : SnM} (h : SameSn a b) : SameSn b a := ⟨fun i hi => (h.inn i hi).symm, fun i hi => (h.left i hi).symm, fun i hi => (h.known i hi).symm, h.nn.symm, h.gn.symm, fun k hk => by rw [← h.nn] at hk; obtain ⟨a1, a2, a3⟩ := h.n k hk; exact ⟨a1.symm, a2.symm, fun p hp => (a3 p hp).symm⟩, fun k hk => by rw [← h.gn] at hk; exact (h.g k hk).symm⟩
theorem rowB_cong {x y : Nat → Int} : ∀ n, (∀ i, i < n → x i = y i) → rowB x n = rowB y n
  | 0, _ => rfl
  | n + 1, h => by rw [rowB_succ, rowB_succ, rowB_cong n (fun i hi => h i (by omega)), h n (by omega)]
theorem grs_ext {a b : List GrM} (hl : a.length = b.length) (h : ∀ k, k < a.length → grA a k = grA b k) : a = b := by
  refine List.ext_getElem hl fun k h1 h2 => ?_
  have := h k h1
  unfold grA at this
  rwa [List.getD_eq_getElem?_getD, List.getD_eq_getElem?_getD, List.getElem?_eq_getElem h1, List.getElem?_eq_getElem h2] at this
theorem body_cong {a b : SnM} (h : SameSn a b) : bodyB a = bodyB b := by
  have h1 : flagsB a = flagsB b := by
    unfold flagsB
    refine List.map_congr_left fun i hi => ?_
    have hi : i < 6 := List.mem_range.1 hi
    rw [h.inn i hi, h.left i hi]
  have h2 : a.ns.flatMap ndB = b.ns.flatMap ndB := by
    rw [List.flatMap_def, List.flatMap_def]
    congr 1
    refine List.ext_getElem (by rw [List.length_map, List.length_map, h.nn]) fun k q1 q2 => ?_
    rw [List.length_map] at q1 q2
    have := h.n k q1
    unfold ndA at this
    rw [List.getD_eq_getElem?_getD, List.getD_eq_getElem?_getD, List.getElem?_eq_getElem q1, List.getElem?_eq_getElem q2] at this
    obtain ⟨a1, a2, a3⟩ := this
    rw [List.getElem_map, List.getElem_map, ndB_eq, ndB_eq]
    simp only [Option.getD_some] at a1 a2 a3
    rw [a1, a2, rowB_cong 54 a3]
  have h3 : a.gs = b.gs := grs_ext h.gn h.g
  unfold bodyB
  rw [h1, h2, h3, rowB_cong 6 h.known, h.nn]
theorem bytes_cong {a b : SnM} (h : SameSn a b) : bytesB a = bytesB b := by unfold bytesB; rw [body_cong h]
theorem bytes_len (m : SnM) : (bytesB m).length = 66 + 448 * m.ns.length + 33 * m.gs.length := by unfold bytesB; rw [List.length_append, body_len, be_len]; omega
theorem get_put {m : SnM} (h : MayP m) (hr : SnR m) : GetP (bytesB m) ∧ SameSn (getV (bytesB m)) m := by
  obtain ⟨h1, h2⟩ := raw_put h hr
  have hg : GetP (bytesB m) := ⟨h2, fun e => by have := bytes_len m; rw [e] at this; simp at this; omega, by rw [putB_y (h.cong h1.symm), bytes_cong h1]⟩
  exact ⟨hg, by rw [(get_y hg).1]; exact h1⟩
theorem I_inj {x y : Crc.W32} (h : Crc.I x = Crc.I y) : x = y := by unfold Crc.I at h; exact BitVec.eq_of_toNat_eq (by omega)
end Rt
set_option linter.unusedVariables false
set_option maxRecDepth 20000
namespace Rt
def N0 : NdM := ⟨5, 0, fun _ => 0⟩
def N1 : NdM := ⟨5, 0, fun p => if p = 0 then 10 else N0.R p⟩
def N2 : NdM := ⟨5, 0, fun p => if p = 0 then 12 else N1.R p⟩
def S10 : SnM := ⟨fun i => decide (i < 2), fun _ => false, fun i => if i = 0 then 1 else 0, [], []⟩
def S1 : SnM := ⟨fun i => decide (i < 2), fun _ => false, fun i => if i = 0 then 1 else 0, [N1], []⟩
def S1b : SnM := ⟨fun i => decide (i < 2), fun _ => false, fun i => if i = 0 then 1 else 0, [N2], []⟩
def S2 : SnM := ⟨fun i => decide (i < 2), fun _ => false, fun i => if i = 0 then 2 else 0, [N2], []⟩
def L1 : SnM := ⟨fun _ => false, fun i => decide (i = 0), fun _ => 0, [], []⟩
theorem n_set {x : NdM} {v : Int} : ∀ j, j < 56 → updV (ndZ x) 2 (Ki6 v) j = ndZ ⟨x.id, x.par, fun p => if p = 0 then v else x.R p⟩ j := fun j hj => by
  match j, hj with
  | 0, _ => rfl
  | 1, _ => rfl
  | p + 2, hj =>
    rw [ndZ_R' _ rfl]
    unfold updV
    by_cases e : p = 0
    · subst e; rfl
    · rw [if_neg (by omega), ndZ_R' x rfl]; exact congrArg (Value.int .i64) (if_neg e).symm
theorem nz5 {z : Nat → Value} (h1 : z 1 = Ku6 0) (h2 : ∀ p, z (p + 2) = Ki6 0) : ∀ j, j < 56 → ovr z 0 1 (fun _ => Ku6 5) j = ndZ N0 j := fun j hj => by
  match j, hj with
  | 0, _ => rfl
  | 1, _ => exact h1
  | p + 2, hj => rw [ndZ_R' N0 rfl]; unfold ovr; rw [if_neg (by omega), h2]; rfl
theorem N1_may : may N1.R = true := by decide
theorem N2_may : may N2.R = true := by decide
theorem may1 (K : Nat → Int) (N : NdM) (hK : ∀ i, i < 6 → K i ≤ 1099511627776) (hi : N.id = 5) (hp : N.par = 0) (hm : may N.R = true) : MayP ⟨fun i => decide (i < 2), fun _ => false, K, [N], []⟩ where
  kn := hK
  nn := by show 1 ≤ 32; decide
  gn := Nat.zero_le _
  nr := fun k hk => absurd hk (by show ¬ k + 1 < 1; omega)
  gr := fun k hk => absurd hk (Nat.not_lt_zero _)
  li := fun i _ h => by cases h
  nd := fun k hk => by
    have hk : k < 1 := hk
    have e : k = 0 := by omega
    subst e
    refine ⟨by show N.id ≠ 0; rw [hi]; decide, hm, ?_⟩
    show endsN [N] 33 N.id = true
    rw [hi]
    have h5 : nodeI [N] 5 = ((0 : Nat) : Int) := nodeI_at (l := [N]) (fun k hk => absurd hk (by show ¬ k + 1 < 1; omega)) (Nat.zero_lt_one) hi
    rw [ends_y (by decide) h5]
    show endsN [N] 32 N.par = true
    rw [hp]; exact ends_0 rfl
  gd := fun k hk => absurd hk (Nat.not_lt_zero _)
theorem S1_may : MayP S1 := may1 _ N1 (fun i _ => by show (if i = 0 then (1 : Int) else 0) ≤ _; split <;> decide) rfl rfl N1_may
theorem S2_may : MayP S2 := may1 _ N2 (fun i _ => by show (if i = 0 then (2 : Int) else 0) ≤ _; split <;> decide) rfl rfl N2_may
theorem sn0_may : MayP sn0 where
  kn := fun i _ => by show (0 : Int) ≤ _; decide
  nn := Nat.zero_le _
  gn := Nat.zero_le _
  nr := fun k hk => absurd hk (Nat.not_lt_zero _)
  gr := fun k hk => absurd hk (Nat.not_lt_zero _)
  li := fun i _ h => by cases h
  nd := fun k hk => absurd hk (Nat.not_lt_zero _)
  gd := fun k hk => absurd hk (Nat.not_lt_zero _)
theorem L1_may : mayS L1 = false := mayS_n fun h => by have := h.li 0 (by decide) rfl; cases this
theorem N_r (N : NdM) (hi : N.id = 5) (hp : N.par = 0) (hR : ∀ p, 0 ≤ N.R p ∧ N.R p ≤ 12) : NdR N := ⟨by rw [hi]; exact ⟨by decide, by decide⟩, by rw [hp]; exact ⟨by decide, by decide⟩, fun p _ => by have := hR p; exact ⟨by omega, by omega⟩⟩
theorem S1_r : SnR S1 := ⟨fun i _ => by show U64r (if i = 0 then (1 : Int) else 0); split <;> exact ⟨by decide, by decide⟩, fun x hx => by rw [List.mem_singleton.1 hx]; exact N_r N1 rfl rfl (fun p => by show 0 ≤ (if p = 0 then (10 : Int) else 0) ∧ (if p = 0 then (10 : Int) else 0) ≤ 12; split <;> decide), fun x hx => (nomatch hx)⟩
theorem S2_r : SnR S2 := ⟨fun i _ => by show U64r (if i = 0 then (2 : Int) else 0); split <;> exact ⟨by decide, by decide⟩, fun x hx => by rw [List.mem_singleton.1 hx]; exact N_r N2 rfl rfl (fun p => by show 0 ≤ (if p = 0 then (12 : Int) else if p = 0 then 10 else 0) ∧ (if p = 0 then (12 : Int) else if p = 0 then 10 else 0) ≤ 12; split <;> (try split) <;> decide), fun x hx => (nomatch hx)⟩
theorem m12 : mergeN S1.ns S2.ns = some [ndJ N1 N2] := by
  show mergeN [N1] [N2] = _
  rw [mN_yes (a := [N1]) (b := [N2]) (by decide) (by decide) (by decide) (by decide) rfl, mN_end (a := [N1].tail) (b := [N2].tail) (.inl rfl)]; rfl
theorem m21 : mergeN S2.ns S1.ns = some [ndJ N2 N1] := by
  show mergeN [N2] [N1] = _
  rw [mN_yes (a := [N2]) (b := [N1]) (by decide) (by decide) (by decide) (by decide) rfl, mN_end (a := [N2].tail) (b := [N1].tail) (.inl rfl)]; rfl
theorem mg0 : mergeG [] [] = some [] := mG_end (.inl rfl)
theorem nj1 (p : Nat) : mxI (N1.R p) (N2.R p) = N2.R p := by
  show mxI (if p = 0 then (10 : Int) else 0) (if p = 0 then (12 : Int) else if p = 0 then 10 else 0) = (if p = 0 then (12 : Int) else if p = 0 then 10 else 0)
  by_cases e : p = 0
  · simp only [if_pos e]; decide
  simp only [if_neg e]; decide
theorem nj2 (p : Nat) : mxI (N2.R p) (N1.R p) = N2.R p := by
  show mxI (if p = 0 then (12 : Int) else if p = 0 then 10 else 0) (if p = 0 then (10 : Int) else 0) = (if p = 0 then (12 : Int) else if p = 0 then 10 else 0)
  by_cases e : p = 0
  · simp only [if_pos e]; decide
  simp only [if_neg e]; decide
def U12 : SnM := joinR S1 S2 [ndJ N1 N2] []
def U21 : SnM := joinR S2 S1 [ndJ N2 N1] []
theorem one_k {P : Nat → Prop} (h : P 0) : ∀ k, k < 1 → P k := fun k hk => by rw [show k = 0 by omega]; exact h
theorem U12_same : SameSn U12 S2 := ⟨fun i _ => by show (decide (i < 2) || decide (i < 2)) = decide (i < 2); simp, fun i _ => rfl, fun i _ => by show mxI (if i = 0 then (1 : Int) else 0) (if i = 0 then (2 : Int) else 0) = (if i = 0 then (2 : Int) else 0); split <;> decide, rfl, rfl, one_k ⟨rfl, rfl, fun p _ => nj1 p⟩, fun k hk => absurd hk (Nat.not_lt_zero _)⟩
theorem U21_same : SameSn U21 S2 := ⟨fun i _ => by show (decide (i < 2) || decide (i < 2)) = decide (i < 2); simp, fun i _ => rfl, fun i _ => by show mxI (if i = 0 then (2 : Int) else 0) (if i = 0 then (1 : Int) else 0) = (if i = 0 then (2 : Int) else 0); split <;> decide, rfl, rfl, one_k ⟨rfl, rfl, fun p _ => nj2 p⟩, fun k hk => absurd hk (Nat.not_lt_zero _)⟩
theorem j12 : joinS S1 S2 = (U12, 0) := jS_y (mayS_y S1_may) (mayS_y S2_may) m12 mg0 (mayS_y (S2_may.cong U12_same.symm))
theorem j21 : joinS S2 S1 = (U21, 0) := jS_y (mayS_y S2_may) (mayS_y S1_may) m21 mg0 (mayS_y (S2_may.cong U21_same.symm))
theorem l12 : lessS S1 S2 = true := lessS_y j12 rfl U12_same
theorem l21 : lessS S2 S1 = false := lessS_n j21 fun h => by
  have h1 := h.2.known 0 (by decide)
  rw [U21_same.known 0 (by decide)] at h1
  exact absurd h1 (by decide)
theorem same_u12 : sameS U12 S2 = true := sameS_y U12_same
theorem same_v1 : sameS (getV (putB S1)) S1 = true := sameS_y (by rw [putB_y S1_may]; exact (get_put S1_may S1_r).2)
theorem ge_1 : getE (putB S1) = 0 := by rw [putB_y S1_may]; exact (get_y (get_put S1_may S1_r).1).2
theorem put0_len : (putB sn0).length = 66 := by rw [putB_y sn0_may, bytes_len]; rfl
theorem put0_4 : (putB sn0).take 4 = lsnp := by rw [putB_y sn0_may, bytes_split]; rfl
theorem sn0_w (w : World) : StW w sn0 none 0 none 0 := ⟨sn0_r, Nat.zero_le _, Nat.zero_le _, fun h => absurd h (by show ¬ 0 < 0 * 56; decide), fun h => absurd h (by show ¬ 0 < 0 * 5; decide), Nat.le_refl _, Nat.le_refl _⟩
theorem L1_w (w : World) : StW w L1 none 0 none 0 := ⟨⟨fun i _ => ⟨Int.le_refl 0, show (0 : Int) ≤ 18446744073709551615 by decide⟩, fun x hx => (nomatch hx), fun x hx => (nomatch hx)⟩, Nat.zero_le _, Nat.zero_le _, fun h => absurd h (by show ¬ 0 < 0 * 56; decide), fun h => absurd h (by show ¬ 0 < 0 * 5; decide), Nat.le_refl _, Nat.le_refl _⟩
theorem one_w {w : World} {m : SnM} {a : Option Addr} {c : Nat} (hr : SnR m) (hn : m.ns.length = 1) (hg : m.gs = []) (h : Arr w a 1 56 (ndsX m.ns)) (hc : 1 ≤ c) : StW w m a c none 0 := ⟨hr, by rw [hn]; decide, by rw [hg]; exact Nat.zero_le _, by rw [hn]; exact h, by rw [hg]; exact fun h => absurd h (by show ¬ 0 < 0 * 5; decide), by rw [hn]; exact hc, by rw [hg]; exact Nat.le_refl _⟩
end Rt
theorem s_put0 (z : Nat → Value) (hz : ∀ j, j < 20 → z j = stY (stS sn0 none 0 none 0) j) (w : World) : Calls Try.prog 14 #[.agg (varr 20 z)] w fun e w' => ∃ a c, e = .returned (.slice a 66 c) ∧ Fx.Own w' w.heap.size 5 1 (.slice a 66 c) 66 (Fx.byY (putB sn0)) ∧ Below w.heap.size w w' := by
  rw [Fx.varr_congr hz]
  have h := s_put sn0 none 0 none 0 w (sn0_w w)
  rw [put0_len] at h; exact h
theorem s_may0 (z : Nat → Value) (hz : ∀ j, j < 20 → z j = stY (stS L1 none 0 none 0) j) (w : World) : Calls Try.prog 12 #[.agg (varr 20 z)] w fun e w' => e = .returned (.bool false) ∧ Below w.heap.size w w' := by
  rw [Fx.varr_congr hz]
  have h := s_may L1 none 0 none 0 w (L1_w w).r.k (L1_w w).l1 (L1_w w).l2 (L1_w w).n (L1_w w).g
  rw [L1_may] at h; exact h
theorem s_getE (a : Option Addr) (n c : Nat) (l : List UInt8) (v : SnM) (ev : Int) (w : World) (hv : getV l = v) (he : getE l = ev) (hn : n = l.length) (hc : n ≤ c) (hl : n ≤ 100000000) (hb : Arr w a n 1 (Fx.byY l)) :
    Calls Try.prog 10 #[.slice a n c] w fun e w' => ∃ na nc ga gc, e = .returned (.tuple #[.agg (varr 20 (stY (stS v na nc ga gc))), Ki6 ev]) ∧ Fx.Own w' w.heap.size 50 56 (.slice na v.ns.length nc) v.ns.length (ndsX v.ns) ∧ Fx.Own w' w.heap.size 59 5 (.slice ga v.gs.length gc) v.gs.length (grsX v.gs) ∧ Below w.heap.size w w' := by
  have h := s_get a n c l w hn hc hl hb
  rw [hv, he] at h; exact h
theorem get_w {l : List UInt8} {v : SnM} {w : World} {B : Nat} {na ga : Option Addr} {nc gc : Nat} (hv : getV l = v) (hn : Fx.Own w B 50 56 (.slice na v.ns.length nc) v.ns.length (ndsX v.ns)) (hg : Fx.Own w B 59 5 (.slice ga v.gs.length gc) v.gs.length (grsX v.gs)) : StW w v na nc ga gc := by
  obtain ⟨h1, h2, h3⟩ := getV_r l
  rw [hv] at h1 h2 h3
  exact ⟨h1, Nat.le_trans h2 (by decide), Nat.le_trans h3 (by decide), hn.arr, hg.arr, hn.le, hg.le⟩
theorem Rt.arr_take {w : World} {a : Option Addr} {l : List UInt8} {k : Nat} (h : Arr w a k 1 (Fx.byY l)) : Arr w a k 1 (Fx.byY (l.take k)) := h.to rfl fun j hj => by
  unfold Fx.byY; rw [List.getD_eq_getElem?_getD, List.getD_eq_getElem?_getD, List.getElem?_take, if_pos (by omega)]
theorem Fx.Blk.arr1 {w : World} {g : Nat} {z : Nat → Value} {T : TypeId} {x : NdM} (h : Blk w g 56 (ovr z (0 * 56) 56 (ndZ x)) T) : Arr w (some ⟨g, 0, none⟩) 1 56 (ndsX [x]) := fun _ => ⟨g, 0, rfl, fun j hj => by
  have := h.cel j hj
  rw [this]
  have h56 : j < 56 := by omega
  unfold ovr
  rw [if_pos ⟨by omega, by omega⟩]
  show _ = some (ndZ (ndA [x] (j / 56)) (j % 56))
  rw [Nat.div_eq_of_lt h56, Nat.mod_eq_of_lt h56, Nat.zero_mul, Nat.sub_zero]; rfl⟩
set_option maxRecDepth 20000 in
set_option maxHeartbeats 8000000 in
theorem s_works (w : World) :
    Calls Try.prog 7 #[] w fun e w' => e = .returned (.bool true) ∧ Below w.heap.size w w' := by
 refine Kent Try.func7 91 ?_
 refine KWsl (KLq KbF (KLe (KWsl (KLq (.agg (varr 20 (fun zq => if zq < 12 then .bool false else if zq < 18 then Ku6 0 else .slice none 0 0))) (KLc (s_put0 _ (fun j hj => match j, hj with | 0, _ => rfl | 1, _ => rfl | 2, _ => rfl | 3, _ => rfl | 4, _ => rfl | 5, _ => rfl | 6, _ => rfl | 7, _ => rfl | 8, _ => rfl | 9, _ => rfl | 10, _ => rfl | 11, _ => rfl | 12, _ => rfl | 13, _ => rfl | 14, _ => rfl | 15, _ => rfl | 16, _ => rfl | 17, _ => rfl | 18, _ => rfl | 19, _ => rfl | j + 20, h => absurd h (by omega)) _) (ax := #[.agg (varr 20 (fun zq => if zq < 12 then .bool false else if zq < 18 then Ku6 0 else .slice none 0 0))]) ?_)))))
 rintro e9 w1 ⟨pa1, pc1, he, hm1, hb1⟩
 refine ⟨_, he, ?_⟩
 clear he
 have b1 := KTk1 hb1 (Below.refl w.heap.size w)
 have m1 : Fx.Own w1 w.heap.size 5 1 (.slice pa1 (66) (pc1)) 66 (Fx.byY (putB sn0)) := hm1.mono (Below.refl w.heap.size w).size
 refine KLq (.slice pa1 (66) (pc1)) (KLe (KWsl (Lv (.agg (varr 6 (ovr (ovr (fun _ => .bool false) 0 1 (fun _ => .bool true)) 1 1 (fun _ => .bool true)))) (Fx.x_buildArr (vs := [(0, .bool true), (1, .bool true)]) (s := 1) (m := 6) (x := fun _ => .bool false) rfl rfl Try.underlying22 (by kernel_rfl) (by kernel_rfl) (by rw [fill_step (off := 0) (s := 1) (y := fun _ => .bool true) (by kernel_rfl) (cells_one (by rfl)) (by rfl)]; rw [fill_step (off := 1) (s := 1) (y := fun _ => .bool true) (by kernel_rfl) (cells_one (by rfl)) (by rfl)]; rfl)) (Lv (.agg (varr 6 (ovr (rv .u64 (fun _ => 0)) 0 1 (fun _ => Ku6 1)))) (Fx.x_buildArr (vs := [(0, Ku6 1)]) (s := 1) (m := 6) (x := rv .u64 (fun _ => 0)) rfl rfl Try.underlying25 (by kernel_rfl) (by kernel_rfl) (by rw [fill_step (off := 0) (s := 1) (y := fun _ => Ku6 1) (by kernel_rfl) (cells_one (by rfl)) (by rfl)]; rfl)) (KLq (.agg (varr 20 (ovr (ovr (fun zq => if zq < 12 then .bool false else if zq < 18 then Ku6 0 else .slice none 0 0) 0 6 (ovr (ovr (fun _ => .bool false) 0 1 (fun _ => .bool true)) 1 1 (fun _ => .bool true))) 12 6 (ovr (rv .u64 (fun _ => 0)) 0 1 (fun _ => Ku6 1))))) (KLw 20 (fun zq => if zq < 12 then .bool false else if zq < 18 then Ku6 0 else .slice none 0 0) fun g1 w2 eg1 m2 s2 z1 => ?_))))))
 have ⟨m3, b2⟩ := KTk2 s2.old m1 b1
 have lg1 := KGk eg1 b1.size
 have tg1 := m2.lt
 refine KLsA m2 0 (h1 := (ovr_ones (ovr_ones (fun jq _ => by show ((fun zq => if zq < 12 then .bool false else if zq < 18 then Ku6 0 else .slice none 0 0 : Nat → Value) jq).oneCell' = true; simp only []; repeat (first | rfl | split)) (ovr_ones (ovr_ones (fun jq _ => by show ((fun _ => .bool false : Nat → Value) jq).oneCell' = true; simp only []; repeat (first | rfl | split)) (fun _ _ => rfl)) (fun _ _ => rfl))) (ovr_ones (fun _ _ => rfl) (fun _ _ => rfl)))) fun w3 m4 s3 z2 => ?_
 have m5 : Blk w3 g1 20 (ovr (ovr (fun zq => if zq < 12 then .bool false else if zq < 18 then Ku6 0 else .slice none 0 0) 0 6 (ovr (ovr (fun _ => .bool false) 0 1 (fun _ => .bool true)) 1 1 (fun _ => .bool true))) 12 6 (ovr (rv .u64 (fun _ => 0)) 0 1 (fun _ => Ku6 1))) 29 := ovr_all m4
 have m6 : Blk w3 g1 20 (stY (stS S10 none 0 none 0)) 29 := m5.congr (fun j hj => match j, hj with | 0, _ => rfl | 1, _ => rfl | 2, _ => rfl | 3, _ => rfl | 4, _ => rfl | 5, _ => rfl | 6, _ => rfl | 7, _ => rfl | 8, _ => rfl | 9, _ => rfl | 10, _ => rfl | 11, _ => rfl | 12, _ => rfl | 13, _ => rfl | 14, _ => rfl | 15, _ => rfl | 16, _ => rfl | 17, _ => rfl | 18, _ => rfl | 19, _ => rfl | j + 20, h => absurd h (by omega))
 have hct1 := cOs s3 m2.ty
 have m7 := KCk1 hct1 m3
 have b3 := s3.below b2 b2.size (by omega)
 refine KLe (KWsl (KLq (.agg (varr 56 (ovr (fun zq => if zq < 2 then Ku6 0 else Ki6 0) 0 1 (fun _ => Ku6 5)))) (KLw 56 (fun zq => if zq < 2 then Ku6 0 else Ki6 0) fun g2 w4 eg2 m8 s4 z3 => ?_)))
 have ⟨m9, m10, b4⟩ := KTk3 s4.old m7 m6 b3
 have lg2 := KGk eg2 b3.size
 have ng2m10 := KNk1 eg2 m6.lt
 have tg2 := m8.lt
 refine KLsA m8 0 (h1 := (ovr_ones (fun jq _ => by show ((fun zq => if zq < 2 then Ku6 0 else Ki6 0 : Nat → Value) jq).oneCell' = true; simp only []; repeat (first | rfl | split)) (fun _ _ => rfl))) fun w5 m11 s5 z4 => ?_
 have m12 : Blk w5 g2 56 (ovr (fun zq => if zq < 2 then Ku6 0 else Ki6 0) 0 1 (fun _ => Ku6 5)) 50 := ovr_all m11
 have m13 : Blk w5 g2 56 (ndZ N0) 50 := m12.congr (nz5 (by rfl) (fun p => if_neg (by omega)))
 have hct2 := cOs s5 m8.ty
 have ⟨m14, m15⟩ := KCk2 hct2 m9 m10
 have b5 := s5.below b4 b4.size (by omega)
 refine KLe (KWsl (KLq ((pf g2 2)) (KLq ((pf g2 2)) (Lv ((pf g2 2)) (Kxj 6 1) (KLs m13 2 (Ki6 10) fun w6 m16 s6 z5 => ?_)))))
 have m17 : Blk w6 g2 56 (ndZ N1) 50 := m16.congr n_set
 have hct3 := cOs s6 m13.ty
 have ⟨m18, m19⟩ := KCk2 hct3 m14 m15
 have b6 := s6.below b5 b5.size (by omega)
 refine KLe (KWsl (KLq ((pf g1 18)) (Lv (.slice none 0 0) (Kxl m19.cel 18) (Lv (.agg (varr 56 (ndZ N1))) (KxA m17.cel 0) (Lbs (vs := [(0, .agg (varr 56 (ndZ N1)))]) (s := 56) (zc := fun zq => if zq < 2 then Ku6 0 else Ki6 0) (y := ovr (fun j => (fun zq => if zq < 2 then Ku6 0 else Ki6 0) (j % 56)) (0 * 56) 56 (ndZ N1)) (by rfl) rfl rfl Try.underlying26 (by kernel_rfl) (by rfl) (by rfl) (by kernel_rfl) (by rw [fill_step (off := 0 * 56) (s := 56) (y := ndZ N1) rfl (cells_agg _ _) (by rfl)]; rfl) rfl fun g3 w7 eg3 m20 s7 z6 => ?_)))))
 have ⟨m21, m22, m23, b7⟩ := KTk4 s7.old m18 m19 m17 b6
 have lg3 := KGk eg3 b6.size
 have ⟨ng3m22, ng3m23⟩ := KNk2 eg3 m19.lt m17.lt
 have tg3 := m20.lt
 refine Lap (B := w.heap.size) (s := 56) (bytes := 448) (k := 0) (m := 1) (v := .slice none 0 0) (x := ndsX []) (by rfl) rfl rfl rfl Try.underlying26 (by kernel_rfl) (by kernel_rfl) rfl rfl (oNl w7 w.heap.size 50 56 (ndsX [])) m20.cel (fun j hj => by unfold ovr; rw [if_pos ⟨by omega, by omega⟩]; exact ndZ_one _ _) (by omega) (by omega) (by omega) b7.size fun g4 cap1 w8 ho1 hg1 hgv1 hlt1 => ?_
 have hct4 := cOg hg1 (oNl w7 w.heap.size 50 56 (ndsX []))
 have ⟨m25, m26⟩ := KCk2 hct4 m21 m22
 have hq1 : Below w7.heap.size w7 w8 := ⟨hg1.os, hg1.tape, hg1.output, hg1.size, fun q hq => hg1.block q hq (fun e => by cases e)⟩
 have m27 := m23.stp (Sb hq1) (Nat.ne_of_lt (m23.lt))
 have m24 : Fx.Own w8 w.heap.size 50 56 (Ksl g4 1 cap1) 1 (ndsX [N1]) := (ho1.congr (nds_app1 (l := []) (x := N1) rfl))
 have b8 : Below w.heap.size w w8 := bGr b7 hg1 b7.size (fun q hq => ((oNl w7 w.heap.size 50 56 (ndsX [])).ge hq).1)
 refine KLq ((pf g1 18)) (KLs m26 18 (Ksl g4 1 cap1) fun w9 m28 s8 z7 => ?_)
 have m29 : Blk w9 g1 20 (stY (stS S1 (some ⟨g4, 0, none⟩) cap1 none 0)) 29 := m28.congr (fun j hj => match j, hj with | 0, _ => rfl | 1, _ => rfl | 2, _ => rfl | 3, _ => rfl | 4, _ => rfl | 5, _ => rfl | 6, _ => rfl | 7, _ => rfl | 8, _ => rfl | 9, _ => rfl | 10, _ => rfl | 11, _ => rfl | 12, _ => rfl | 13, _ => rfl | 14, _ => rfl | 15, _ => rfl | 16, _ => rfl | 17, _ => rfl | 18, _ => rfl | 19, _ => rfl | j + 20, h => absurd h (by omega))
 have hct5 := cOs s8 m26.ty
 have ⟨m30, m31, m32⟩ := KCk3 hct5 m25 m27 m24
 have b9 := s8.below b8 b8.size (by omega)
 refine KLe (KWsl (Lv (.agg (varr 20 (stY (stS S1 (some ⟨g4, 0, none⟩) cap1 none 0)))) (KxA m29.cel 0) (KLw 20 (fun zq => if zq < 12 then .bool false else if zq < 18 then Ku6 0 else .slice none 0 0) fun g5 w10 eg5 m33 s9 z8 => ?_)))
 have ⟨m34, m35, m36, m37, b10⟩ := KTk5 s9.old m30 m31 m32 m29 b9
 have lg5 := KGk eg5 b9.size
 have ⟨ng5m35, ng5m36, ng5m37⟩ := KNk3 eg5 m31.lt m32.lt m29.lt
 have tg5 := m33.lt
 refine KLsA m33 0 (h1 := (fun j _ => stY_one _ j)) fun w11 m38 s10 z9 => ?_
 have m39 : Blk w11 g5 20 (stY (stS S1 (some ⟨g4, 0, none⟩) cap1 none 0)) 29 := ovr_all m38
 have hct6 := cOs s10 m33.ty
 have ⟨m41, m42, m43⟩ := KCk3 hct6 m34 m35 m36
 have m44 := m37.stp s10 (by omega)
 have b11 := s10.below b10 b10.size (by omega)
 refine KLe (KWsl (Lv (.agg (varr 56 (ndZ N1))) (KxA m42.cel 0) (KLw 56 (fun zq => if zq < 2 then Ku6 0 else Ki6 0) fun g6 w12 eg6 m45 s11 z10 => ?_)))
 have ⟨m46, m47, m48, m49, m50, b12⟩ := KTk6 s11.old m41 m42 m43 m44 m39 b11
 have lg6 := KGk eg6 b11.size
 have ⟨ng6m47, ng6m48, ng6m49, ng6m50⟩ := KNk4 eg6 m42.lt m43.lt m44.lt m39.lt
 have tg6 := m45.lt
 refine KLsA m45 0 (h1 := (fun j _ => ndZ_one _ j)) fun w13 m51 s12 z11 => ?_
 have m52 : Blk w13 g6 56 (ndZ N1) 50 := ovr_all m51
 have hct7 := cOs s12 m45.ty
 have m54 := KCk1 hct7 m46
 have m55 := m47.stp s12 (by omega)
 have m56 := m48.stpB s12 (by omega)
 have ⟨m57, m58⟩ := KCk2 hct7 m49 m50
 have b13 := s12.below b12 b12.size (by omega)
 refine KLe (KWsl (KLq ((pf g6 2)) (KLq ((pf g6 2)) (Lv ((pf g6 2)) (Kxj 6 1) (KLs m52 2 (Ki6 12) fun w14 m59 s13 z12 => ?_)))))
 have m60 : Blk w14 g6 56 (ndZ N2) 50 := m59.congr n_set
 have hct8 := cOs s13 m52.ty
 have m61 := KCk1 hct8 m54
 have m62 := m55.stp s13 (by omega)
 have m63 := m56.stpB s13 (by omega)
 have ⟨m64, m65⟩ := KCk2 hct8 m57 m58
 have b14 := s13.below b13 b13.size (by omega)
 refine KLe (KWsl (Lv (.agg (varr 56 (ndZ N2))) (KxA m60.cel 0) (Lbs (vs := [(0, .agg (varr 56 (ndZ N2)))]) (s := 56) (zc := fun zq => if zq < 2 then Ku6 0 else Ki6 0) (y := ovr (fun j => (fun zq => if zq < 2 then Ku6 0 else Ki6 0) (j % 56)) (0 * 56) 56 (ndZ N2)) (by rfl) rfl rfl Try.underlying26 (by kernel_rfl) (by rfl) (by rfl) (by kernel_rfl) (by rw [fill_step (off := 0 * 56) (s := 56) (y := ndZ N2) rfl (cells_agg _ _) (by rfl)]; rfl) rfl fun g7 w15 eg7 m66 s14 z13 => ?_)))
 have ⟨m67, m68, m69, m70, m71, m72, b15⟩ := KTk7 s14.old m61 m62 m63 m64 m65 m60 b14
 have lg7 := KGk eg7 b14.size
 have ⟨ng7m68, ng7m69, ng7m70, ng7m71, ng7m72⟩ := KNk5 eg7 m62.lt m63.lt m64.lt m65.lt m60.lt
 have tg7 := m66.lt
 refine KLq ((pf g5 18)) (KLs m71 18 (Ksl g7 1 1) fun w16 m73 s15 z14 => ?_)
 have m74 : Blk w16 g5 20 (stY (stS S1b (some ⟨g7, 0, none⟩) 1 none 0)) 29 := m73.congr (fun j hj => match j, hj with | 0, _ => rfl | 1, _ => rfl | 2, _ => rfl | 3, _ => rfl | 4, _ => rfl | 5, _ => rfl | 6, _ => rfl | 7, _ => rfl | 8, _ => rfl | 9, _ => rfl | 10, _ => rfl | 11, _ => rfl | 12, _ => rfl | 13, _ => rfl | 14, _ => rfl | 15, _ => rfl | 16, _ => rfl | 17, _ => rfl | 18, _ => rfl | 19, _ => rfl | j + 20, h => absurd h (by omega))
 have hct9 := cOs s15 m71.ty
 have ⟨m75, m76, m77⟩ := KCk3 hct9 m67 m68 m69
 have m78 := m70.stp s15 (by omega)
 have ⟨m79, m80⟩ := KCk2 hct9 m72 m66
 have b16 := s15.below b15 b15.size (by omega)
 refine KLe (KWsl (KLq ((pf g5 12)) (Lv ((pf g5 12)) (Kxj 6 1) (KLs m74 12 (Ku6 2) fun w17 m81 s16 z15 => ?_))))
 have m82 : Blk w17 g5 20 (stY (stS S2 (some ⟨g7, 0, none⟩) 1 none 0)) 29 := m81.congr (fun j hj => match j, hj with | 0, _ => rfl | 1, _ => rfl | 2, _ => rfl | 3, _ => rfl | 4, _ => rfl | 5, _ => rfl | 6, _ => rfl | 7, _ => rfl | 8, _ => rfl | 9, _ => rfl | 10, _ => rfl | 11, _ => rfl | 12, _ => rfl | 13, _ => rfl | 14, _ => rfl | 15, _ => rfl | 16, _ => rfl | 17, _ => rfl | 18, _ => rfl | 19, _ => rfl | j + 20, h => absurd h (by omega))
 have hct10 := cOs s16 m74.ty
 have ⟨m83, m84, m85⟩ := KCk3 hct10 m75 m76 m77
 have m86 := m78.stp s16 (by omega)
 have ⟨m87, m88⟩ := KCk2 hct10 m79 m80
 have b17 := s16.below b16 b16.size (by omega)
 refine KLe (KWsl (Lv (.agg (varr 20 (stY (stS S1 (some ⟨g4, 0, none⟩) cap1 none 0)))) (KxA m86.cel 0) (Lv (.agg (varr 20 (stY (stS S2 (some ⟨g7, 0, none⟩) 1 none 0)))) (KxA m82.cel 0) (KLc (s_joinE S1 S2 (some ⟨g4, 0, none⟩) cap1 none 0 (some ⟨g7, 0, none⟩) 1 none 0 U12 0 _ (one_w (m := S1) (a := (some ⟨g4, 0, none⟩)) (c := cap1) S1_r rfl rfl m85.arr m85.le) (one_w (m := S2) (a := (some ⟨g7, 0, none⟩)) (c := 1) S2_r rfl rfl (Fx.Blk.arr1 m88) (Nat.le_refl _)) j12) ?_))))
 rintro e9 w18 ⟨una, unc, uga, ugc, he, hon1, hog1, hb2⟩
 refine ⟨_, he, ?_⟩
 clear he
 have ⟨m89, m90, m91, m92, m93, m94, m95, b18⟩ := KTk8 hb2 m83 m84 m85 m86 m87 m88 m82 b17
 have m96 : Fx.Own w18 w.heap.size 50 56 (.slice una (U12.ns.length) (unc)) U12.ns.length (ndsX U12.ns) := hon1.mono b17.size
 have m97 : Fx.Own w18 w.heap.size 59 5 (.slice uga (U12.gs.length) (ugc)) U12.gs.length (grsX U12.gs) := hog1.mono b17.size
 refine KLq (.tuple #[.agg (varr 20 (stY (stS U12 una unc uga ugc))), Ki6 0]) (KLq (.agg (varr 20 (stY (stS U12 una unc uga ugc)))) (KLq (Ki6 0) (KLw 20 (fun zq => if zq < 12 then .bool false else if zq < 18 then Ku6 0 else .slice none 0 0) fun g8 w19 eg8 m98 s18 z16 => ?_)))
 have ⟨m99, m100, m101, m102, m103, m104, m105, m106, m107, b19⟩ := KTk10 s18.old m89 m90 m91 m92 m93 m94 m95 m96 m97 b18
 have lg8 := KGk eg8 b18.size
 have ⟨ng8m100, ng8m101, ng8m102, ng8m103, ng8m104, ng8m105⟩ := KNk6 eg8 m90.lt m91.lt m92.lt m93.lt m94.lt m95.lt
 have tg8 := m98.lt
 refine KLsA m98 0 (h1 := (fun j _ => stY_one _ j)) fun w20 m108 s19 z17 => ?_
 have m109 : Blk w20 g8 20 (stY (stS U12 una unc uga ugc)) 29 := ovr_all m108
 have hct11 := cOs s19 m98.ty
 have ⟨m111, m112, m113⟩ := KCk3 hct11 m99 m100 m101
 have m114 := m102.stp s19 (by omega)
 have ⟨m115, m116⟩ := KCk2 hct11 m103 m104
 have m117 := m105.stp s19 (by omega)
 have ⟨m118, m119⟩ := KCk2 hct11 m106 m107
 have b20 := s19.below b19 b19.size (by omega)
 refine KLq (Ki6 0) (KLe (KWsl (Lv (.agg (varr 20 (stY (stS S1 (some ⟨g4, 0, none⟩) cap1 none 0)))) (KxA m114.cel 0) (KLc (s_put S1 (some ⟨g4, 0, none⟩) cap1 none 0 _ (one_w (m := S1) (a := (some ⟨g4, 0, none⟩)) (c := cap1) S1_r rfl rfl m113.arr m113.le)) ?_))))
 rintro e9 w21 ⟨pa2, pc2, he, hm2, hb3⟩
 refine ⟨_, he, ?_⟩
 clear he
 have ⟨m121, m122, m123, m124, m125, m126, m127, m128, m129, m130, b21⟩ := KTk11 hb3 m111 m112 m113 m114 m115 m116 m117 m118 m119 m109 b20
 have m120 : Fx.Own w21 w.heap.size 5 1 (.slice pa2 ((putB S1).length) (pc2)) ((putB S1).length) (Fx.byY (putB S1)) := hm2.mono b20.size
 refine KLc (s_getE pa2 (putB S1).length pc2 (putB S1) (getV (putB S1)) 0 _ rfl ge_1 rfl m120.le (by rw [putB_y S1_may, bytes_len]; decide) m120.arr) ?_
 rintro e9 w22 ⟨vna, vnc, vga, vgc, he, hon2, hog2, hb4⟩
 refine ⟨_, he, ?_⟩
 clear he
 have ⟨m131, m132, m133, m134, m135, m136, m137, m138, m139, m140, b22⟩ := KTk11 hb4 m121 m122 m123 m124 m125 m126 m127 m128 m129 m130 b21
 have m142 : Fx.Own w22 w.heap.size 50 56 (.slice vna ((getV (putB S1)).ns.length) (vnc)) ((getV (putB S1)).ns.length) (ndsX (getV (putB S1)).ns) := hon2.mono b21.size
 have m143 : Fx.Own w22 w.heap.size 59 5 (.slice vga ((getV (putB S1)).gs.length) (vgc)) ((getV (putB S1)).gs.length) (grsX (getV (putB S1)).gs) := hog2.mono b21.size
 refine KLq (.tuple #[.agg (varr 20 (stY (stS (getV (putB S1)) vna vnc vga vgc))), Ki6 0]) (KLq (.agg (varr 20 (stY (stS (getV (putB S1)) vna vnc vga vgc)))) (KLq (Ki6 0) (KLw 20 (fun zq => if zq < 12 then .bool false else if zq < 18 then Ku6 0 else .slice none 0 0) fun g9 w23 eg9 m144 s22 z18 => ?_)))
 have ⟨m145, m147, m148, m150, m151, m152, m153, m154, m156, m157, b23⟩ := KTk11 s22.old m131 m133 m134 m136 m137 m138 m139 m140 m142 m143 b22
 have lg9 := KGk eg9 b22.size
 have ⟨ng9m146, ng9m147, ng9m148, ng9m149, ng9m150, ng9m151, ng9m154⟩ := KNk7 eg9 m132.lt m133.lt m134.lt m135.lt m136.lt m137.lt m140.lt
 have tg9 := m144.lt
 refine KLsA m144 0 (h1 := (fun j _ => stY_one _ j)) fun w24 m158 s23 z19 => ?_
 have m159 : Blk w24 g9 20 (stY (stS (getV (putB S1)) vna vnc vga vgc)) 29 := ovr_all m158
 have hct12 := cOs s23 m144.ty
 have ⟨m161, m163⟩ := KCk2 hct12 m145 m147
 have m164 := m148.stp s23 (by omega)
 have m166 := KCk1 hct12 m150
 have m167 := m151.stp s23 (by omega)
 have ⟨m168, m169⟩ := KCk2 hct12 m152 m153
 have m170 := m154.stp s23 (by omega)
 have ⟨m172, m173⟩ := KCk2 hct12 m156 m157
 have b24 := s23.below b23 b23.size (by omega)
 refine KLq (Ki6 0) (KLe (KWsl (KLq (.slice pa1 (66) (pc1)) (KLq (Ki6 66) (Lv KbT KeqTo (KLq KbT (KLq (.slice pa1 (66) (pc1)) (Lv (.slice pa1 (4) (pc1)) (Fx.x_hi (j := 4) (s := 1) rfl rfl rfl Try.underlying30 (by kernel_rfl) (by omega) m161) (Lv (.string (Fx.strL lsnp)) (Fx.x_bstr (l := lsnp) rfl rfl Try.underlying30 Try.underlying5 Try.underlying9 rfl (by have q9 := arr_take (k := 4) (m161.arrLe (by omega)); rw [put0_4] at q9; exact q9)) (Lv KbT ((show Fx.Runs _ _ _ _ (.bool true) from Fx.x_eqlS (l := lsnp) (l' := lsnp) rfl rfl rfl)) (KLq KbT (KLq KbT (KLq (Ki6 0) (Lv KbT KeqTo (KLq KbT (KLq KbT (Lv (.agg (varr 20 (stY (stS U12 una unc uga ugc)))) (KxA m170.cel 0) (Lv (.agg (varr 20 (stY (stS S2 (some ⟨g7, 0, none⟩) 1 none 0)))) (KxA m167.cel 0) (KLc1 ((s_same U12 S2 una unc uga ugc (some ⟨g7, 0, none⟩) 1 none 0 _ (joinE_w S1_r S2_r j12 m168 m169) (one_w (m := S2) (a := (some ⟨g7, 0, none⟩)) (c := 1) S2_r rfl rfl (Fx.Blk.arr1 m166) (Nat.le_refl _))).mono (fun e w2 h2 => (⟨by rw [h2.1, same_u12], h2.2⟩ : e = .returned (.bool true) ∧ Below _ _ w2))) _ rfl ?_)))))))))))))))))))
 intro w25 hb5
 have ⟨m176, m177, m179, m180, m185, m186, m187, b25⟩ := KTk8 hb5 m163 m164 m166 m167 m172 m173 m159 b24
 refine KLq KbT (KLq KbT (KLq (Ki6 0) (Lv KbT KeqTo (KLq KbT (KLq KbT (Lv (.agg (varr 20 (stY (stS (getV (putB S1)) vna vnc vga vgc)))) (KxA m187.cel 0) (Lv (.agg (varr 20 (stY (stS S1 (some ⟨g4, 0, none⟩) cap1 none 0)))) (KxA m177.cel 0) (KLc1 ((s_same (getV (putB S1)) S1 vna vnc vga vgc (some ⟨g4, 0, none⟩) cap1 none 0 _ (get_w (l := putB S1) rfl m185 m186) (one_w (m := S1) (a := (some ⟨g4, 0, none⟩)) (c := cap1) S1_r rfl rfl m176.arr m176.le)).mono (fun e w2 h2 => (⟨by rw [h2.1, same_v1], h2.2⟩ : e = .returned (.bool true) ∧ Below _ _ w2))) _ rfl ?_))))))))
 intro w26 hb6
 have ⟨m190, m191, m193, m194, b26⟩ := KTk5 hb6 m176 m177 m179 m180 b25
 refine KLq KbT (KLq KbT (Lv (.agg (varr 20 (stY (stS S1 (some ⟨g4, 0, none⟩) cap1 none 0)))) (KxA m191.cel 0) (Lv (.agg (varr 20 (stY (stS S2 (some ⟨g7, 0, none⟩) 1 none 0)))) (KxA m194.cel 0) (KLc1 ((s_less S1 S2 (some ⟨g4, 0, none⟩) cap1 none 0 (some ⟨g7, 0, none⟩) 1 none 0 _ (one_w (m := S1) (a := (some ⟨g4, 0, none⟩)) (c := cap1) S1_r rfl rfl m190.arr m190.le) (one_w (m := S2) (a := (some ⟨g7, 0, none⟩)) (c := 1) S2_r rfl rfl (Fx.Blk.arr1 m193) (Nat.le_refl _))).mono (fun e w2 h2 => (⟨by rw [h2.1, l12], h2.2⟩ : e = .returned (.bool true) ∧ Below _ _ w2))) _ rfl ?_))))
 intro w27 hb7
 have ⟨m204, m205, m207, m208, b27⟩ := KTk5 hb7 m190 m191 m193 m194 b26
 refine KLq KbT (KLq KbT (Lv (.agg (varr 20 (stY (stS S2 (some ⟨g7, 0, none⟩) 1 none 0)))) (KxA m208.cel 0) (Lv (.agg (varr 20 (stY (stS S1 (some ⟨g4, 0, none⟩) cap1 none 0)))) (KxA m205.cel 0) (KLc1 ((s_less S2 S1 (some ⟨g7, 0, none⟩) 1 none 0 (some ⟨g4, 0, none⟩) cap1 none 0 _ (one_w (m := S2) (a := (some ⟨g7, 0, none⟩)) (c := 1) S2_r rfl rfl (Fx.Blk.arr1 m207) (Nat.le_refl _)) (one_w (m := S1) (a := (some ⟨g4, 0, none⟩)) (c := cap1) S1_r rfl rfl m204.arr m204.le)).mono (fun e w2 h2 => (⟨by rw [h2.1, l21], h2.2⟩ : e = .returned (.bool false) ∧ Below _ _ w2))) _ rfl ?_))))
 intro w28 hb8
 have b28 := KTk1 hb8 b27
 refine KLq KbT (KLq KbT (KLq KbT (Lv (.agg (varr 6 (ovr (fun _ => .bool false) 0 1 (fun _ => .bool true)))) (Fx.x_buildArr (vs := [(0, .bool true)]) (s := 1) (m := 6) (x := fun _ => .bool false) rfl rfl Try.underlying22 (by kernel_rfl) (by kernel_rfl) (by rw [fill_step (off := 0) (s := 1) (y := fun _ => .bool true) (by kernel_rfl) (cells_one (by rfl)) (by rfl)]; rfl)) (KLq (.agg (varr 20 (ovr (fun zq => if zq < 12 then .bool false else if zq < 18 then Ku6 0 else .slice none 0 0) 6 6 (ovr (fun _ => .bool false) 0 1 (fun _ => .bool true))))) (KLc1 (s_may0 _ (fun j hj => match j, hj with | 0, _ => rfl | 1, _ => rfl | 2, _ => rfl | 3, _ => rfl | 4, _ => rfl | 5, _ => rfl | 6, _ => rfl | 7, _ => rfl | 8, _ => rfl | 9, _ => rfl | 10, _ => rfl | 11, _ => rfl | 12, _ => rfl | 13, _ => rfl | 14, _ => rfl | 15, _ => rfl | 16, _ => rfl | 17, _ => rfl | 18, _ => rfl | 19, _ => rfl | j + 20, h => absurd h (by omega)) _) (ax := #[.agg (varr 20 (ovr (fun zq => if zq < 12 then .bool false else if zq < 18 then Ku6 0 else .slice none 0 0) 6 6 (ovr (fun _ => .bool false) 0 1 (fun _ => .bool true))))]) _ rfl ?_)))))
 intro w29 hb9
 have b29 := KTk1 hb9 b28
 refine KLq KbT (KLq KbT (KLq KbT (KLe (Wr (Kret KbT ?_)))))
 exact ⟨rfl, b29⟩
set_option linter.unusedVariables false
set_option maxRecDepth 20000
namespace Rt
def few (m : SnM) : Bool := decide (m.ns.length ≤ 40 ∧ m.gs.length ≤ 60)
theorem few_p {m : SnM} (h : few m = true) : m.ns.length ≤ 40 ∧ m.gs.length ≤ 60 := of_decide_eq_true h
end Rt
theorem Fx.runs_b {P : Program} {f : Nat → Value} {o : Oper} {w : World} {b c : Bool} (h : Fx.Runs P f o w (.bool b)) (e : b = c) : Fx.Runs P f o w (.bool c) := e ▸ h
theorem s_few (m : SnM) (na : Option Addr) (nc : Nat) (ga : Option Addr) (gc : Nat) (w : World) :
    Calls Try.prog 6 #[.agg (varr 20 (stY (stS m na nc ga gc)))] w fun e w' => e = .returned (.bool (few m)) ∧ Below w.heap.size w w' := by
 refine Kent Try.func6 13 ?_
 refine KWsl (KLb fun g1 w1 eg1 m1 s1 z1 => ?_)
 have b1 := KTk1 s1.old (Below.refl w.heap.size w)
 have lg1 := KGk0 eg1
 have tg1 := m1.lt
 refine KLq KbF (KLe (KWsl (KLq ((pf g1 18)) (Lv (.slice na (m.ns.length) (nc)) (Kxl m1.cel 18) (KLq (Ki6 m.ns.length) ?_)))))
 by_cases c6 : (m.ns.length : Int) ≤ 40
 ·refine Lv KbT (KleT c6) (KLq KbT (KLq ((pf g1 19)) (Lv (.slice ga (m.gs.length) (gc)) (Kxl m1.cel 19) (KLq (Ki6 m.gs.length) ?_))))
  by_cases c11 : (m.gs.length : Int) ≤ 60
  ·refine Lv KbT (KleT c11) (KLq KbT (KLq KbT (KLe (Wr (Kret KbT ?_)))))
   exact ⟨KrB (Eq.symm (decide_eq_true (by omega))), b1⟩
  refine Lv KbF (KleF c11) (KLq KbF (KLq KbF (KLe (Wr (Kret KbF ?_)))))
  exact ⟨KrB (Eq.symm (decide_eq_false (by omega))), b1⟩
 refine Lv KbF (KleF c6) (KLq KbF (KLu (KLu (KLu (KLu (KLq KbF (KLq KbF (KLe (Wr (Kret KbF ?_))))))))))
 exact ⟨KrB (Eq.symm (decide_eq_false (by omega))), b1⟩
end Go.Proofs.Ytkajcjefckjijaa
namespace Go.Proofs.Ytkajcjefckjijaa
open Go.RowKit Go.WideShapes Go.ChangeShapes Go.Deep
theorem spotless1 {w : World} {x : Addr} {v : Value} (h : w.cell? x = some v) : ∃ b off, x = ⟨b, off, none⟩ := by
  obtain ⟨b, off, spot⟩ := x
  cases spot with
  | none => exact ⟨b, off, rfl⟩
  | some q =>
    unfold World.cell? at h
    simp at h
    split at h <;> cases h
def At4 (k0 k1 k2 k3 : IntKind) (w : World) (b off : Nat) (x0 x1 x2 x3 : Int) : Prop :=
  w.cell? ⟨b, off, none⟩ = some (.int k0 x0) ∧ w.cell? ⟨b, off + 1, none⟩ = some (.int k1 x1) ∧ w.cell? ⟨b, off + 2, none⟩ = some (.int k2 x2) ∧ w.cell? ⟨b, off + 3, none⟩ = some (.int k3 x3)
def Wf4 (k0 k1 k2 k3 : IntKind) (x0 x1 x2 x3 : Int) : Prop := (Lit.int k0 x0).wf = true ∧ (Lit.int k1 x1).wf = true ∧ (Lit.int k2 x2).wf = true ∧ (Lit.int k3 x3).wf = true
def Sl4 (k0 k1 k2 k3 : IntKind) (w : World) (a : Option Addr) (len : Nat) (X0 X1 X2 X3 : Nat → Int) : Prop :=
  ∀ i, i < len → (∃ b off, a = some ⟨b, off, none⟩ ∧ At4 k0 k1 k2 k3 w b (off + i * 4) (X0 i) (X1 i) (X2 i) (X3 i)) ∧ Wf4 k0 k1 k2 k3 (X0 i) (X1 i) (X2 i) (X3 i)
theorem Sl4.up {k0 k1 k2 k3 : IntKind} {w w' : World} {a : Option Addr} {len : Nat} {X0 X1 X2 X3 : Nat → Int} (h : Sl4 k0 k1 k2 k3 w a len X0 X1 X2 X3) (hb : Below w.heap.size w w') : Sl4 k0 k1 k2 k3 w' a len X0 X1 X2 X3 := by
  intro i hi
  obtain ⟨⟨b, off, e, q0, q1, q2, q3⟩, hw⟩ := h i hi
  have hlt := block_lt_of_cell q0
  dsimp only at hlt
  exact ⟨⟨b, off, e, (hb.cell (p := ⟨b, off + i * 4, none⟩) hlt).trans q0, (hb.cell (p := ⟨b, off + i * 4 + 1, none⟩) hlt).trans q1, (hb.cell (p := ⟨b, off + i * 4 + 2, none⟩) hlt).trans q2, (hb.cell (p := ⟨b, off + i * 4 + 3, none⟩) hlt).trans q3⟩, hw⟩
instance {k0 k1 k2 k3 : IntKind} {w w' : World} {a : Option Addr} {len : Nat} {X0 X1 X2 X3 : Nat → Int} : Rt.Tr w w' (Sl4 k0 k1 k2 k3 w a len X0 X1 X2 X3) (Sl4 k0 k1 k2 k3 w' a len X0 X1 X2 X3) := ⟨fun b h => h.up b⟩
end Go.Proofs.Ytkajcjefckjijaa
namespace Go.Proofs.Ytkajcjefckjijaa
open Go.RowKit Go.WideShapes Go.ChangeShapes Go.Deep
def flatKb (P : Program) : Nat → TypeId → Option (List (Option IntKind))
  | 0, _ => none
  | d + 1, t => match P.underlying t with
    | some (.int k) => some [some k]
    | some .bool => some [none]
    | some (.array n e) => (flatKb P d e).bind fun ks => if P.cellsOf e = ks.length ∧ P.cellsOf t = n * ks.length then some (List.replicate n ks).flatten else none
    | some (.struct fs) => (fs.toList.foldlM (fun l f => (flatKb P d f.type).bind fun ks => if f.offset = l.length ∧ P.cellsOf f.type = ks.length then some (l ++ ks) else none) []).bind fun l => if P.cellsOf t = l.length then some l else none
    | _ => none
def OkV (k : Option IntKind) (v : Value) : Prop := match k with | some k => ∃ n, v = .int k n ∧ (Lit.int k n).wf = true | none => ∃ b, v = .bool b
def FlatV (ks : List (Option IntKind)) (cs : List Value) : Prop := cs.length = ks.length ∧ ∀ (j : Nat) (k : Option IntKind), ks[j]? = some k → ∃ v, cs[j]? = some v ∧ OkV k v
theorem flatb_rep {ks : List (Option IntKind)} {k : Option IntKind} : ∀ (n j : Nat), (List.replicate n ks).flatten[j]? = some k → ks[j % ks.length]? = some k ∧ j / ks.length < n
  | 0, j, h => by simp at h
  | n + 1, j, h => by
    rw [List.replicate_succ, List.flatten_cons] at h
    by_cases hj : j < ks.length
    · rw [List.getElem?_append_left hj] at h
      rw [Nat.mod_eq_of_lt hj, Nat.div_eq_of_lt hj]; exact ⟨h, by omega⟩
    · rw [List.getElem?_append_right (by omega)] at h
      have hs : 0 < ks.length := by
        rcases Nat.eq_zero_or_pos ks.length with e | e
        · obtain ⟨h1, _⟩ := flatb_rep n _ h
          have := (List.getElem?_eq_some_iff.1 h1).1; omega
        · exact e
      obtain ⟨h1, h2⟩ := flatb_rep n _ h
      rw [Nat.mod_eq_sub_mod (by omega), Nat.div_eq_sub_div hs (by omega)]
      exact ⟨h1, by omega⟩
section
variable {H : Type} {enc : TypeId × Value → H} {P : Program} {w : World} {base : Nat} {spare : Nat → Bool} {held : Bool}
theorem flatb_part {ks : List (Option IntKind)} {cs : List Value} {o s j : Nat} {k : Option IntKind} (h : FlatV ks ((cs.drop o).take s)) (hs : s = ks.length) (hk : ks[j]? = some k) : ∃ v, cs[o + j]? = some v ∧ OkV k v := by
  obtain ⟨n, h1, h2⟩ := h.2 j k hk
  have hj := (List.getElem?_eq_some_iff.1 hk).1
  rw [List.getElem?_take_of_lt (by omega), List.getElem?_drop] at h1
  exact ⟨n, h1, h2⟩
theorem flatKb_ok : ∀ (d : Nat) (t : TypeId) (ks : List (Option IntKind)), flatKb P d t = some ks → ∀ (fuel : Nat) (cs : List Value) (x : DataW H × List MemPlace), DataW.trod enc P w base spare held fuel t cs = some x → FlatV ks cs
  | 0, _, _, h => by simp [flatKb] at h
  | d + 1, t, ks, h => by
    intro fuel cs x hx
    unfold flatKb at h
    split at h
    · rename_i k hu
      simp only [Option.some.injEq] at h; subst h
      obtain ⟨n, rfl, _, hw⟩ := DataW.trod_int hu hx
      refine ⟨rfl, fun j k' hk => ?_⟩
      match j, hk with
      | 0, hk => simp at hk; subst hk; exact ⟨_, rfl, n, rfl, hw⟩
      | j + 1, hk => simp at hk
    · rename_i hu
      simp only [Option.some.injEq] at h; subst h
      obtain ⟨b, rfl, _⟩ := DataW.trod_bool hu hx
      refine ⟨rfl, fun j k' hk => ?_⟩
      match j, hk with
      | 0, hk => simp at hk; subst hk; exact ⟨_, rfl, b, rfl⟩
      | j + 1, hk => simp at hk
    · rename_i n e hu
      obtain ⟨ks', hks, h⟩ := Option.bind_eq_some_iff.1 h
      split at h
      · rename_i hc
        simp only [Option.some.injEq] at h; subst h
        obtain ⟨xs, m, _, _, hl, hlen, hel⟩ := DataW.trod_array hu hx
        refine ⟨by rw [hl, hc.2]; simp, fun j k hk => ?_⟩
        obtain ⟨h1, h2⟩ := flatb_rep n j hk
        have hi := hel (j / ks'.length) h2
        rw [List.getElem?_eq_getElem (by omega), hc.1] at hi
        have := flatb_part (flatKb_ok d e ks' hks _ _ _ hi) rfl h1
        rw [Nat.mul_comm, Nat.div_add_mod] at this
        exact this
      · cases h
    · rename_i fs hu
      obtain ⟨l, hl, h⟩ := Option.bind_eq_some_iff.1 h
      split at h
      · rename_i hc
        simp only [Option.some.injEq] at h; subst h
        obtain ⟨xs, m, _, _, hlc, hlen, hf⟩ := DataW.trod_struct hu hx
        refine ⟨by rw [hlc, hc], ?_⟩
        have hf' : ∀ f, f ∈ fs.toList → ∃ y, DataW.trod enc P w base spare held m f.type ((cs.drop f.offset).take (P.cellsOf f.type)) = some y := by
          intro f hfm
          obtain ⟨i, hi, e⟩ := List.mem_iff_getElem.1 hfm
          have hi' : i < fs.size := by simpa using hi
          have h1 : fs[i]? = some f := by rw [Array.getElem?_eq_getElem hi']; simpa using e
          have := hf i f h1
          rw [List.getElem?_eq_getElem (by rw [hlen]; exact hi')] at this
          exact ⟨_, this⟩
        have key : ∀ (L : List Field) (acc : List (Option IntKind)), (∀ f, f ∈ L → ∃ y, DataW.trod enc P w base spare held m f.type ((cs.drop f.offset).take (P.cellsOf f.type)) = some y) → (∀ (j : Nat) (k : Option IntKind), acc[j]? = some k → ∃ v, cs[j]? = some v ∧ OkV k v) → ∀ l, L.foldlM (fun l f => (flatKb P d f.type).bind fun ks => if f.offset = l.length ∧ P.cellsOf f.type = ks.length then some (l ++ ks) else none) acc = some l → ∀ (j : Nat) (k : Option IntKind), l[j]? = some k → ∃ v, cs[j]? = some v ∧ OkV k v := by
          intro L
          induction L with
          | nil => intro acc _ ha l hl; simp at hl; subst hl; exact ha
          | cons f L ih =>
            intro acc hL ha l hl
            rw [List.foldlM_cons] at hl
            obtain ⟨l1, h1, h2⟩ := Option.bind_eq_some_iff.1 hl
            obtain ⟨kf, hkf, h3⟩ := Option.bind_eq_some_iff.1 h1
            split at h3
            · rename_i hcc
              simp only [Option.some.injEq] at h3; subst h3
              refine ih (acc ++ kf) (fun g hg => hL g (List.mem_cons_of_mem _ hg)) (fun j k hk => ?_) l h2
              by_cases hj : j < acc.length
              · rw [List.getElem?_append_left hj] at hk; exact ha j k hk
              · rw [List.getElem?_append_right (by omega)] at hk
                obtain ⟨y, hy⟩ := hL f (List.mem_cons_self ..)
                have := flatb_part (flatKb_ok d f.type kf hkf _ _ _ hy) hcc.2 hk
                rw [hcc.1, show acc.length + (j - acc.length) = j by omega] at this
                exact this
            · cases h3
        exact key fs.toList [] hf' (fun j k hk => by simp at hk) l hl
      · cases h
    · cases h
end
section
variable {H : Type} {enc : TypeId × Value → H} {P : Program} {w : World} {base : Nat} {spare : Nat → Bool} {held : Bool}
theorem open_rows {t e : TypeId} {ks : List (Option IntKind)} {fuel D : Nat} {cs : List Value} {x : DataW H × List MemPlace} (ht : P.underlying t = some (.slice e)) (hk : flatKb P D e = some ks) (ce : P.cellsOf e = ks.length) (hs : 0 < ks.length)
    (h : DataW.trod enc P w base spare held fuel t cs = some x) : ∃ a len cap, cs = [.slice a len cap] ∧ len ≤ maxLen ∧ len ≤ cap ∧ ∃ X : Nat → Nat → Value, (∀ i, i < len → ∀ (j : Nat) (k : Option IntKind), ks[j]? = some k → OkV k (X i j)) ∧ Fx.Arr w a len ks.length (Fx.flat ks.length X) := by
  rcases open_slice ht h with ⟨rfl, _⟩ | ⟨a', len, cap, m, n, D', Pl, rfl, _, hl, hm, hmm, _, hx⟩
  · exact ⟨none, 0, 0, rfl, by unfold maxLen; omega, Nat.le_refl _, fun _ _ => undef, fun i hi => absurd hi (by omega), fun h => absurd h (by omega)⟩
  have hlm : len ≤ m := by rw [hmm]; split <;> omega
  have each : ∀ i j : Nat, ∃ q : Value, i < len → ∀ k, ks[j]? = some k → w.cell? (a'.add (i * ks.length + j)) = some q ∧ OkV k q := by
    intro i j
    by_cases hi : i < len ∧ j < ks.length
    · obtain ⟨cs', g1, g2⟩ := hx i (by omega)
      rw [ce] at g1
      obtain ⟨_, hlen, hcell⟩ := World.cells?_some g1
      obtain ⟨q, h1, h2⟩ := (flatKb_ok _ _ _ hk _ _ _ g2).2 j _ (List.getElem?_eq_getElem hi.2)
      refine ⟨q, fun _ k hkj => ?_⟩
      rw [List.getElem?_eq_getElem hi.2, Option.some.injEq] at hkj
      subst hkj
      have q0 := hcell j (by omega)
      rw [add_add] at q0
      exact ⟨by rw [← h1]; simpa using q0, h2⟩
    · refine ⟨undef, fun h1 k h2 => absurd ⟨h1, (List.getElem?_eq_some_iff.1 h2).1⟩ hi⟩
  refine ⟨some a', len, cap, rfl, by omega, hl, fun i j => Classical.choose (each i j), fun i hi j k hkj => (Classical.choose_spec (each i j) hi k hkj).2, fun h0 => ?_⟩
  have e0 : a'.add (0 * ks.length + 0) = a' := by unfold Addr.add; simp
  obtain ⟨q00, h00⟩ := each 0 0
  have hk0 := List.getElem?_eq_getElem hs
  have h00' := (h00 h0 _ hk0)
  have h01 := h00'.1
  rw [e0] at h01
  have e1 : ∃ b off, a' = ⟨b, off, none⟩ := by
    have h02 := h00'.2
    unfold OkV at h02
    split at h02
    · obtain ⟨nn, rfl, _⟩ := h02; exact spotless1 h01
    · obtain ⟨bb, rfl⟩ := h02
      unfold World.cell? at h01
      cases a' with
      | mk b off sp =>
        cases sp with
        | none => exact ⟨b, off, rfl⟩
        | some s => simp at h01; split at h01 <;> simp_all
  obtain ⟨b, off, e1⟩ := e1
  refine ⟨b, off, by rw [e1], fun p hp => ?_⟩
  have hj : p % ks.length < ks.length := Nat.mod_lt _ hs
  have hi : p / ks.length < len := Nat.div_lt_of_lt_mul (by rw [Nat.mul_comm]; exact hp)
  have := (Classical.choose_spec (each (p / ks.length) (p % ks.length)) hi _ (List.getElem?_eq_getElem hj)).1
  have ea : a'.add (p / ks.length * ks.length + p % ks.length) = ⟨b, off + p, none⟩ := by rw [e1, addr_add, Nat.mul_comm, Nat.div_add_mod]
  exact (congrArg w.cell? ea).symm.trans this
end
end Go.Proofs.Ytkajcjefckjijaa
namespace Go.Proofs.Ytkajcjefckjijaa
open Go.RowKit Go.WideShapes Go.ChangeShapes Go.Deep Rt
set_option linter.unusedVariables false
def boolOf : Value → Bool | .bool b => b | _ => false
theorem OkV.int {k : IntKind} {v : Value} (h : OkV (some k) v) : v = .int k (intOf v) ∧ (Lit.int k (intOf v)).wf = true := by
  obtain ⟨n, rfl, hw⟩ := h; exact ⟨rfl, hw⟩
theorem OkV.bool {v : Value} (h : OkV none v) : v = .bool (boolOf v) := by
  obtain ⟨b, rfl⟩ := h; rfl
theorem wf_u8 {n : Int} (h : (Lit.int .u8 n).wf = true) : 0 ≤ n ∧ n ≤ 255 := by simp [Lit.wf, IntKind.min, IntKind.max, IntKind.bits, IntKind.signed] at h; omega
theorem wf_u64 {n : Int} (h : (Lit.int .u64 n).wf = true) : U64r n := by simp [Lit.wf, IntKind.min, IntKind.max, IntKind.bits, IntKind.signed] at h; unfold U64r; omega
theorem wf_64 {n : Int} (h : (Lit.int .i64 n).wf = true) : I64r n := by simp [Lit.wf, IntKind.min, IntKind.max, IntKind.bits, IntKind.signed] at h; unfold I64r; omega
theorem Fx.Arr.congr {w : World} {a : Option Addr} {n s : Nat} {x y : Nat → Value} (h : Fx.Arr w a n s x) (e : ∀ p, p < n * s → x p = y p) : Fx.Arr w a n s y := fun h0 => by
  obtain ⟨b, off, ea, hc⟩ := h h0
  exact ⟨b, off, ea, fun i hi => by rw [← e i hi]; exact hc i hi⟩
section
variable {H : Type} {enc : TypeId × Value → H} {P : Program} {w : World}
def ndKs : List (Option IntKind) := some .u64 :: some .u64 :: List.replicate 54 (some .i64)
def grKs : List (Option IntKind) := [some .i64, some .u64, some .u64, some .i64, some .u64]
theorem nd_ok {X : Nat → Value} (h : ∀ (j : Nat) (k : Option IntKind), ndKs[j]? = some k → OkV k (X j)) : (U64r (intOf (X 0)) ∧ U64r (intOf (X 1)) ∧ ∀ p, p < 54 → I64r (intOf (X (p + 2)))) ∧ ∀ j, j < 56 → X j = ndY (intOf (X 0)) (intOf (X 1)) (fun p => intOf (X (p + 2))) j := by
  have h0 := (h 0 (some .u64) rfl).int
  have h1 := (h 1 (some .u64) rfl).int
  have hp : ∀ p, p < 54 → X (p + 2) = Ki6 (intOf (X (p + 2))) ∧ _ := fun p hp => (h (p + 2) (some .i64) (by show (List.replicate 54 (some IntKind.i64))[p]? = _; rw [List.getElem?_replicate, if_pos hp])).int
  refine ⟨⟨wf_u64 h0.2, wf_u64 h1.2, fun p h2 => wf_64 (hp p h2).2⟩, fun j hj => ?_⟩
  unfold ndY
  by_cases e0 : j = 0
  · subst e0; exact h0.1
  by_cases e1 : j = 1
  · subst e1; exact h1.1
  rw [if_neg e0, if_neg e1]
  have := (hp (j - 2) (by omega)).1
  rw [show j - 2 + 2 = j by omega] at this
  show X j = Ki6 (intOf (X (j - 2 + 2)))
  rw [show j - 2 + 2 = j by omega]; exact this
theorem gr_ok {X : Nat → Value} (h : ∀ (j : Nat) (k : Option IntKind), grKs[j]? = some k → OkV k (X j)) : (I64r (intOf (X 0)) ∧ U64r (intOf (X 1)) ∧ U64r (intOf (X 2)) ∧ I64r (intOf (X 3)) ∧ U64r (intOf (X 4))) ∧ ∀ j, j < 5 → X j = grY (fun p => intOf (X p)) j := by
  have h0 := (h 0 (some .i64) rfl).int
  have h1 := (h 1 (some .u64) rfl).int
  have h2 := (h 2 (some .u64) rfl).int
  have h3 := (h 3 (some .i64) rfl).int
  have h4 := (h 4 (some .u64) rfl).int
  refine ⟨⟨wf_64 h0.2, wf_u64 h1.2, wf_u64 h2.2, wf_64 h3.2, wf_u64 h4.2⟩, fun j hj => ?_⟩
  rcases j with _|_|_|_|_|j
  · exact h0.1
  · exact h1.1
  · exact h2.1
  · exact h3.1
  · exact h4.1
  omega
structure StA (w : World) (s : StM) (id par : Nat → Int) (R g : Nat → Nat → Int) : Prop where
  an : Fx.Arr w s.na s.nn 56 (Fx.flat 56 fun k => ndY (id k) (par k) (R k))
  ag : Fx.Arr w s.ga s.gn 5 (Fx.flat 5 fun k => grY (g k))
  wn : ∀ k, k < s.nn → U64r (id k) ∧ U64r (par k) ∧ ∀ p, p < 54 → I64r (R k p)
  wg : ∀ k, k < s.gn → I64r (g k 0) ∧ U64r (g k 1) ∧ U64r (g k 2) ∧ I64r (g k 3) ∧ U64r (g k 4)
  wk : ∀ i, i < 6 → U64r (s.known i)
  bn : s.nn ≤ maxLen
  bg : s.gn ≤ maxLen
  cn : s.nn ≤ s.nc
  cg : s.gn ≤ s.gc
set_option maxHeartbeats 2000000 in
theorem open_state {r : Reach} {base : Nat} {t tb tv tn tg en eg : TypeId} {fs : Array Field} {v : Value} {D : Nat} {d : DataW H} {ps : List MemPlace} (ht : P.underlying t = some (.struct fs)) (h5 : fs.toList.map (fun f => (f.offset, f.type)) = [(0, tb), (6, tb), (12, tv), (18, tn), (19, tg)]) (ct : P.cellsOf t = 20)
    (cb : P.cellsOf tb = 6) (cv : P.cellsOf tv = 6) (cn : P.cellsOf tn = 1) (cg : P.cellsOf tg = 1) (kb : flatKb P D tb = some (List.replicate 6 none)) (kv : flatKb P D tv = some (List.replicate 6 (some .u64))) (sn : P.underlying tn = some (.slice en)) (sg : P.underlying tg = some (.slice eg))
    (kn : flatKb P D en = some ndKs) (kg : flatKb P D eg = some grKs) (cen : P.cellsOf en = 56) (ceg : P.cellsOf eg = 5) (hw : Value.okWide P w r base t v)
    (h : DataW.Trod enc P w 0 (fun _ => true) true t v d ps) : ∃ s id par R g, v = .agg (Fx.varr 20 (stY s)) ∧ StA w s id par R g := by
  unfold Value.okWide at hw
  rw [ht] at hw
  obtain ⟨cs, rfl, hsz, _⟩ := hw
  rw [ct] at hsz
  obtain ⟨fuel, hf⟩ := h
  have hf : DataW.trod enc P w 0 (fun _ => true) true fuel t cs.toList = some (d, ps) := hf
  obtain ⟨xs, n, _, _, hlen, hxl, hel⟩ := DataW.trod_struct ht hf
  have fld : ∀ (i off : Nat) (ft : TypeId), (fs.toList.map (fun f => (f.offset, f.type)))[i]? = some (off, ft) → ∃ y, DataW.trod enc P w 0 (fun _ => true) true n ft ((cs.toList.drop off).take (P.cellsOf ft)) = some y := fun i off ft hi => by
    rw [List.getElem?_map] at hi
    obtain ⟨f, hf1, hf2⟩ := Option.map_eq_some_iff.1 hi
    simp only [Prod.mk.injEq] at hf2
    obtain ⟨rfl, rfl⟩ := hf2
    rw [Array.getElem?_toList] at hf1
    have h1 := hel i f hf1
    have hi2 := (Array.getElem?_eq_some_iff.1 hf1).1
    rw [List.getElem?_eq_getElem (by omega)] at h1
    exact ⟨_, h1⟩
  rw [h5] at fld
  obtain ⟨y0, f0⟩ := fld 0 0 tb rfl
  obtain ⟨y1, f1⟩ := fld 1 6 tb rfl
  obtain ⟨y2, f2⟩ := fld 2 12 tv rfl
  obtain ⟨y3, f3⟩ := fld 3 18 tn rfl
  obtain ⟨y4, f4⟩ := fld 4 19 tg rfl
  have b0 := flatKb_ok _ _ _ kb _ _ _ f0
  have b1 := flatKb_ok _ _ _ kb _ _ _ f1
  have b2 := flatKb_ok _ _ _ kv _ _ _ f2
  obtain ⟨na, nn, nc, e3, bn, cnn, X, hX, hA⟩ := open_rows sn kn cen (by decide) f3
  obtain ⟨ga, gn, gc, e4, bg, cgg, Y, hY, hB⟩ := open_rows sg kg ceg (by decide) f4
  have cell : ∀ (off m j : Nat) (v : Value), j < m → ((cs.toList.drop off).take m)[j]? = some v → cs[off + j]? = some v := fun off m j v hj hv => by
    rw [List.getElem?_take_of_lt hj, List.getElem?_drop, Array.getElem?_toList] at hv; exact hv
  have c0 : ∀ j, j < 6 → ∃ b, cs[j]? = some (.bool b) := fun j hj => by
    obtain ⟨v, hv, b, rfl⟩ := b0.2 j none (by rw [List.getElem?_replicate, if_pos hj])
    exact ⟨b, by have := cell 0 _ j _ (by rw [cb]; exact hj) hv; rwa [Nat.zero_add] at this⟩
  have c1 : ∀ j, j < 6 → ∃ b, cs[j + 6]? = some (.bool b) := fun j hj => by
    obtain ⟨v, hv, b, rfl⟩ := b1.2 j none (by rw [List.getElem?_replicate, if_pos hj])
    exact ⟨b, by have := cell 6 _ j _ (by rw [cb]; exact hj) hv; rwa [Nat.add_comm] at this⟩
  have c2 : ∀ j, j < 6 → ∃ n, cs[j + 12]? = some (Ku6 n) ∧ U64r n := fun j hj => by
    obtain ⟨v, hv, q, rfl, hw⟩ := b2.2 j (some .u64) (by rw [List.getElem?_replicate, if_pos hj])
    exact ⟨q, by have := cell 12 _ j _ (by rw [cv]; exact hj) hv; rwa [Nat.add_comm] at this, wf_u64 hw⟩
  have c3 : cs[18]? = some (.slice na nn nc) := cell 18 (P.cellsOf tn) 0 _ (by rw [cn]; decide) (by rw [e3]; rfl)
  have c4 : cs[19]? = some (.slice ga gn gc) := cell 19 (P.cellsOf tg) 0 _ (by rw [cg]; decide) (by rw [e4]; rfl)
  let s : StM := ⟨fun i => boolOf (cs.getD i undef), fun i => boolOf (cs.getD (i + 6) undef), fun i => intOf (cs.getD (i + 12) undef), na, nn, nc, ga, gn, gc⟩
  have gd : ∀ i v, cs[i]? = some v → cs.getD i undef = v := fun i v hv => by rw [Array.getD_eq_getD_getElem?, hv]; rfl
  have hX' := fun k (hk : k < nn) => nd_ok (hX k hk)
  have hY' := fun k (hk : k < gn) => gr_ok (hY k hk)
  refine ⟨s, fun k => intOf (X k 0), fun k => intOf (X k 1), fun k p => intOf (X k (p + 2)), fun k p => intOf (Y k p), ?_, {
    an := hA.congr (Fx.flat_cong fun k hk j hj => (hX' k hk).2 j hj)
    ag := hB.congr (Fx.flat_cong fun k hk j hj => (hY' k hk).2 j hj)
    wn := fun k hk => (hX' k hk).1
    wg := fun k hk => (hY' k hk).1
    wk := fun i hi => by
      obtain ⟨q, hq, hu⟩ := c2 i hi
      show U64r (intOf (cs.getD (i + 12) undef))
      rw [gd _ _ hq]; exact hu
    bn := bn
    bg := bg
    cn := cnn
    cg := cgg }⟩
  congr 1
  refine Fx.varr_ext hsz fun i hi => ?_
  unfold stY
  by_cases h1 : i < 6
  · obtain ⟨b, hb⟩ := c0 i h1
    rw [if_pos h1, hb]
    show _ = some (Value.bool (boolOf (cs.getD i undef)))
    rw [gd _ _ hb]; rfl
  rw [if_neg h1]
  by_cases h2 : i < 12
  · obtain ⟨b, hb⟩ := c1 (i - 6) (by omega)
    rw [show i - 6 + 6 = i by omega] at hb
    rw [if_pos h2, hb]
    show _ = some (Value.bool (boolOf (cs.getD (i - 6 + 6) undef)))
    rw [show i - 6 + 6 = i by omega, gd _ _ hb]; rfl
  rw [if_neg h2]
  by_cases h3 : i < 18
  · obtain ⟨q, hq, _⟩ := c2 (i - 12) (by omega)
    rw [show i - 12 + 12 = i by omega] at hq
    rw [if_pos h3, hq]
    show _ = some (Value.int .u64 (intOf (cs.getD (i - 12 + 12) undef)))
    rw [show i - 12 + 12 = i by omega, gd _ _ hq]; rfl
  rw [if_neg h3]
  by_cases h4 : i = 18
  · subst h4; rw [if_pos rfl, c3]
  rw [if_neg h4, show i = 19 by omega, c4]
theorem StA.toW {s : StM} {id par : Nat → Int} {R g : Nat → Nat → Int} (h : StA w s id par R g) : ∃ m : SnM, s = stS m s.na s.nc s.ga s.gc ∧ (m.ns.length ≤ 1000000 → m.gs.length ≤ 1000000 → StW w m s.na s.nc s.ga s.gc) := by
  obtain ⟨ns, hns⟩ : ∃ l, l = (List.range s.nn).map fun k => (⟨id k, par k, R k⟩ : NdM) := ⟨_, rfl⟩
  obtain ⟨gs, hgs⟩ : ∃ l, l = (List.range s.gn).map fun k => (⟨g k 0, g k 1, g k 2, g k 3, g k 4⟩ : GrM) := ⟨_, rfl⟩
  have l1 : ns.length = s.nn := by rw [hns]; simp
  have l2 : gs.length = s.gn := by rw [hgs]; simp
  have e1 : ∀ k, k < s.nn → ndA ns k = ⟨id k, par k, R k⟩ := fun k hk => by
    unfold ndA; rw [hns, List.getD_eq_getElem?_getD, List.getElem?_map, List.getElem?_range hk]; rfl
  have e2 : ∀ k, k < s.gn → grA gs k = ⟨g k 0, g k 1, g k 2, g k 3, g k 4⟩ := fun k hk => by
    unfold grA; rw [hgs, List.getD_eq_getElem?_getD, List.getElem?_map, List.getElem?_range hk]; rfl
  refine ⟨⟨s.inn, s.left, s.known, ns, gs⟩, ?_, fun b1 b2 => ⟨⟨fun i hi => h.wk i hi, fun x hx => ?_, fun x hx => ?_⟩, b1, b2, ?_, ?_, ?_, ?_⟩⟩
  · show s = ⟨s.inn, s.left, s.known, s.na, ns.length, s.nc, s.ga, gs.length, s.gc⟩
    rw [l1, l2]
  · have hx : x ∈ ns := hx
    rw [hns] at hx
    obtain ⟨k, hk, rfl⟩ := List.mem_map.1 hx
    obtain ⟨a1, a2, a3⟩ := h.wn k (List.mem_range.1 hk)
    exact ⟨a1, a2, a3⟩
  · have hx : x ∈ gs := hx
    rw [hgs] at hx
    obtain ⟨k, hk, rfl⟩ := List.mem_map.1 hx
    obtain ⟨a1, a2, a3, a4, a5⟩ := h.wg k (List.mem_range.1 hk)
    exact ⟨a1, a2, a3, a4, a5⟩
  · show Fx.Arr w s.na ns.length 56 (ndsX ns)
    rw [l1]
    exact h.an.congr (Fx.flat_cong fun k hk j hj => by rw [e1 k hk]; rfl)
  · show Fx.Arr w s.ga gs.length 5 (grsX gs)
    rw [l2]
    exact h.ag.congr (Fx.flat_cong fun k hk j hj => by rw [e2 k hk]; rcases j with _|_|_|_|_|j <;> first | rfl | omega)
  · show ns.length ≤ s.nc; rw [l1]; exact h.cn
  show gs.length ≤ s.gc; rw [l2]; exact h.cg
theorem open_bytes {t e : TypeId} {a : Option Addr} {len cap D : Nat} {d : DataW H} {ps : List MemPlace} (ht : P.underlying t = some (.slice e)) (hk : flatKb P D e = some [some .u8]) (ce : P.cellsOf e = 1)
    (h : DataW.Trod enc P w 0 (fun _ => true) true t (.slice a len cap) d ps) : ∃ l : List UInt8, len = l.length ∧ len ≤ cap ∧ Fx.Arr w a len 1 (Fx.byY l) := by
  obtain ⟨fuel, hf⟩ := h
  obtain ⟨a', l', c', hcs, _, hc, X, hX, hA⟩ := open_rows ht hk ce (by decide) hf
  simp [Value.cells] at hcs
  obtain ⟨rfl, rfl, rfl⟩ := hcs
  refine ⟨(List.range len).map fun k => UInt8.ofNat (intOf (X k 0)).toNat, by simp, hc, hA.congr fun p hp => ?_⟩
  have hp : p < len := by have q9 : p < len * 1 := hp; omega
  obtain ⟨e1, hw⟩ := (hX p hp 0 (some .u8) rfl).int
  have hb := wf_u8 hw
  show X (p / 1) (p % 1) = _
  rw [Nat.div_one, Nat.mod_one, e1]
  unfold Fx.byY
  rw [List.getD_eq_getElem?_getD, List.getElem?_map, List.getElem?_range hp]
  show Value.int .u8 (intOf (X p 0)) = .int .u8 (((UInt8.ofNat (intOf (X p 0)).toNat).toNat : Nat) : Int)
  rw [UInt8.toNat_ofNat']
  congr 1
  omega
end
end Go.Proofs.Ytkajcjefckjijaa
namespace Go.Proofs.Ytkajcjefckjijaa
open Go.RowKit Rt
open Fx (x_move x_assign x_field x_load1 x_conv x_indexS x_index x_leqF x_loadA x_len x_gtrF x_eqlF x_eqlT Lv sN Ln Ws Qv Wl Rp Wc Qs Wr Sb Lk Wk rV sR Rs Rn Rd Rk Wb Wx Wo WoE Wt Wone Qn Qcl Lcl Lbs Lap Lnw Lbx Stv cOs cOg sRf mRf gRf cRf oNl bGr WsJ Wro rv varr Blk ovr putI ev Stp ovr_all flat updV Mp run_loadV Cel fill_step ret0 Chg i64e Arr flat_cong cells_agg cells_one ChT ovr_ones jnN u64e appX fOne_out upd_all blkR blkN seqX blkX lpX lpN lpR retV2)
def Rws (w0 : World) (l : List (Nat × (Nat → Int))) (w' : World) : Prop := (∀ p ∈ l, w'.heap[p.1]? = some (.cells (iarr .i64 54 p.2) 48 (0, 0))) ∧ Below w0.heap.size w0 w'
theorem Rws.up {w0 w w' : World} {l : List (Nat × (Nat → Int))} (h : Rws w0 l w) (hb : Below w.heap.size w w') : Rws w0 l w' := ⟨fun p hp => row_kept (h.1 p hp) hb, bch h.2 hb⟩
instance {w0 w w' : World} {l : List (Nat × (Nat → Int))} : Rt.Tr w w' (Rws w0 l w) (Rws w0 l w') := ⟨fun b h => h.up b⟩
theorem Rws.drew {w0 w : World} {l : List (Nat × (Nat → Int))} (h : Rws w0 l w) : Rws w0 l w.drew := ⟨h.1, bN h.2 1⟩
theorem Rws.drop {w0 w : World} {p : Nat × (Nat → Int)} {l : List (Nat × (Nat → Int))} (h : Rws w0 (p :: l) w) : Rws w0 l w := ⟨fun q hq => h.1 q (by simp [hq]), h.2⟩
theorem Rws.row {w0 w : World} {l : List (Nat × (Nat → Int))} (h : Rws w0 l w) (g : Nat) (x : Nat → Int) (hm : (g, x) ∈ l) : w.heap[g]? = some (.cells (iarr .i64 54 x) 48 (0, 0)) := h.1 (g, x) hm
theorem Rws.add {w0 w : World} {l : List (Nat × (Nat → Int))} (h : Rws w0 l w) {g : Nat} {x : Nat → Int} (c : w.heap[g]? = some (.cells (iarr .i64 54 x) 48 (0, 0))) : Rws w0 ((g, x) :: l) w :=
  ⟨fun p hp => by
    rcases List.mem_cons.1 hp with rfl | hp
    · exact c
    · exact h.1 p hp, h.2⟩
theorem Rws.start (w : World) (x : Nat → Int) : Rws w [(w.heap.size, x)] (w.alloc (.cells (iarr .i64 54 x) 48)) := ⟨fun p hp => by
    obtain rfl : p = (w.heap.size, x) := by simpa using hp
    exact heap_alloc_new w _, (Below.refl _ _).alloc (Nat.le_refl _) _⟩
namespace Rt
def lref (x : Nat → Int) (k : Nat) : Nat → Int
  | 0 => G x k - C x k + F x k
  | j + 1 => lref x k j + R x j k - R x k j
theorem lref_L (x : Nat → Int) (k : Nat) : lref x k 6 = L x k := by simp only [lref, L]; omega
theorem lref_bd {x : Nat → Int} (h : Ent x) (k : Nat) (hk : k < 6) : ∀ j : Nat, j ≤ 6 → -(1125899906842624 * ((j : Int) + 1)) ≤ lref x k j ∧ lref x k j ≤ 1125899906842624 * ((j : Int) + 2)
  | 0, _ => by
    have a := h k (by omega); have b := h (6 + k) (by omega); have c := h (12 + k) (by omega)
    simp only [lref, G, C, F]; omega
  | j + 1, hj => by
    have := lref_bd h k hk j (by omega)
    have a := h (18 + j * 6 + k) (by omega); have b := h (18 + k * 6 + j) (by omega)
    simp only [lref, R]; omega
end Rt
theorem f7_number (n : Int) (w : World) :
    Calls Try.prog 72 #[Ki6 n] w fun e w' => e = .returned (.bool (okN n)) ∧ w' = w := by
 refine Kent Try.func72 9 ?_
 refine KWsl (KLq KbF (KLe (KWsl (KLq (Ki6 n) ?_))))
 by_cases c4 : 0 ≤ n
 ·refine Lv KbT (KgeT c4) (KLq KbT (KLq (Ki6 n) ?_))
  by_cases c7 : n ≤ 1125899906842624
  ·refine Lv KbT (KleT c7) (KLq KbT (KLq KbT (KLe (Wr (Kret KbT ?_)))))
   exact ⟨KrB (by simp only [okN]; first | (symm; simp; omega) | (symm; simp; done)), rfl⟩
  refine Lv KbF (KleF c7) (KLq KbF (KLq KbF (KLe (Wr (Kret KbF ?_)))))
  exact ⟨KrB (by simp only [okN]; first | (symm; simp; omega) | (symm; simp; done)), rfl⟩
 refine Lv KbF (KgeF c4) (KLq KbF (KLu (KLu (KLq KbF (KLq KbF (KLe (Wr (Kret KbF ?_))))))))
 exact ⟨KrB (by simp only [okN]; first | (symm; simp; omega) | (symm; simp; done)), rfl⟩
-- leatref07.region is not in this seat
theorem Rt.lref_succ (x : Nat → Int) (k j : Nat) : lref x k (j + 1) = lref x k j + x (18 + j * 6 + k) - x (18 + k * 6 + j) := rfl
theorem Rt.lref_zero (x : Nat → Int) (k : Nat) : lref x k 0 = x k - x (6 + k) + x (12 + k) := rfl
theorem f7_local (x : Nat → Int) (k : Nat) (w : World) (hk : k < 6) (he : Ent x) :
    Calls Try.prog 73 #[.agg (varr 54 (rv .i64 x)), Ki6 ((k : Int) + 1)] w fun e w' => e = .returned (Ki6 (L x k)) ∧ Below w.heap.size w w' := by
 have HL : lref x k 6 = L x k := lref_L x k
 have HB := fun j => lref_bd he k hk j
 have h0 : lref x k 0 = x k - x (k + 6) + x (k + 12) := by rw [lref_zero, Nat.add_comm 6 k, Nat.add_comm 12 k]
 have a1 := he k (by omega)
 have a2 := he (k + 6) (by omega)
 have a3 := he (k + 12) (by omega)
 refine Kent Try.func73 44 ?_
 refine KWsl (KLb fun g1 w1 eg1 m1 s1 z1 => ?_)
 have b1 := KTk1 s1.old (Below.refl w.heap.size w)
 have lg1 := KGk0 eg1
 have tg1 := m1.lt
 refine KLq (Ki6 0) (KLe (KWsl (KLq (Ki6 ((k : Int) + 1)) (Lv (Ki6 k) KxM (KLq (Ki6 k) (KLe (Ws ?_)))))))
 -- region 2 draws
 refine KWqd (KQq (Ki6 k) (KQq ((pt g1)) (Qv ((pf g1 k)) (fun v1 hv1 => Kxj 6 1) (Qv (Ki6 (x k)) (fun v1 hv1 => Kxl (m1.cel.dr hv1) k) (KQq (Ki6 k) (KQq ((pf g1 6)) (Qv ((pf g1 (k + 6))) (fun v1 hv1 => Kxj 6 1) (Qv (Ki6 (x (k + 6))) (fun v1 hv1 => Kxl (m1.cel.dr hv1) (k + 6)) (Qv (Ki6 ((x k) - (x (k + 6)))) (fun v1 hv1 => KxM) (KQq (Ki6 k) (KQq ((pf g1 12)) (Qv ((pf g1 (k + 12))) (fun v1 hv1 => Kxj 6 1) (Qv (Ki6 (x (k + 12))) (fun v1 hv1 => Kxl (m1.cel.dr hv1) (k + 12)) (Qv (Ki6 (((x k) - (x (k + 6))) + (x (k + 12)))) (fun v1 hv1 => KxP) (KQq (Ki6 (((x k) - (x (k + 6))) + (x (k + 12)))) (Qn ?_))))))))))))))))
 rintro _ ⟨qd, rfl⟩
 obtain ⟨wq1, ewq1⟩ : ∃ v1, v1 = World.drewN w1 qd := ⟨_, rfl⟩
 rw [← ewq1]
 have s2 : Stp w1.heap.size w1 wq1 := by rw [ewq1]; exact Sb (bdrN w1 qd)
 have ⟨m2, b2⟩ := KTk2 s2.old m1 b1
 clear ewq1
 refine sN (Ws (KWsl (KLq (Ki6 0) (KLe (Wb (Wo (fun f w_ => ∃ j : Nat, j ≤ 6 ∧ f 2 = (pt g1) ∧ f 5 = Ki6 ((k : Int)) ∧ f 6 = Ki6 (lref x k j) ∧ f 7 = Ki6 ((j : Int)) ∧ Blk w_ g1 54 (rv .i64 x) 48 ∧ Below w.heap.size w w_) (fun f _ => (6 - (intOf (f 7)).toNat)) ⟨0, by omega, (by rfl), Fx.ic, Fx.ic, Fx.ic, m2, b2⟩ ?_))))))
 rintro f1 w2 ⟨j, p1, h1, h2, h3, h4, m3, b3⟩
 have hB := HB j (by omega)
 have HS : lref x k (j + 1) = lref x k j + x (6 * j + k + 18) - x (j + 6 * k + 18) := by rw [lref_succ, show 18 + j * 6 + k = 6 * j + k + 18 by omega, show 18 + k * 6 + j = j + 6 * k + 18 by omega]
 have b1 := he (6 * j + k + 18)
 have b2 := he (j + 6 * k + 18)
 refine Ws (KWsl (KLh h4 ?_))
 by_cases c25 : (j : Int) < 6
 ·refine Lv KbT (KltT c25) (KLe (KWcT (Wk (sN (Ws (Wb ?_))))))
  -- region 6 draws
  refine KWqd (KQh h3 (KQh h4 (KQh h2 (Qv ((pf g1 18)) (fun v1 hv1 => Kxf h1 18) (Qv ((pf g1 (6 * j + 18))) (fun v1 hv1 => Kxj 6 6) (Qv ((pf g1 (6 * j + k + 18))) (fun v1 hv1 => Kxj 6 1) (Qv (Ki6 (x (6 * j + k + 18))) (fun v1 hv1 => Kxl (m3.cel.dr hv1) (6 * j + k + 18)) (Qv (Ki6 ((lref x k j) + (x (6 * j + k + 18)))) (fun v1 hv1 => KxP) (KQh h2 (KQh h4 (Qv ((pf g1 18)) (fun v1 hv1 => Kxf h1 18) (Qv ((pf g1 (6 * k + 18))) (fun v1 hv1 => Kxj 6 6) (Qv ((pf g1 (j + 6 * k + 18))) (fun v1 hv1 => Kxj 6 1) (Qv (Ki6 (x (j + 6 * k + 18))) (fun v1 hv1 => Kxl (m3.cel.dr hv1) (j + 6 * k + 18)) (Qv (Ki6 (((lref x k j) + (x (6 * j + k + 18))) - (x (j + 6 * k + 18)))) (fun v1 hv1 => KxM) (KQq (Ki6 (((lref x k j) + (x (6 * j + k + 18))) - (x (j + 6 * k + 18)))) (Qn ?_)))))))))))))))))
  rintro _ ⟨qd, rfl⟩
  obtain ⟨wq2, ewq2⟩ : ∃ v1, v1 = World.drewN w2 qd := ⟨_, rfl⟩
  rw [← ewq2]
  have s3 : Stp w2.heap.size w2 wq2 := by rw [ewq2]; exact Sb (bdrN w2 qd)
  have ⟨m4, b4⟩ := KTk2 s3.old m3 b3
  clear ewq2
  refine blkN (sN (Wl (KLh h4 (Lv (Ki6 ((j : Int) + 1)) KxP (KLq (Ki6 ((j : Int) + 1)) (Ln (lpN ⟨j + 1, by omega, h1, (h2.trans Fx.ic), Fx.ic, Fx.ic, m4, b4⟩ ?_)))))))
  show (6 - (intOf ((Ki6 ((j : Int) + 1)))).toNat) < _
  simp only [h4, intOf]; omega
 refine Lv KbF (KltF c25) (KLe (KWcF (Wx (seqX (lpX (blkX (sN (KWsl (KLh h3 (KLq (Ki6 (lref x k j)) (KLe (Wr (Kret (Ki6 (lref x k j)) ?_)))))))))))))
 exact ⟨KrI (by rw [← HL]; exact congrArg _ (by omega)), b3⟩
namespace Rt
def RowOk (x : Nat → Int) (i : Nat) : Prop := okN (x i) = true ∧ okN (x (i + 6)) = true ∧ okN (x (i + 12)) = true ∧ x (i + 12) ≤ x (i + 6) ∧ x (7 * i + 18) = 0
def RowTo (x : Nat → Int) (i j : Nat) : Prop := ∀ q, q < j → okN (x (6 * i + q + 18)) = true
def OkTo (x : Nat → Int) (i : Nat) : Prop := ∀ k, k < i → RowOk x k ∧ RowTo x k 6
def sumG (x : Nat → Int) : Nat → Int
  | 0 => 0
  | i + 1 => sumG x i + x i
theorem okTo_zero (x : Nat → Int) : OkTo x 0 := fun _ h => absurd h (by omega)
theorem rowTo_zero (x : Nat → Int) (i : Nat) : RowTo x i 0 := fun _ h => absurd h (by omega)
theorem rowTo_succ {x : Nat → Int} {i j : Nat} (h : RowTo x i j) (hn : okN (x (6 * i + j + 18)) = true) : RowTo x i (j + 1) := fun q hq => by
  by_cases e : q = j
  · subst e; exact hn
  · exact h q (by omega)
theorem okTo_succ {x : Nat → Int} {i : Nat} (h : OkTo x i) (hr : RowOk x i) (ht : RowTo x i 6) : OkTo x (i + 1) := fun k hk => by
  by_cases e : k = i
  · subst e; exact ⟨hr, ht⟩
  · exact h k (by omega)
theorem okTo_ent {x : Nat → Int} (h : OkTo x 6) : Ent x := fun p hp => by
  by_cases h1 : p < 6
  · exact okN_bd (h p h1).1.1
  · by_cases h2 : p < 12
    · have := okN_bd (h (p - 6) (by omega)).1.2.1; rwa [show p - 6 + 6 = p by omega] at this
    · by_cases h3 : p < 18
      · have := okN_bd (h (p - 12) (by omega)).1.2.2.1; rwa [show p - 12 + 12 = p by omega] at this
      · have := okN_bd ((h ((p - 18) / 6) (by omega)).2 ((p - 18) % 6) (by omega)); rwa [show 6 * ((p - 18) / 6) + (p - 18) % 6 + 18 = p by omega] at this
theorem sumG_bd {x : Nat → Int} : ∀ {i : Nat}, OkTo x i → 0 ≤ sumG x i ∧ sumG x i ≤ 1125899906842624 * (i : Int)
  | 0, _ => by simp [sumG]
  | i + 1, h => by
    have a := sumG_bd (i := i) (fun k hk => h k (by omega))
    have b := okN_bd (h i (by omega)).1.1
    simp only [sumG]; omega
theorem no_ent {x : Nat → Int} {p : Nat} (hp : p < 54) (h : okN (x p) = false) : may x = false := by
  cases hm : may x
  · rfl
  have := (may_iff x).1 hm |>.1 p hp
  unfold okN at h; simp at h; omega
theorem no_fc {x : Nat → Int} {i : Nat} (hi : i < 6) (h : x (i + 6) < x (i + 12)) : may x = false := by
  cases hm : may x
  · rfl
  have := ((may_iff x).1 hm |>.2.1 i hi).2.1
  unfold F C at this; rw [Nat.add_comm 12 i, Nat.add_comm 6 i] at this; omega
theorem no_rr {x : Nat → Int} {i : Nat} (hi : i < 6) (h : ¬ x (7 * i + 18) = 0) : may x = false := by
  cases hm : may x
  · rfl
  have := ((may_iff x).1 hm |>.2.1 i hi).2.2
  unfold R at this; rw [show 18 + i * 6 + i = 7 * i + 18 by omega] at this; exact absurd this h
theorem no_loc {x : Nat → Int} {i : Nat} (hi : i < 6) (h : L x i < 0) : may x = false := by
  cases hm : may x
  · rfl
  have := ((may_iff x).1 hm |>.2.1 i hi).1
  omega
theorem loc_succ {x : Nat → Int} {m : Nat} (h : ∀ k, k < m → 0 ≤ L x k) (hm : 0 ≤ L x m) : ∀ k, k < m + 1 → 0 ≤ L x k := fun k hk => by
  by_cases e : k = m
  · rw [e]; exact hm
  · exact h k (by omega)
theorem may_fin {x : Nat → Int} (ha : OkTo x 6) (hl : ∀ k, k < 6 → 0 ≤ L x k) : may x = decide (sumG x 6 ≤ 1125899906842624) := by
  have hs : sumG x 6 = gSum x := by simp only [sumG, gSum, G]; omega
  rw [hs, Bool.eq_iff_iff, may_iff, decide_eq_true_iff]
  refine ⟨fun h => h.2.2, fun h => ⟨okTo_ent ha, fun k hk => ⟨hl k hk, ?_, ?_⟩, h⟩⟩
  · have := (ha k hk).1.2.2.2.1; unfold F C; rwa [Nat.add_comm 12 k, Nat.add_comm 6 k]
  have := (ha k hk).1.2.2.2.2; unfold R; rwa [show 18 + k * 6 + k = 7 * k + 18 by omega]
end Rt
set_option maxRecDepth 10000 in
set_option maxHeartbeats 1000000 in
theorem f7_may (x : Nat → Int) (w : World) :
    Calls Try.prog 45 #[.agg (varr 54 (rv .i64 x))] w fun e w' => e = .returned (.bool (may x)) ∧ Below w.heap.size w w' := by
 refine Kent Try.func45 81 ?_
 refine KWsl (KLb fun g1 w1 eg1 m1 s1 z1 => ?_)
 have b1 := KTk1 s1.old (Below.refl w.heap.size w)
 have lg1 := KGk0 eg1
 have tg1 := m1.lt
 refine KLq KbF (KLe (KWsl (KLq (Ki6 0) (KLe (Ws (KWsl (KLq (Ki6 0) (KLe (Wb (Wo (fun f w_ => ∃ i : Nat, i ≤ 6 ∧ OkTo x i ∧ f 1 = (pt g1) ∧ f 3 = Ki6 (sumG x i) ∧ f 4 = Ki6 ((i : Int)) ∧ Blk w_ g1 54 (rv .i64 x) 48 ∧ Below w.heap.size w w_) (fun f _ => (6 - (intOf (f 4)).toNat)) ⟨0, by omega, okTo_zero x, (by rfl), Fx.ic, Fx.ic, m1, b1⟩ ?_))))))))))
 rintro f1 w2 ⟨i, hi, hA, h1, h2, h3, m2, b2⟩
 have hG := sumG_bd hA
 have HG : sumG x (i + 1) = sumG x i + x i := rfl
 refine Ws (KWsl (KLh h3 ?_))
 by_cases c8 : (i : Int) < 6
 ·refine Lv KbT (KltT c8) (KLe (KWcT (Wk (sN (Ws (Wb (Ws (Ws ?_))))))))
  -- region 5 draws
  refine KWqd (KQh h3 (Qv ((pt g1)) (fun v1 hv1 => Kxf h1 0) (Qv ((pf g1 i)) (fun v1 hv1 => Kxj 6 1) (Qv (Ki6 (x i)) (fun v1 hv1 => Kxl (m2.cel.dr hv1) i) ?_))))
  by_cases c15 : (okN (x i)) = true
  ·refine KQc (fun _ _ => f7_number (x i) _) KbT (by rw [c15]) (KQq KbF (KQq KbF (KQh h3 (Qv ((pf g1 6)) (fun v1 hv1 => Kxf h1 6) (Qv ((pf g1 (i + 6))) (fun v1 hv1 => Kxj 6 1) (Qv (Ki6 (x (i + 6))) (fun v1 hv1 => Kxl (m2.cel.dr hv1) (i + 6)) ?_))))))
   by_cases c22 : (okN (x (i + 6))) = true
   ·refine KQc (fun _ _ => f7_number (x (i + 6)) _) KbT (by rw [c22]) (KQq KbF (KQq KbF (KQq KbF (KQh h3 (Qv ((pf g1 12)) (fun v1 hv1 => Kxf h1 12) (Qv ((pf g1 (i + 12))) (fun v1 hv1 => Kxj 6 1) (Qv (Ki6 (x (i + 12))) (fun v1 hv1 => Kxl (m2.cel.dr hv1) (i + 12)) ?_)))))))
    by_cases c30 : (okN (x (i + 12))) = true
    ·refine KQc (fun _ _ => f7_number (x (i + 12)) _) KbT (by rw [c30]) (KQq KbF (KQq KbF (KQq KbF (KQh h3 (Qv ((pf g1 12)) (fun v1 hv1 => Kxf h1 12) (Qv ((pf g1 (i + 12))) (fun v1 hv1 => Kxj 6 1) (Qv (Ki6 (x (i + 12))) (fun v1 hv1 => Kxl (m2.cel.dr hv1) (i + 12)) (KQh h3 (Qv ((pf g1 6)) (fun v1 hv1 => Kxf h1 6) (Qv ((pf g1 (i + 6))) (fun v1 hv1 => Kxj 6 1) (Qv (Ki6 (x (i + 6))) (fun v1 hv1 => Kxl (m2.cel.dr hv1) (i + 6)) ?_)))))))))))
     by_cases c42 : (x (i + 6)) < (x (i + 12))
     ·refine Qv KbT (fun v1 hv1 => KgtT c42) (KQq KbT (KQq KbT (KQu (KQu (KQu (KQu (KQu (KQu (KQu (KQq KbT (Qn ?_)))))))))))
      rintro _ ⟨qd, rfl⟩
      obtain ⟨wq1, ewq1⟩ : ∃ v1, v1 = World.drewN w2 qd := ⟨_, rfl⟩
      rw [← ewq1]
      have s2 : Stp w2.heap.size w2 wq1 := by rw [ewq1]; exact Sb (bdrN w2 qd)
      have b3 := KTk1 s2.old b2
      clear ewq1
      refine sN (KWcT (KWsl (KLq KbF (KLe (Wr (sR (blkR (sR (lpR (blkR (sR (Kret KbF (⟨KrB (Eq.symm ?_), b3⟩)))))))))))))
      exact no_fc (i := i) (by omega) c42
     refine Qv KbF (fun v1 hv1 => KgtF c42) (KQq KbF (KQq KbF (KQh h3 (KQh h3 (Qv ((pf g1 18)) (fun v1 hv1 => Kxf h1 18) (Qv ((pf g1 (6 * i + 18))) (fun v1 hv1 => Kxj 6 6) (Qv ((pf g1 (7 * i + 18))) (fun v1 hv1 => Kxj 6 1) (Qv (Ki6 (x (7 * i + 18))) (fun v1 hv1 => Kxl (m2.cel.dr hv1) (7 * i + 18)) ?_))))))))
     by_cases c51 : (x (7 * i + 18)) = 0
     ·refine Qv KbF (fun v1 hv1 => KneF c51) (KQq KbF (Qn ?_))
      rintro _ ⟨qd, rfl⟩
      obtain ⟨wq2, ewq2⟩ : ∃ v1, v1 = World.drewN w2 qd := ⟨_, rfl⟩
      rw [← ewq2]
      have s3 : Stp w2.heap.size w2 wq2 := by rw [ewq2]; exact Sb (bdrN w2 qd)
      have ⟨m4, b4⟩ := KTk2 s3.old m2 b2
      clear ewq2
      refine sN (KWcF (Wk (sN (Ws ?_))))
      have hR : RowOk x i := ⟨c15, c22, c30, by omega, c51⟩
      have b15 := okN_bd c15
      refine Wl (KLh h2 (KLh h3 (Lv ((pt g1)) (Kxf h1 0) (Lv ((pf g1 i)) (Kxj 6 1) (Lv (Ki6 (x i)) (Kxl m4.cel i) (Lv (Ki6 ((sumG x i) + (x i))) KxP (KLq (Ki6 ((sumG x i) + (x i))) (KLe (KWsl (KLq (Ki6 0) (KLe (Wb (Wo (fun f w_ => ∃ j : Nat, j ≤ 6 ∧ RowTo x i j ∧ f 1 = (pt g1) ∧ f 3 = Ki6 (sumG x (i + 1)) ∧ f 4 = Ki6 ((i : Int)) ∧ f 5 = Ki6 ((j : Int)) ∧ Blk w_ g1 54 (rv .i64 x) 48 ∧ Below w.heap.size w w_) (fun f _ => (6 - (intOf (f 5)).toNat)) ⟨0, by omega, rowTo_zero x i, h1, Fx.ic, (h3.trans Fx.ic), Fx.ic, m4, b4⟩ ?_)))))))))))))
      rintro f2 w3 ⟨j, hj, hT, h4, h5, h6, h7, m5, b5⟩
      refine Ws (KWsl (KLh h7 ?_))
      by_cases c60 : (j : Int) < 6
      ·refine Lv KbT (KltT c60) (KLe (KWcT (Wk (sN (Ws (Wb (KWsl (KLh h6 (KLh h7 (Lv ((pf g1 18)) (Kxf h4 18) (Lv ((pf g1 (6 * i + 18))) (Kxj 6 6) (Lv ((pf g1 (6 * i + j + 18))) (Kxj 6 1) (Lv (Ki6 (x (6 * i + j + 18))) (Kxl m5.cel (6 * i + j + 18)) ?_)))))))))))))
       by_cases c69 : (okN (x (6 * i + j + 18))) = true
       ·refine KLc0 (f7_number (x (6 * i + j + 18)) _) KbT (by rw [c69]) (KLq KbF (KLe (KWcF (Wk (blkN (sN (Wl (KLh h7 (Lv (Ki6 ((j : Int) + 1)) KxP (KLq (Ki6 ((j : Int) + 1)) (Ln (lpN ⟨j + 1, by omega, rowTo_succ hT c69, h4, (h5.trans Fx.ic), (h6.trans Fx.ic), Fx.ic, m5, b5⟩ ?_))))))))))))
        show (6 - (intOf ((Ki6 ((j : Int) + 1)))).toNat) < _
        simp only [h7, intOf]; omega
       rw [Bool.not_eq_true] at c69
       refine KLc0 (f7_number (x (6 * i + j + 18)) _) KbF (by rw [c69]) (KLq KbT (KLe (KWcT (KWsl (KLq KbF (KLe (Wr (blkR (sR (lpR (blkR (blkR (sR (lpR (blkR (sR (Kret KbF (⟨KrB (Eq.symm ?_), b5⟩))))))))))))))))))
       exact no_ent (p := 6 * i + j + 18) (by omega) c69
      refine Lv KbF (KltF c60) (KLe (KWcF (Wx (seqX (lpX (blkX (blkN (sN (Wl (KLh h6 (Lv (Ki6 ((i : Int) + 1)) KxP (KLq (Ki6 ((i : Int) + 1)) (Ln ?_)))))))))))))
      have e6 : j = 6 := by omega
      have hT6 : RowTo x i 6 := by rw [e6] at hT; exact hT
      refine lpN ⟨i + 1, by omega, okTo_succ hA hR hT6, h4, (h5.trans Fx.ic), Fx.ic, m5, b5⟩ ?_
      show (6 - (intOf ((Ki6 ((i : Int) + 1)))).toNat) < _
      simp only [h3, intOf]; omega
     refine Qv KbT (fun v1 hv1 => KneT c51) (KQq KbT (Qn ?_))
     rintro _ ⟨qd, rfl⟩
     obtain ⟨wq3, ewq3⟩ : ∃ v1, v1 = World.drewN w2 qd := ⟨_, rfl⟩
     rw [← ewq3]
     have s4 : Stp w2.heap.size w2 wq3 := by rw [ewq3]; exact Sb (bdrN w2 qd)
     have b6 := KTk1 s4.old b2
     clear ewq3
     refine sN (KWcT (KWsl (KLq KbF (KLe (Wr (sR (blkR (sR (lpR (blkR (sR (Kret KbF (⟨KrB (Eq.symm ?_), b6⟩)))))))))))))
     exact no_rr (i := i) (by omega) c51
    rw [Bool.not_eq_true] at c30
    refine KQc (fun _ _ => f7_number (x (i + 12)) _) KbF (by rw [c30]) (KQq KbT (KQq KbT (KQq KbT (KQu (KQu (KQu (KQu (KQu (KQu (KQu (KQu (KQu (KQq KbT (KQq KbT (KQu (KQu (KQu (KQu (KQu (KQu (KQu (KQq KbT (Qn ?_)))))))))))))))))))))))
    rintro _ ⟨qd, rfl⟩
    obtain ⟨wq4, ewq4⟩ : ∃ v1, v1 = World.drewN w2 qd := ⟨_, rfl⟩
    rw [← ewq4]
    have s5 : Stp w2.heap.size w2 wq4 := by rw [ewq4]; exact Sb (bdrN w2 qd)
    have b7 := KTk1 s5.old b2
    clear ewq4
    refine sN (KWcT (KWsl (KLq KbF (KLe (Wr (sR (blkR (sR (lpR (blkR (sR (Kret KbF (⟨KrB (Eq.symm ?_), b7⟩)))))))))))))
    exact no_ent (p := i + 12) (by omega) c30
   rw [Bool.not_eq_true] at c22
   refine KQc (fun _ _ => f7_number (x (i + 6)) _) KbF (by rw [c22]) (KQq KbT (KQq KbT (KQq KbT (KQu (KQu (KQu (KQu (KQu (KQu (KQq KbT (KQq KbT (KQu (KQu (KQu (KQu (KQu (KQu (KQu (KQu (KQu (KQq KbT (KQq KbT (KQu (KQu ?_))))))))))))))))))))))))
   refine KQu (KQu (KQu (KQu (KQu (KQq KbT (Qn ?_))))))
   rintro _ ⟨qd, rfl⟩
   obtain ⟨wq5, ewq5⟩ : ∃ v1, v1 = World.drewN w2 qd := ⟨_, rfl⟩
   rw [← ewq5]
   have s6 : Stp w2.heap.size w2 wq5 := by rw [ewq5]; exact Sb (bdrN w2 qd)
   have b8 := KTk1 s6.old b2
   clear ewq5
   refine sN (KWcT (KWsl (KLq KbF (KLe (Wr (sR (blkR (sR (lpR (blkR (sR (Kret KbF (⟨KrB (Eq.symm ?_), b8⟩)))))))))))))
   exact no_ent (p := i + 6) (by omega) c22
  rw [Bool.not_eq_true] at c15
  refine KQc (fun _ _ => f7_number (x i) _) KbF (by rw [c15]) (KQq KbT (KQq KbT (KQu (KQu (KQu (KQu (KQu (KQu (KQq KbT (KQq KbT (KQu (KQu (KQu (KQu (KQu (KQu (KQq KbT (KQq KbT (KQu (KQu (KQu (KQu (KQu (KQu ?_))))))))))))))))))))))))
  refine KQu (KQu (KQu (KQq KbT (KQq KbT (KQu (KQu (KQu (KQu (KQu (KQu (KQu (KQq KbT (Qn ?_)))))))))))))
  rintro _ ⟨qd, rfl⟩
  obtain ⟨wq6, ewq6⟩ : ∃ v1, v1 = World.drewN w2 qd := ⟨_, rfl⟩
  rw [← ewq6]
  have s7 : Stp w2.heap.size w2 wq6 := by rw [ewq6]; exact Sb (bdrN w2 qd)
  have b9 := KTk1 s7.old b2
  clear ewq6
  refine sN (KWcT (KWsl (KLq KbF (KLe (Wr (sR (blkR (sR (lpR (blkR (sR (Kret KbF (⟨KrB (Eq.symm ?_), b9⟩)))))))))))))
  exact no_ent (p := i) (by omega) c15
 refine Lv KbF (KltF c8) (KLe (KWcF (Wx (seqX (lpX (blkX (sN (Ws (KWsl (KLq (Ki6 1) (KLe (Wb ?_))))))))))))
 have e6 : i = 6 := by omega
 rw [e6] at hA
 have HE := okTo_ent hA
 have HA : OkTo x 6 := hA
 refine Wo (fun f w_ => ∃ m : Nat, m ≤ 6 ∧ (∀ k, k < m → 0 ≤ L x k) ∧ f 1 = (pt g1) ∧ f 3 = Ki6 (sumG x i) ∧ f 6 = Ki6 ((m : Int) + 1) ∧ Blk w_ g1 54 (rv .i64 x) 48 ∧ Below w.heap.size w w_) (fun f _ => (7 - (intOf (f 6)).toNat)) ⟨0, by omega, (fun _ h => absurd h (by omega)), h1, (h2.trans Fx.ic), Fx.ic, m2, b2⟩ ?_
 rintro f3 w4 ⟨m, hm, HL, h8, h9, h10, m10, b10⟩
 refine Ws (KWsl (KLh h10 ?_))
 by_cases c72 : ((m : Int) + 1) ≤ 6
 ·refine Lv KbT (KleT c72) (KLe (KWcT (Wk (sN (Ws (Wb (KWsl (Lv (.agg (varr 54 (rv .i64 x))) (KxA m10.cel 0 (ha := h8)) (KLh h10 (KLc1 (f7_local x m _ (by omega) HE) _ rfl ?_))))))))))
  intro w5 hb1
  have ⟨m11, b11⟩ := KTk2 hb1 m10 b10
  by_cases c78 : (L x m) < 0
  ·refine Lv KbT (KltT c78) (KLe (KWcT (KWsl (KLq KbF (KLe (Wr (blkR (sR (lpR (blkR (sR (Kret KbF (⟨KrB (Eq.symm ?_), b11⟩)))))))))))))
   exact no_loc (i := m) (by omega) c78
  refine Lv KbF (KltF c78) (KLe (KWcF (Wk (blkN (sN (Wl (KLh h10 (Lv (Ki6 ((m : Int) + 2)) KxP (KLq (Ki6 ((m : Int) + 2)) (Ln (lpN ⟨m + 1, by omega, loc_succ HL (by omega), h8, (h9.trans Fx.ic), Fx.ic, m11, b11⟩ ?_)))))))))))
  show (7 - (intOf ((Ki6 ((m : Int) + 2)))).toNat) < _
  simp only [h10, intOf]; omega
 refine Lv KbF (KleF c72) (KLe (KWcF (Wx (seqX (lpX (blkX (sN (KWsl (KLh h9 ?_)))))))))
 by_cases c80 : (sumG x i) ≤ 1125899906842624
 ·refine Lv KbT (KleT c80) (KLq KbT (KLe (Wr (Kret KbT (⟨KrB (Eq.symm ?_), b10⟩)))))
  have e7 : m = 6 := by omega
  rw [e7] at HL
  rw [e6] at c80
  rw [may_fin HA HL]; exact decide_eq_true c80
 refine Lv KbF (KleF c80) (KLq KbF (KLe (Wr (Kret KbF (⟨KrB (Eq.symm ?_), b10⟩)))))
 have e7 : m = 6 := by omega
 rw [e7] at HL
 rw [e6] at c80
 rw [may_fin HA HL]; exact decide_eq_false c80
set_option linter.unusedVariables false
theorem r_node (m : SnM) (na : Option Addr) (nc : Nat) (ga : Option Addr) (gc : Nat) (x : Int) (w : World) (hl1 : m.ns.length ≤ 1000000) (hn : Arr w na m.ns.length 56 (ndsX m.ns)) :
    Calls Try.prog 47 #[.agg (varr 20 (stY (stS m na nc ga gc))), Ku6 x] w fun e w' => e = .returned (Ki6 (nodeI m.ns x)) ∧ Below w.heap.size w w' := by
 refine Kent Try.func47 22 ?_
 refine KWsl (KLb fun g1 w1 eg1 m1 s1 z1 => ?_)
 have b1 := KTk1 s1.old (Below.refl w.heap.size w)
 have lg1 := KGk0 eg1
 have tg1 := m1.lt
 refine KLq (Ki6 0) (KLe (Ws (KWsl (KLq (Ki6 0) (KLe (Wb (Wo (fun f w_ => ∃ i : Nat, i ≤ m.ns.length ∧ (∀ p, p < i → (fun p => decide ((ndA m.ns p).id = x)) p = false) ∧ f 1 = Ku6 x ∧ f 2 = (pt g1) ∧ f 5 = Ki6 ((i : Int)) ∧ Blk w_ g1 20 (stY (stS m na nc ga gc)) 29 ∧ Below w.heap.size w w_) (fun f _ => (m.ns.length - (intOf (f 5)).toNat)) ⟨0, Nat.zero_le _, (fun p h => absurd h (by omega)), Fx.ic, (by rfl), Fx.ic, m1, b1⟩ ?_)))))))
 rintro f1 w2 ⟨i, hi, hall, h1, h2, h3, m2, b2⟩
 refine Ws (KWsl (KLh h3 (Lv ((pf g1 18)) (Kxf h2 18) (Lv (.slice na (m.ns.length) (nc)) (Kxl m2.cel 18) (KLq (Ki6 m.ns.length) ?_)))))
 by_cases c10 : (i : Int) < (m.ns.length : Int)
 ·refine Lv KbT (KltT c10) (KLe (KWcT (Wk (sN (Ws (Wb (KWsl (Lv ((pf g1 18)) (Kxf h2 18) (Lv (.slice na (m.ns.length) (nc)) (Kxl m2.cel 18) (KLh h3 ?_))))))))))
  obtain ⟨bq1, oq1, eq1, m3⟩ := (hn.up b2 rfl) (by omega)
  have lbq1 : bq1 < w2.heap.size := m3.lt (by omega)
  refine Lv ((pf bq1 (56 * i + oq1))) (Kxi 56 (hx := (rfl.trans (congrArg (fun q => Value.slice q (m.ns.length) (nc)) eq1)))) (KLq ((pf bq1 (56 * i + oq1))) (Lv (Ku6 ((ndA m.ns i).id)) (Kxl m3 (56 * i) (Fx.flat_cell (k := i) (j := 0) (by omega) (by omega) rfl)) (KLh h1 ?_)))
  by_cases c20 : ((ndA m.ns i).id) = x
  ·refine Lv KbT (KeqT c20) (KLe (KWcT (KWsl (KLh h3 (KLq (Ki6 i) (KLe (Wr (blkR (sR (lpR (blkR (sR (Kret (Ki6 i) ?_)))))))))))))
   exact ⟨KrI (Eq.symm (show nodeI m.ns x = _ from firstI_hit hall (decide_eq_true c20) (by omega))), b2⟩
  refine Lv KbF (KeqF c20) (KLe (KWcF (Wk (blkN (sN (Wl (KLh h3 (Lv (Ki6 ((i : Int) + 1)) KxP (KLq (Ki6 ((i : Int) + 1)) (Ln (lpN ⟨i + 1, by omega, (all_step hall (decide_eq_false c20)), (h1.trans Fx.ic), h2, Fx.ic, m2, b2⟩ ?_)))))))))))
  show (m.ns.length - (intOf ((Ki6 ((i : Int) + 1)))).toNat) < _
  simp only [h3, intOf]; omega
 refine Lv KbF (KltF c10) (KLe (KWcF (Wx (seqX (lpX (blkX (sN (KWsl (KLq (Ki6 (-1)) (KLe (Wr (Kret (Ki6 (-1)) ?_))))))))))))
 exact ⟨KrI (Eq.symm (show nodeI m.ns x = _ from firstI_none (fun p hp => hall p (by omega)))), b2⟩
theorem r_before (x y : GrM) (w : World) :
    Calls Try.prog 48 #[.agg (varr 5 (grZ x)), .agg (varr 5 (grZ y))] w fun e w' => e = .returned (.bool (decide (grLt x y))) ∧ Below w.heap.size w w' := by
 refine Kent Try.func48 24 ?_
 refine KWsl (KLb fun g1 w1 eg1 m1 s1 z1 => ?_)
 have b1 := KTk1 s1.old (Below.refl w.heap.size w)
 have lg1 := KGk0 eg1
 have tg1 := m1.lt
 refine KLb fun g2 w2 eg2 m2 s2 z2 => ?_
 have ⟨m3, b2⟩ := KTk2 s2.old m1 b1
 have lg2 := KGk eg2 b1.size
 have ng2m3 := KNk1 eg2 m1.lt
 have tg2 := m2.lt
 refine KLq KbF (KLe (KWsl (KLq ((pt g1)) (Lv (Ki6 x.o) (Kxl m3.cel 0) (KLq ((pt g2)) (Lv (Ki6 y.o) (Kxl m2.cel 0) ?_))))))
 by_cases c9 : x.o < y.o
 ·refine Lv KbT (KltT c9) (KLq KbT (KLu (KLu (KLu (KLu (KLu (KLu (KLu (KLu (KLu (KLu (KLu (KLu (KLq KbT (KLq KbT (KLe (Wr (Kret KbT ?_))))))))))))))))))
  exact ⟨KrB (Eq.symm (decide_eq_true (show (x.o < y.o ∨ (x.o = y.o ∧ x.r < y.r)) by omega))), b2⟩
 refine Lv KbF (KltF c9) (KLq KbF (KLq ((pt g1)) (Lv (Ki6 x.o) (Kxl m3.cel 0) (KLq ((pt g2)) (Lv (Ki6 y.o) (Kxl m2.cel 0) ?_)))))
 by_cases c15 : x.o = y.o
 ·refine Lv KbT (KeqT c15) (KLq KbT (KLq ((pf g1 1)) (Lv (Ku6 x.r) (Kxl m3.cel 1) (KLq ((pf g2 1)) (Lv (Ku6 y.r) (Kxl m2.cel 1) ?_)))))
  by_cases c21 : x.r < y.r
  ·refine Lv KbT (KltT c21) (KLq KbT (KLq KbT (KLq KbT (KLe (Wr (Kret KbT ?_))))))
   exact ⟨KrB (Eq.symm (decide_eq_true (show (x.o < y.o ∨ (x.o = y.o ∧ x.r < y.r)) by omega))), b2⟩
  refine Lv KbF (KltF c21) (KLq KbF (KLq KbF (KLq KbF (KLe (Wr (Kret KbF ?_))))))
  exact ⟨KrB (Eq.symm (decide_eq_false (show ¬ (x.o < y.o ∨ (x.o = y.o ∧ x.r < y.r)) by omega))), b2⟩
 refine Lv KbF (KeqF c15) (KLq KbF (KLu (KLu (KLu (KLu (KLu (KLq KbF (KLq KbF (KLq KbF (KLe (Wr (Kret KbF ?_))))))))))))
 exact ⟨KrB (Eq.symm (decide_eq_false (show ¬ (x.o < y.o ∨ (x.o = y.o ∧ x.r < y.r)) by omega))), b2⟩
theorem r_ends (m : SnM) (na : Option Addr) (nc : Nat) (ga : Option Addr) (gc : Nat) (x : Int) (w : World) (hl1 : m.ns.length ≤ 1000000) (hn : Arr w na m.ns.length 56 (ndsX m.ns)) :
    Calls Try.prog 46 #[.agg (varr 20 (stY (stS m na nc ga gc))), Ku6 x] w fun e w' => e = .returned (.bool (endsN m.ns 33 x)) ∧ Below w.heap.size w w' := by
 obtain ⟨N, hN⟩ : ∃ q, q = 33 := ⟨_, rfl⟩
 refine Kent Try.func46 24 ?_
 refine KWsl (KLb fun g1 w1 eg1 m1 s1 z1 => ?_)
 have b1 := KTk1 s1.old (Below.refl w.heap.size w)
 have lg1 := KGk0 eg1
 have tg1 := m1.lt
 refine KLq KbF (KLe (Ws (KWsl (KLq (Ki6 0) (KLe (Wb (Wo (fun f w_ => ∃ j : Nat, ∃ y : Int, j ≤ 33 ∧ endsN m.ns N x = endsN m.ns (N - j) y ∧ f 1 = Ku6 y ∧ f 2 = (pt g1) ∧ f 5 = Ki6 ((j : Int)) ∧ Blk w_ g1 20 (stY (stS m na nc ga gc)) 29 ∧ Below w.heap.size w w_) (fun f _ => (33 - (intOf (f 5)).toNat)) ⟨0, x, by omega, (by rw [Nat.sub_zero]), Fx.ic, (by rfl), Fx.ic, m1, b1⟩ ?_)))))))
 rintro f1 w2 ⟨j, y, hj, hy, h1, h2, h3, m2, b2⟩
 refine Ws (KWsl (KLh h3 ?_))
 by_cases c8 : (j : Int) ≤ 32
 ·refine Lv KbT (KleT c8) (KLe (KWcT (Wk (sN (Ws (Wb (Ws (Ws ?_))))))))
  obtain ⟨f9, hf9⟩ : ∃ f, N - j = f + 1 := ⟨32 - j, by omega⟩
  have hsj : N - (j + 1) = f9 := by omega
  refine Wl (KLh h1 ?_)
  by_cases c12 : y = 0
  ·refine Lv KbT (KeqT c12) (KLe (KWcT (KWsl (KLq KbT (KLe (Wr (sR (blkR (sR (lpR (blkR (sR (Kret KbT ?_)))))))))))))
   exact ⟨by rw [← hN, hy, hf9, ends_0 c12], b2⟩
  refine Lv KbF (KeqF c12) (KLe (KWcF (Wk (sN (KWsl (Lv (.agg (varr 20 (stY (stS m na nc ga gc)))) (KxA m2.cel 0 (ha := h2)) (KLh h1 (KLc1 (r_node m na nc ga gc y _ hl1 (hn.up b2 rfl)) _ rfl ?_))))))))
  intro w3 hb1
  have ⟨m3, b3⟩ := KTk2 hb1 m2 b2
  refine KLq (Ki6 (nodeI m.ns y)) (KLe (Ws (KWsl (KLq (Ki6 (nodeI m.ns y)) ?_))))
  by_cases c17 : (nodeI m.ns y) < 0
  ·refine Lv KbT (KltT c17) (KLe (KWcT (KWsl (KLq KbF (KLe (Wr (sR (blkR (sR (lpR (blkR (sR (Kret KbF ?_)))))))))))))
   exact ⟨by rw [← hN, hy, hf9, ends_n c12 c17], b3⟩
  refine Lv KbF (KltF c17) (KLe (KWcF (Wk (sN ?_))))
  obtain ⟨jn, hjn, ejn, _⟩ := nodeI_ge (l := m.ns) (x := y) (by omega)
  refine Wl (Lv ((pf g1 18)) (Kxf h2 18) (Lv (.slice na (m.ns.length) (nc)) (Kxl m3.cel 18) (KLh (congrArg (Value.int .i64) ejn) ?_)))
  obtain ⟨bq1, oq1, eq1, m4⟩ := (hn.up b3 rfl) (by omega)
  have lbq1 : bq1 < w3.heap.size := m4.lt (by omega)
  refine Lv ((pf bq1 (56 * jn + oq1))) (Kxi 56 (hx := (rfl.trans (congrArg (fun q => Value.slice q (m.ns.length) (nc)) eq1)))) (KLq ((pf bq1 (56 * jn + oq1 + 1))) (Lv (Ku6 ((ndA m.ns jn).par)) (Kxl m4 (56 * jn + 1) (Fx.flat_cell (k := jn) (j := 1) (by omega) (by omega) rfl)) (KLq (Ku6 ((ndA m.ns jn).par)) (Ln (blkN (sN (Wl (KLh h3 (Lv (Ki6 ((j : Int) + 1)) KxP (KLq (Ki6 ((j : Int) + 1)) (Ln (lpN ⟨j + 1, (ndA m.ns jn).par, by omega, (hy.trans (by rw [hf9, hsj]; exact ends_y c12 ejn)), Fx.ic, h2, Fx.ic, m3, b3⟩ ?_))))))))))))
  show (33 - (intOf ((Ki6 ((j : Int) + 1)))).toNat) < _
  simp only [h3, intOf]; omega
 refine Lv KbF (KleF c8) (KLe (KWcF (Wx (seqX (lpX (blkX (sN (KWsl (KLq KbF (KLe (Wr (Kret KbF ?_))))))))))))
 exact ⟨by rw [← hN, hy, show N - j = 0 by omega]; rfl, b2⟩
theorem r_may (m : SnM) (na : Option Addr) (nc : Nat) (ga : Option Addr) (gc : Nat) (w : World) (hl1 : m.ns.length ≤ 1000000) (hl2 : m.gs.length ≤ 1000000) (hn : Arr w na m.ns.length 56 (ndsX m.ns)) (hg : Arr w ga m.gs.length 5 (grsX m.gs)) :
    Calls Try.prog 13 #[.agg (varr 20 (stY (stS m na nc ga gc)))] w fun e w' => e = .returned (.bool (mayS m)) ∧ Below w.heap.size w w' := by
 refine Kent Try.func13 147 ?_
 refine KWsl (KLb fun g1 w1 eg1 m1 s1 z1 => ?_)
 have b1 := KTk1 s1.old (Below.refl w.heap.size w)
 have lg1 := KGk0 eg1
 have tg1 := m1.lt
 refine KLq KbF (KLe (Ws (KWsl (KLq ((pf g1 12)) (Lv (.agg (varr 6 (rv .u64 m.known))) (KxA m1.cel 12 (fun j hj => stY_known (p := j) _ hj (by omega))) ?_)))))
 by_cases c10 : (mayV6 m.known) = true
 ·refine KLc1 (r6_may m.known _) KbT (by rw [c10]) ?_
  intro w2 hb1
  have ⟨m2, b2⟩ := KTk2 hb1 m1 b1
  refine KLq KbF (KLq KbF (KLq ((pf g1 18)) (Lv (.slice na (m.ns.length) (nc)) (Kxl m2.cel 18) (KLq (Ki6 m.ns.length) ?_))))
  by_cases c16 : 32 < (m.ns.length : Int)
  ·refine Lv KbT (KgtT c16) (KLq KbT (KLq KbT (KLu (KLu (KLu (KLu (KLq KbT (KLe (KWcT (KWsl (KLq KbF (KLe (Wr (sR (Kret KbF ?_)))))))))))))))
   exact ⟨KrB (Eq.symm (mayS_n (fun h => by have := h.nn; omega))), b2⟩
  refine Lv KbF (KgtF c16) (KLq KbF (KLq KbF (KLq ((pf g1 19)) (Lv (.slice ga (m.gs.length) (gc)) (Kxl m2.cel 19) (KLq (Ki6 m.gs.length) ?_)))))
  by_cases c22 : 4096 < (m.gs.length : Int)
  ·refine Lv KbT (KgtT c22) (KLq KbT (KLe (KWcT (KWsl (KLq KbF (KLe (Wr (sR (Kret KbF ?_)))))))))
   exact ⟨KrB (Eq.symm (mayS_n (fun h => by have := h.gn; omega))), b2⟩
  refine Lv KbF (KgtF c22) (KLq KbF (KLe (KWcF (Wk (sN (Ws (KWsl (KLq (Ki6 0) (KLe (Wb (Wo (fun f w_ => ∃ i : Nat, i ≤ 6 ∧ (∀ q, q < i → m.left q = true → m.inn q = true) ∧ f 1 = (pt g1) ∧ f 3 = Ki6 ((i : Int)) ∧ Blk w_ g1 20 (stY (stS m na nc ga gc)) 29 ∧ Below w.heap.size w w_) (fun f _ => (6 - (intOf (f 3)).toNat)) ⟨0, by omega, (fun q h => absurd h (by omega)), (by rfl), Fx.ic, m2, b2⟩ ?_)))))))))))
  rintro f1 w3 ⟨i, hi, hli, h1, h2, m3, b3⟩
  refine Ws (KWsl (KLh h2 ?_))
  by_cases c25 : (i : Int) < 6
  ·refine Lv KbT (KltT c25) (KLe (KWcT (Wk (sN (Ws (Wb (KWsl (KLh h2 (Lv ((pf g1 6)) (Kxf h1 6) (Lv ((pf g1 (i + 6))) (Kxj 6 1) ?_))))))))))
   by_cases c31 : (m.left i) = true
   ·refine Lv KbT (Kxl m3.cel (i + 6) ((stY_left _ (by omega) (by omega)).trans (congrArg Value.bool c31))) (KLq KbT (KLh h2 (Lv ((pt g1)) (Kxf h1 0) (Lv ((pf g1 i)) (Kxj 6 1) ?_))))
    by_cases c36 : (m.inn i) = true
    ·refine Lv KbT (Kxl m3.cel i ((stY_in _ (by omega)).trans (congrArg Value.bool c36))) (KLq KbF (KLq KbF (KLe (KWcF (Wk (blkN (sN (Wl (KLh h2 (Lv (Ki6 ((i : Int) + 1)) KxP (KLq (Ki6 ((i : Int) + 1)) (Ln (lpN ⟨i + 1, by omega, (all_step hli (fun _ => c36)), h1, Fx.ic, m3, b3⟩ ?_)))))))))))))
     show (6 - (intOf ((Ki6 ((i : Int) + 1)))).toNat) < _
     simp only [h2, intOf]; omega
    rw [Bool.not_eq_true] at c36
    refine Lv KbF (Kxl m3.cel i ((stY_in _ (by omega)).trans (congrArg Value.bool c36))) (KLq KbT (KLq KbT (KLe (KWcT (KWsl (KLq KbF (KLe (Wr (blkR (sR (lpR (blkR (sR (Kret KbF ?_))))))))))))))
    exact ⟨KrB (Eq.symm (mayS_n (fun h => by have := h.li i (by omega) c31; rw [c36] at this; cases this))), b3⟩
   rw [Bool.not_eq_true] at c31
   refine Lv KbF (Kxl m3.cel (i + 6) ((stY_left _ (by omega) (by omega)).trans (congrArg Value.bool c31))) (KLq KbF (KLu (KLu (KLu (KLu (KLu (KLq KbF (KLe (KWcF (Wk (blkN (sN (Wl (KLh h2 (Lv (Ki6 ((i : Int) + 1)) KxP (KLq (Ki6 ((i : Int) + 1)) (Ln (lpN ⟨i + 1, by omega, (all_step hli (fun h => by rw [c31] at h; cases h)), h1, Fx.ic, m3, b3⟩ ?_))))))))))))))))))
   show (6 - (intOf ((Ki6 ((i : Int) + 1)))).toNat) < _
   simp only [h2, intOf]; omega
  refine Lv KbF (KltF c25) (KLe (KWcF (Wx (seqX (lpX (blkX (sN (Ws (Ws ?_)))))))))
  have hliA : ∀ q, q < 6 → m.left q = true → m.inn q = true := fun q hq => hli q (by omega)
  refine Wl (KLq (Ki6 0) (KLe (Wb (Wo (fun f w_ => ∃ i : Nat, i ≤ m.ns.length ∧ (∀ q, q < i → NdOk m.ns q) ∧ (∀ q, q < i → 0 < q → (ndA m.ns (q - 1)).id < (ndA m.ns q).id) ∧ f 1 = (pt g1) ∧ f 4 = Ki6 ((i : Int)) ∧ Blk w_ g1 20 (stY (stS m na nc ga gc)) 29 ∧ Below w.heap.size w w_) (fun f _ => (m.ns.length - (intOf (f 4)).toNat)) ⟨0, Nat.zero_le _, (fun q h => absurd h (by omega)), (fun q h => absurd h (by omega)), h1, Fx.ic, m3, b3⟩ ?_))))
  rintro f2 w4 ⟨i, hi, hnd, hrn, h3, h4, m4, b4⟩
  refine Ws (KWsl (KLh h4 (Lv ((pf g1 18)) (Kxf h3 18) (Lv (.slice na (m.ns.length) (nc)) (Kxl m4.cel 18) (KLq (Ki6 m.ns.length) ?_)))))
  by_cases c43 : (i : Int) < (m.ns.length : Int)
  ·refine Lv KbT (KltT c43) (KLe (KWcT (Wk (sN (Ws (Wb (KWsl (Lv ((pf g1 18)) (Kxf h3 18) (Lv (.slice na (m.ns.length) (nc)) (Kxl m4.cel 18) (KLh h4 ?_))))))))))
   obtain ⟨bq1, oq1, eq1, m5⟩ := (hn.up b4 rfl) (by omega)
   have lbq1 : bq1 < w4.heap.size := m5.lt (by omega)
   refine Lv ((pf bq1 (56 * i + oq1))) (Kxi 56 (hx := (rfl.trans (congrArg (fun q => Value.slice q (m.ns.length) (nc)) eq1)))) (Lv (.agg (varr 56 (ndZ (ndA m.ns i)))) (KxA m5 (56 * i) (fun jq hjq => Fx.flat_at (k := i) (by omega) hjq)) (KLw 56 (fun i => (#[Ku6 0, Ku6 0, Ki6 0, Ki6 0, Ki6 0, Ki6 0, Ki6 0, Ki6 0, Ki6 0, Ki6 0, Ki6 0, Ki6 0, Ki6 0, Ki6 0, Ki6 0, Ki6 0, Ki6 0, Ki6 0, Ki6 0, Ki6 0, Ki6 0, Ki6 0, Ki6 0, Ki6 0, Ki6 0, Ki6 0, Ki6 0, Ki6 0, Ki6 0, Ki6 0, Ki6 0, Ki6 0, Ki6 0, Ki6 0, Ki6 0, Ki6 0, Ki6 0, Ki6 0, Ki6 0, Ki6 0, Ki6 0, Ki6 0, Ki6 0, Ki6 0, Ki6 0, Ki6 0, Ki6 0, Ki6 0, Ki6 0, Ki6 0, Ki6 0, Ki6 0, Ki6 0, Ki6 0, Ki6 0, Ki6 0] : Array Value).getD i undef) fun g2 w5 eg2 m6 s3 z2 => ?_))
   have ⟨m7, m8, b5⟩ := KTk3 s3.old m4 m5 b4
   have lg2 := KGk eg2 b4.size
   have ng2m7 := KNk1 eg2 m4.lt
   have ng2m8 : bq1 ≠ g2 := by rw [eg2]; exact Nat.ne_of_lt (m5.lt (by omega))
   have tg2 := m6.lt
   refine KLsA m6 0 (h1 := (fun j _ => ndZ_one _ j)) fun w6 m9 s4 z3 => ?_
   have m10 : Blk w6 g2 56 (ndZ (ndA m.ns i)) 50 := ovr_all m9
   have hct1 := cOs s4 m6.ty
   have m11 := KCk1 hct1 m7
   have m12 := m8.stp s4 (by omega)
   have b6 := s4.below b5 b5.size (by omega)
   refine KLe (Ws ?_)
   -- region 12 draws
   refine KWqb (KQq ((pt g2)) (Qv (Ku6 ((ndA m.ns i).id)) (fun v1 hv1 => Kxl (m10.cb hv1) 0) ?_))
   by_cases c53 : ((ndA m.ns i).id) = 0
   ·refine Qv KbT (fun v1 hv1 => KeqT c53) (KQq KbT (KQu (KQu (KQu (KQu (KQu (KQu (KQu (KQu (KQu (KQu (KQu (KQu (KQu (KQu (KQq KbT (KQq KbT (KQu (KQu (KQu (KQu (KQq KbT (KQq KbT (KQu ?_))))))))))))))))))))))))
    refine KQu (KQu (KQu (KQu (KQq KbT (Qn ?_)))))
    intro wb1 hbwb1
    have b7 := KTk1 hbwb1 b6
    refine sN (KWcT (KWsl (KLq KbF (KLe (Wr (blkR (sR (lpR (blkR (sR (Kret KbF ?_)))))))))))
    exact ⟨KrB (Eq.symm (mayS_n (fun h => (h.nd i (by omega)).1 c53))), b7⟩
   refine Qv KbF (fun v1 hv1 => KeqF c53) (KQq KbF (KQh h4 ?_))
   by_cases c56 : 0 < (i : Int)
   ·refine Qv KbT (fun v1 hv1 => KgtT c56) (KQq KbT (Qv ((pf g1 18)) (fun v1 hv1 => Kxf h3 18) (Qv (.slice na (m.ns.length) (nc)) (fun v1 hv1 => Kxl (m11.cb hv1) 18) (KQh h4 (Qv (Ki6 ((i : Int) - 1)) (fun v1 hv1 => KxM) (Qv ((pf bq1 (56 * i + oq1 - 56))) (fun v1 hv1 => Kxi 56 (hx := (rfl.trans (congrArg (fun q => Value.slice q (m.ns.length) (nc)) eq1)))) (KQq ((pf bq1 (56 * i + oq1 - 56))) (Qv (Ku6 ((ndA m.ns (i - 1)).id)) (fun v1 hv1 => Kxl (m12.below hv1 (m12.lt (by omega))) (56 * i - 56) (x := ndsX m.ns) (Fx.flat_cell (k := i - 1) (j := 0) (by omega) (by omega) rfl)) (KQq ((pt g2)) (Qv (Ku6 ((ndA m.ns i).id)) (fun v1 hv1 => Kxl (m10.cb hv1) 0) ?_))))))))))
    by_cases c67 : ((ndA m.ns i).id) ≤ ((ndA m.ns (i - 1)).id)
    ·refine Qv KbT (fun v1 hv1 => KgeT c67) (KQq KbT (KQq KbT (KQq KbT (KQu (KQu (KQu (KQu (KQq KbT (KQq KbT (KQu (KQu (KQu (KQu (KQu (KQq KbT (Qn ?_))))))))))))))))
     intro wb2 hbwb2
     have b8 := KTk1 hbwb2 b6
     refine sN (KWcT (KWsl (KLq KbF (KLe (Wr (blkR (sR (lpR (blkR (sR (Kret KbF ?_)))))))))))
     exact ⟨KrB (Eq.symm (mayS_n (fun h => by have q9 := h.nr (i - 1) (by omega); rw [show i - 1 + 1 = i by omega] at q9; omega))), b8⟩
    refine Qv KbF (fun v1 hv1 => KgeF c67) (KQq KbF (KQq KbF (KQq KbF (KQq ((pf g2 2)) (Qv (.agg (varr 54 (rv .i64 ((ndA m.ns i).R)))) (fun v1 hv1 => KxA (m10.cb hv1) 2 (fun q _ => ndY_row _ _ _ q)) ?_)))))
    by_cases c73 : (may (ndA m.ns i).R) = true
    ·refine KQc1 (fun _ _ => f7_may (ndA m.ns i).R _) KbT (by rw [c73]) (KQq KbF (KQq KbF (KQq KbF (Qv (.agg (varr 20 (stY (stS m na nc ga gc)))) (fun v1 hv1 => KxA (m11.cb hv1) 0 (ha := h3)) (KQq ((pt g2)) (Qv (Ku6 ((ndA m.ns i).id)) (fun v1 hv1 => Kxl (m10.cb hv1) 0) ?_))))))
     by_cases c80 : (endsN m.ns 33 (ndA m.ns i).id) = true
     ·refine KQc1 (fun v1 hv1 => r_ends m na nc ga gc (ndA m.ns i).id _ hl1 (hn.up (bch b6 hv1) rfl)) KbT (by rw [c80]) (KQq KbF (KQq KbF (Qn ?_)))
      intro wb3 hbwb3
      have ⟨m19, b9⟩ := KTk2 hbwb3 m11 b6
      refine sN (KWcF (Wk (blkN (sN (Wl (KLh h4 (Lv (Ki6 ((i : Int) + 1)) KxP (KLq (Ki6 ((i : Int) + 1)) (Ln (lpN ⟨i + 1, by omega, (all_step hnd ⟨c53, c73, c80⟩), (all_step hrn (fun _ => by omega)), h3, Fx.ic, m19, b9⟩ ?_))))))))))
      show (m.ns.length - (intOf ((Ki6 ((i : Int) + 1)))).toNat) < _
      simp only [h4, intOf]; omega
     rw [Bool.not_eq_true] at c80
     refine KQc1 (fun v1 hv1 => r_ends m na nc ga gc (ndA m.ns i).id _ hl1 (hn.up (bch b6 hv1) rfl)) KbF (by rw [c80]) (KQq KbT (KQq KbT (Qn ?_)))
     intro wb4 hbwb4
     have b10 := KTk1 hbwb4 b6
     refine sN (KWcT (KWsl (KLq KbF (KLe (Wr (blkR (sR (lpR (blkR (sR (Kret KbF ?_)))))))))))
     exact ⟨KrB (Eq.symm (mayS_n (fun h => by have := (h.nd i (by omega)).2.2; rw [c80] at this; cases this))), b10⟩
    rw [Bool.not_eq_true] at c73
    refine KQc1 (fun _ _ => f7_may (ndA m.ns i).R _) KbF (by rw [c73]) (KQq KbT (KQq KbT (KQq KbT (KQu (KQu (KQu (KQu (KQu (KQq KbT (Qn ?_))))))))))
    intro wb5 hbwb5
    have b11 := KTk1 hbwb5 b6
    refine sN (KWcT (KWsl (KLq KbF (KLe (Wr (blkR (sR (lpR (blkR (sR (Kret KbF ?_)))))))))))
    exact ⟨KrB (Eq.symm (mayS_n (fun h => by have := (h.nd i (by omega)).2.1; rw [c73] at this; cases this))), b11⟩
   refine Qv KbF (fun v1 hv1 => KgtF c56) (KQq KbF (KQu (KQu (KQu (KQu (KQu (KQu (KQu (KQu (KQu (KQu (KQq KbF (KQq KbF (KQq KbF (KQq ((pf g2 2)) (Qv (.agg (varr 54 (rv .i64 ((ndA m.ns i).R)))) (fun v1 hv1 => KxA (m10.cb hv1) 2 (fun q _ => ndY_row _ _ _ q)) ?_))))))))))))))))
   by_cases c73 : (may (ndA m.ns i).R) = true
   ·refine KQc1 (fun _ _ => f7_may (ndA m.ns i).R _) KbT (by rw [c73]) (KQq KbF (KQq KbF (KQq KbF (Qv (.agg (varr 20 (stY (stS m na nc ga gc)))) (fun v1 hv1 => KxA (m11.cb hv1) 0 (ha := h3)) (KQq ((pt g2)) (Qv (Ku6 ((ndA m.ns i).id)) (fun v1 hv1 => Kxl (m10.cb hv1) 0) ?_))))))
    by_cases c80 : (endsN m.ns 33 (ndA m.ns i).id) = true
    ·refine KQc1 (fun v1 hv1 => r_ends m na nc ga gc (ndA m.ns i).id _ hl1 (hn.up (bch b6 hv1) rfl)) KbT (by rw [c80]) (KQq KbF (KQq KbF (Qn ?_)))
     intro wb6 hbwb6
     have ⟨m28, b12⟩ := KTk2 hbwb6 m11 b6
     refine sN (KWcF (Wk (blkN (sN (Wl (KLh h4 (Lv (Ki6 ((i : Int) + 1)) KxP (KLq (Ki6 ((i : Int) + 1)) (Ln (lpN ⟨i + 1, by omega, (all_step hnd ⟨c53, c73, c80⟩), (all_step hrn (fun _ => by omega)), h3, Fx.ic, m28, b12⟩ ?_))))))))))
     show (m.ns.length - (intOf ((Ki6 ((i : Int) + 1)))).toNat) < _
     simp only [h4, intOf]; omega
    rw [Bool.not_eq_true] at c80
    refine KQc1 (fun v1 hv1 => r_ends m na nc ga gc (ndA m.ns i).id _ hl1 (hn.up (bch b6 hv1) rfl)) KbF (by rw [c80]) (KQq KbT (KQq KbT (Qn ?_)))
    intro wb7 hbwb7
    have b13 := KTk1 hbwb7 b6
    refine sN (KWcT (KWsl (KLq KbF (KLe (Wr (blkR (sR (lpR (blkR (sR (Kret KbF ?_)))))))))))
    exact ⟨KrB (Eq.symm (mayS_n (fun h => by have := (h.nd i (by omega)).2.2; rw [c80] at this; cases this))), b13⟩
   rw [Bool.not_eq_true] at c73
   refine KQc1 (fun _ _ => f7_may (ndA m.ns i).R _) KbF (by rw [c73]) (KQq KbT (KQq KbT (KQq KbT (KQu (KQu (KQu (KQu (KQu (KQq KbT (Qn ?_))))))))))
   intro wb8 hbwb8
   have b14 := KTk1 hbwb8 b6
   refine sN (KWcT (KWsl (KLq KbF (KLe (Wr (blkR (sR (lpR (blkR (sR (Kret KbF ?_)))))))))))
   exact ⟨KrB (Eq.symm (mayS_n (fun h => by have := (h.nd i (by omega)).2.1; rw [c73] at this; cases this))), b14⟩
  refine Lv KbF (KltF c43) (KLe (KWcF (Wx (seqX (lpX (blkX (sN (Ws (Ws ?_)))))))))
  have hndA : ∀ q, q < m.ns.length → NdOk m.ns q := fun q hq => hnd q (by omega)
  have hrnA : ∀ q, q < m.ns.length → 0 < q → (ndA m.ns (q - 1)).id < (ndA m.ns q).id := fun q hq => hrn q (by omega)
  refine Wl (KLq (Ki6 0) (KLe (Wb (Wo (fun f w_ => ∃ i : Nat, i ≤ m.gs.length ∧ (∀ q, q < i → GrOk m.ns (grA m.gs q)) ∧ (∀ q, q < i → 0 < q → grLt (grA m.gs (q - 1)) (grA m.gs q)) ∧ f 1 = (pt g1) ∧ f 6 = Ki6 ((i : Int)) ∧ Blk w_ g1 20 (stY (stS m na nc ga gc)) 29 ∧ Below w.heap.size w w_) (fun f _ => (m.gs.length - (intOf (f 6)).toNat)) ⟨0, Nat.zero_le _, (fun q h => absurd h (by omega)), (fun q h => absurd h (by omega)), h3, Fx.ic, m4, b4⟩ ?_))))
  rintro f3 w7 ⟨i, hi, hgd, hrg, h5, h6, m37, b15⟩
  refine Ws (KWsl (KLh h6 (Lv ((pf g1 19)) (Kxf h5 19) (Lv (.slice ga (m.gs.length) (gc)) (Kxl m37.cel 19) (KLq (Ki6 m.gs.length) ?_)))))
  by_cases c87 : (i : Int) < (m.gs.length : Int)
  ·refine Lv KbT (KltT c87) (KLe (KWcT (Wk (sN (Ws (Wb (KWsl (Lv ((pf g1 19)) (Kxf h5 19) (Lv (.slice ga (m.gs.length) (gc)) (Kxl m37.cel 19) (KLh h6 ?_))))))))))
   obtain ⟨bq2, oq2, eq2, m38⟩ := (hg.up b15 rfl) (by omega)
   have lbq2 : bq2 < w7.heap.size := m38.lt (by omega)
   refine Lv ((pf bq2 (5 * i + oq2))) (Kxi 5 (hx := (rfl.trans (congrArg (fun q => Value.slice q (m.gs.length) (gc)) eq2)))) (Lv (.agg (varr 5 (grZ (grA m.gs i)))) (KxA m38 (5 * i) (fun jq hjq => Fx.flat_at (k := i) (by omega) hjq)) (KLw 5 (fun i => (#[Ki6 0, Ku6 0, Ku6 0, Ki6 0, Ku6 0] : Array Value).getD i undef) fun g3 w8 eg3 m39 s13 z4 => ?_))
   have ⟨m40, m41, b16⟩ := KTk3 s13.old m37 m38 b15
   have lg3 := KGk eg3 b15.size
   have ng3m40 := KNk1 eg3 m37.lt
   have ng3m41 : bq2 ≠ g3 := by rw [eg3]; exact Nat.ne_of_lt (m38.lt (by omega))
   have tg3 := m39.lt
   refine KLsA m39 0 (h1 := (fun j _ => grZ_one _ j)) fun w9 m42 s14 z5 => ?_
   have m43 : Blk w9 g3 5 (grZ (grA m.gs i)) 59 := ovr_all m42
   have hct2 := cOs s14 m39.ty
   have m44 := KCk1 hct2 m40
   have m45 := m41.stp s14 (by omega)
   have b17 := s14.below b16 b16.size (by omega)
   refine KLe (Ws ?_)
   -- region 18 draws
   refine KWqb (KQq ((pt g3)) (Qv (Ki6 ((grA m.gs i).o)) (fun v1 hv1 => Kxl (m43.cb hv1) 0) ?_))
   by_cases c97 : ((grA m.gs i).o) < 1
   ·refine Qv KbT (fun v1 hv1 => KltT c97) (KQq KbT (KQu (KQu (KQu (KQq KbT (KQq KbT (KQu (KQu (KQu (KQq KbT (KQq KbT (KQu (KQu (KQu (KQu (KQu (KQq KbT (KQq KbT (KQu (KQu (KQu (KQq KbT (KQq KbT (KQu ?_))))))))))))))))))))))))
    refine KQu (KQu (KQq KbT (KQq KbT (KQu (KQu (KQu (KQu (KQu (KQq KbT (KQq KbT (KQu (KQu (KQu (KQu (KQu (KQu (KQu (KQu (KQu (KQu (KQu (KQu (KQu (KQq KbT ?_))))))))))))))))))))))))
    refine Qn ?_
    intro wb9 hbwb9
    have b18 := KTk1 hbwb9 b17
    refine sN (KWcT (KWsl (KLq KbF (KLe (Wr (blkR (sR (lpR (blkR (sR (Kret KbF ?_)))))))))))
    exact ⟨KrB (Eq.symm (mayS_n (fun h => by obtain ⟨a1, a2, a3, a4, a5, a6, a7⟩ := h.gd i (by omega); first | omega | exact a3 c106 | exact a7 c130 | (have q9 := h.gr (i - 1) (by omega); rw [show i - 1 + 1 = i by omega] at q9; exact absurd q9 (of_decide_eq_false c143))))), b18⟩
   refine Qv KbF (fun v1 hv1 => KltF c97) (KQq KbF (KQq ((pt g3)) (Qv (Ki6 ((grA m.gs i).o)) (fun v1 hv1 => Kxl (m43.cb hv1) 0) ?_)))
   by_cases c101 : 6 < ((grA m.gs i).o)
   ·refine Qv KbT (fun v1 hv1 => KgtT c101) (KQq KbT (KQq KbT (KQu (KQu (KQu (KQq KbT (KQq KbT (KQu (KQu (KQu (KQu (KQu (KQq KbT (KQq KbT (KQu (KQu (KQu (KQq KbT (KQq KbT (KQu (KQu (KQu (KQq KbT (KQq KbT ?_))))))))))))))))))))))))
    refine KQu (KQu (KQu (KQu (KQu (KQq KbT (KQq KbT (KQu (KQu (KQu (KQu (KQu (KQu (KQu (KQu (KQu (KQu (KQu (KQu (KQu (KQq KbT (Qn ?_)))))))))))))))))))))
    intro wb10 hbwb10
    have b19 := KTk1 hbwb10 b17
    refine sN (KWcT (KWsl (KLq KbF (KLe (Wr (blkR (sR (lpR (blkR (sR (Kret KbF ?_)))))))))))
    exact ⟨KrB (Eq.symm (mayS_n (fun h => by obtain ⟨a1, a2, a3, a4, a5, a6, a7⟩ := h.gd i (by omega); first | omega | exact a3 c106 | exact a7 c130 | (have q9 := h.gr (i - 1) (by omega); rw [show i - 1 + 1 = i by omega] at q9; exact absurd q9 (of_decide_eq_false c143))))), b19⟩
   refine Qv KbF (fun v1 hv1 => KgtF c101) (KQq KbF (KQq KbF (KQq ((pf g3 1)) (Qv (Ku6 ((grA m.gs i).r)) (fun v1 hv1 => Kxl (m43.cb hv1) 1) ?_))))
   by_cases c106 : ((grA m.gs i).r) = 0
   ·refine Qv KbT (fun v1 hv1 => KeqT c106) (KQq KbT (KQq KbT (KQu (KQu (KQu (KQu (KQu (KQq KbT (KQq KbT (KQu (KQu (KQu (KQq KbT (KQq KbT (KQu (KQu (KQu (KQq KbT (KQq KbT (KQu (KQu (KQu (KQu (KQu ?_))))))))))))))))))))))))
    refine KQq KbT (KQq KbT (KQu (KQu (KQu (KQu (KQu (KQu (KQu (KQu (KQu (KQu (KQu (KQu (KQu (KQq KbT (Qn ?_))))))))))))))))
    intro wb11 hbwb11
    have b20 := KTk1 hbwb11 b17
    refine sN (KWcT (KWsl (KLq KbF (KLe (Wr (blkR (sR (lpR (blkR (sR (Kret KbF ?_)))))))))))
    exact ⟨KrB (Eq.symm (mayS_n (fun h => by obtain ⟨a1, a2, a3, a4, a5, a6, a7⟩ := h.gd i (by omega); first | omega | exact a3 c106 | exact a7 c130 | (have q9 := h.gr (i - 1) (by omega); rw [show i - 1 + 1 = i by omega] at q9; exact absurd q9 (of_decide_eq_false c143))))), b20⟩
   refine Qv KbF (fun v1 hv1 => KeqF c106) (KQq KbF (KQq KbF (Qv (.agg (varr 20 (stY (stS m na nc ga gc)))) (fun v1 hv1 => KxA (m44.cb hv1) 0 (ha := h5)) (KQq ((pf g3 2)) (Qv (Ku6 ((grA m.gs i).n)) (fun v1 hv1 => Kxl (m43.cb hv1) 2) (KQc1 (fun v1 hv1 => r_node m na nc ga gc (grA m.gs i).n _ hl1 (hn.up (bch b17 hv1) rfl)) _ rfl ?_))))))
   by_cases c113 : (nodeI m.ns (grA m.gs i).n) < 0
   ·refine Qv KbT (fun v1 hv1 => KltT c113) (KQq KbT (KQq KbT (KQu (KQu (KQu (KQq KbT (KQq KbT (KQu (KQu (KQu (KQq KbT (KQq KbT (KQu (KQu (KQu (KQu (KQu (KQq KbT (KQq KbT (KQu (KQu (KQu (KQu (KQu ?_))))))))))))))))))))))))
    refine KQu (KQu (KQu (KQu (KQu (KQu (KQu (KQu (KQq KbT (Qn ?_)))))))))
    intro wb12 hbwb12
    have b21 := KTk1 hbwb12 b17
    refine sN (KWcT (KWsl (KLq KbF (KLe (Wr (blkR (sR (lpR (blkR (sR (Kret KbF ?_)))))))))))
    exact ⟨KrB (Eq.symm (mayS_n (fun h => by obtain ⟨a1, a2, a3, a4, a5, a6, a7⟩ := h.gd i (by omega); first | omega | exact a3 c106 | exact a7 c130 | (have q9 := h.gr (i - 1) (by omega); rw [show i - 1 + 1 = i by omega] at q9; exact absurd q9 (of_decide_eq_false c143))))), b21⟩
   refine Qv KbF (fun v1 hv1 => KltF c113) (KQq KbF (KQq KbF (KQq ((pf g3 3)) (Qv (Ki6 ((grA m.gs i).a)) (fun v1 hv1 => Kxl (m43.cb hv1) 3) ?_))))
   by_cases c118 : ((grA m.gs i).a) < 1
   ·refine Qv KbT (fun v1 hv1 => KltT c118) (KQq KbT (KQq KbT (KQu (KQu (KQu (KQq KbT (KQq KbT (KQu (KQu (KQu (KQu (KQu (KQq KbT (KQq KbT (KQu (KQu (KQu (KQu (KQu (KQu (KQu (KQu (KQu (KQu ?_))))))))))))))))))))))))
    refine KQu (KQu (KQu (KQq KbT (Qn ?_))))
    intro wb13 hbwb13
    have b22 := KTk1 hbwb13 b17
    refine sN (KWcT (KWsl (KLq KbF (KLe (Wr (blkR (sR (lpR (blkR (sR (Kret KbF ?_)))))))))))
    exact ⟨KrB (Eq.symm (mayS_n (fun h => by obtain ⟨a1, a2, a3, a4, a5, a6, a7⟩ := h.gd i (by omega); first | omega | exact a3 c106 | exact a7 c130 | (have q9 := h.gr (i - 1) (by omega); rw [show i - 1 + 1 = i by omega] at q9; exact absurd q9 (of_decide_eq_false c143))))), b22⟩
   refine Qv KbF (fun v1 hv1 => KltF c118) (KQq KbF (KQq KbF (KQq ((pf g3 3)) (Qv (Ki6 ((grA m.gs i).a)) (fun v1 hv1 => Kxl (m43.cb hv1) 3) ?_))))
   by_cases c123 : 1125899906842624 < ((grA m.gs i).a)
   ·refine Qv KbT (fun v1 hv1 => KgtT c123) (KQq KbT (KQq KbT (KQu (KQu (KQu (KQu (KQu (KQq KbT (KQq KbT (KQu (KQu (KQu (KQu (KQu (KQu (KQu (KQu (KQu (KQu (KQu (KQu (KQu (KQq KbT (Qn ?_))))))))))))))))))))))))
    intro wb14 hbwb14
    have b23 := KTk1 hbwb14 b17
    refine sN (KWcT (KWsl (KLq KbF (KLe (Wr (blkR (sR (lpR (blkR (sR (Kret KbF ?_)))))))))))
    exact ⟨KrB (Eq.symm (mayS_n (fun h => by obtain ⟨a1, a2, a3, a4, a5, a6, a7⟩ := h.gd i (by omega); first | omega | exact a3 c106 | exact a7 c130 | (have q9 := h.gr (i - 1) (by omega); rw [show i - 1 + 1 = i by omega] at q9; exact absurd q9 (of_decide_eq_false c143))))), b23⟩
   refine Qv KbF (fun v1 hv1 => KgtF c123) (KQq KbF (KQq KbF (KQq ((pf g3 4)) (Qv (Ku6 ((grA m.gs i).b)) (fun v1 hv1 => Kxl (m43.cb hv1) 4) (KQq ((pf g3 1)) (Qv (Ku6 ((grA m.gs i).r)) (fun v1 hv1 => Kxl (m43.cb hv1) 1) ?_))))))
   by_cases c130 : ((grA m.gs i).b) = ((grA m.gs i).r)
   ·refine Qv KbT (fun v1 hv1 => KeqT c130) (KQq KbT (KQq KbT (KQu (KQu (KQu (KQu (KQu (KQu (KQu (KQu (KQu (KQu (KQu (KQu (KQu (KQq KbT (Qn ?_)))))))))))))))))
    intro wb15 hbwb15
    have b24 := KTk1 hbwb15 b17
    refine sN (KWcT (KWsl (KLq KbF (KLe (Wr (blkR (sR (lpR (blkR (sR (Kret KbF ?_)))))))))))
    exact ⟨KrB (Eq.symm (mayS_n (fun h => by obtain ⟨a1, a2, a3, a4, a5, a6, a7⟩ := h.gd i (by omega); first | omega | exact a3 c106 | exact a7 c130 | (have q9 := h.gr (i - 1) (by omega); rw [show i - 1 + 1 = i by omega] at q9; exact absurd q9 (of_decide_eq_false c143))))), b24⟩
   refine Qv KbF (fun v1 hv1 => KeqF c130) (KQq KbF (KQq KbF (KQh h6 ?_)))
   by_cases c134 : 0 < (i : Int)
   ·refine Qv KbT (fun v1 hv1 => KgtT c134) (KQq KbT (Qv ((pf g1 19)) (fun v1 hv1 => Kxf h5 19) (Qv (.slice ga (m.gs.length) (gc)) (fun v1 hv1 => Kxl (m44.cb hv1) 19) (KQh h6 (Qv (Ki6 ((i : Int) - 1)) (fun v1 hv1 => KxM) (Qv ((pf bq2 (5 * i + oq2 - 5))) (fun v1 hv1 => Kxi 5 (hx := (rfl.trans (congrArg (fun q => Value.slice q (m.gs.length) (gc)) eq2)))) (Qv (.agg (varr 5 (grZ (grA m.gs (i - 1))))) (fun v1 hv1 => KxA (m45.below hv1 (m45.lt (by omega))) (5 * i - 5) (x := grsX m.gs) (fun jq hjq => Fx.flat_at (k := i - 1) (by omega) hjq)) (Qv (.agg (varr 5 (grZ (grA m.gs i)))) (fun v1 hv1 => KxA (m43.cb hv1) 0) ?_))))))))
    by_cases c143 : (decide (grLt (grA m.gs (i - 1)) (grA m.gs i))) = true
    ·refine KQc1 (fun _ _ => r_before (grA m.gs (i - 1)) (grA m.gs i) _) KbT (by rw [c143]) (KQq KbF (KQq KbF (KQq KbF (Qn ?_))))
     intro wb16 hbwb16
     have ⟨m67, b25⟩ := KTk2 hbwb16 m44 b17
     refine sN (KWcF (Wk (blkN (sN (Wl (KLh h6 (Lv (Ki6 ((i : Int) + 1)) KxP (KLq (Ki6 ((i : Int) + 1)) (Ln (lpN ⟨i + 1, by omega, (all_step hgd ⟨by omega, by omega, c106, by omega, by omega, by omega, c130⟩), (all_step hrg (fun _ => of_decide_eq_true c143)), h5, Fx.ic, m67, b25⟩ ?_))))))))))
     show (m.gs.length - (intOf ((Ki6 ((i : Int) + 1)))).toNat) < _
     simp only [h6, intOf]; omega
    rw [Bool.not_eq_true] at c143
    refine KQc1 (fun _ _ => r_before (grA m.gs (i - 1)) (grA m.gs i) _) KbF (by rw [c143]) (KQq KbT (KQq KbT (KQq KbT (Qn ?_))))
    intro wb17 hbwb17
    have b26 := KTk1 hbwb17 b17
    refine sN (KWcT (KWsl (KLq KbF (KLe (Wr (blkR (sR (lpR (blkR (sR (Kret KbF ?_)))))))))))
    exact ⟨KrB (Eq.symm (mayS_n (fun h => by obtain ⟨a1, a2, a3, a4, a5, a6, a7⟩ := h.gd i (by omega); first | omega | exact a3 c106 | exact a7 c130 | (have q9 := h.gr (i - 1) (by omega); rw [show i - 1 + 1 = i by omega] at q9; exact absurd q9 (of_decide_eq_false c143))))), b26⟩
   refine Qv KbF (fun v1 hv1 => KgtF c134) (KQq KbF (KQu (KQu (KQu (KQu (KQu (KQu (KQu (KQu (KQu (KQq KbF (KQq KbF (Qn ?_)))))))))))))
   intro wb18 hbwb18
   have ⟨m73, b27⟩ := KTk2 hbwb18 m44 b17
   refine sN (KWcF (Wk (blkN (sN (Wl (KLh h6 (Lv (Ki6 ((i : Int) + 1)) KxP (KLq (Ki6 ((i : Int) + 1)) (Ln (lpN ⟨i + 1, by omega, (all_step hgd ⟨by omega, by omega, c106, by omega, by omega, by omega, c130⟩), (all_step hrg (fun h => by omega)), h5, Fx.ic, m73, b27⟩ ?_))))))))))
   show (m.gs.length - (intOf ((Ki6 ((i : Int) + 1)))).toNat) < _
   simp only [h6, intOf]; omega
  refine Lv KbF (KltF c87) (KLe (KWcF (Wx (seqX (lpX (blkX (sN (KWsl (KLq KbT (KLe (Wr (Kret KbT ?_))))))))))))
  exact ⟨KrB (Eq.symm (mayS_y ⟨kn_p c10, by omega, by omega, fun k hk => hrnA (k + 1) hk (by omega), fun k hk => hrg (k + 1) (by omega) (by omega), hliA, hndA, fun q hq => hgd q (by omega)⟩)), b15⟩
 rw [Bool.not_eq_true] at c10
 refine KLc1 (r6_may m.known _) KbF (by rw [c10]) ?_
 intro w10 hb2
 have b28 := KTk1 hb2 b1
 refine KLq KbT (KLq KbT (KLu (KLu (KLu (KLu (KLq KbT (KLq KbT (KLu (KLu (KLu (KLu (KLq KbT (KLe (KWcT (KWsl (KLq KbF (KLe (Wr (sR (Kret KbF ?_))))))))))))))))))))
 exact ⟨KrB (Eq.symm (mayS_n (fun h => kn_q c10 h.kn))), b28⟩
set_option linter.unusedVariables false
namespace Rt
def PJ (m : SnM) (k q j : Nat) : List UInt8 := P3 m k q ++ rowB (fun t => (ndA m.ns k).R (t + 6 * q)) j
theorem PJ_0 (m : SnM) (k q : Nat) : P3 m k q = PJ m k q 0 := (List.append_nil _).symm
theorem PJ_s (m : SnM) (k q j : Nat) : PJ m k q j ++ be 8 ((ndA m.ns k).R (j + 6 * q)) = PJ m k q (j + 1) := by unfold PJ; rw [rowB_succ, List.append_assoc]
theorem PJ_6 (m : SnM) (k q : Nat) : PJ m k q 6 = P3 m k (q + 1) := by
  unfold PJ; rw [show (fun t => (ndA m.ns k).R (t + 6 * q)) = fun t => (ndA m.ns k).R (6 * q + t) from funext fun t => by rw [Nat.add_comm], P3_s]
theorem PJ_len (m : SnM) {k q j : Nat} (h : k ≤ m.ns.length) : (PJ m k q j).length = 76 + 448 * k + 48 * q + 8 * j := by unfold PJ; rw [List.length_append, P3_len m h, rowB_len]
theorem kn_0 (m : SnM) : P1 m 6 = P1 m 6 ++ rowB m.known 0 := (List.append_nil _).symm
theorem kn_s (m : SnM) (i : Nat) : P1 m 6 ++ rowB m.known i ++ be 8 (m.known i) = P1 m 6 ++ rowB m.known (i + 1) := by rw [rowB_succ, List.append_assoc]
theorem kn_len (m : SnM) (i : Nat) : (P1 m 6 ++ rowB m.known i).length = 10 + 8 * i := by rw [List.length_append, P1_len m (Nat.le_refl _), rowB_len]
theorem P3_w (m : SnM) (k : Nat) : P2 m k ++ be 8 (ndA m.ns k).id ++ be 8 (ndA m.ns k).par = P3 m k 0 := by rw [← P3_0, two_row, List.append_assoc]
theorem P4_w (m : SnM) {k : Nat} (h : k < m.gs.length) : P4 m k ++ [byI (grA m.gs k).o] ++ be 8 (grA m.gs k).r ++ be 8 (grA m.gs k).n ++ be 8 (grA m.gs k).a ++ be 8 (grA m.gs k).b = P4 m (k + 1) := by rw [← P4_s m h, four_row]; simp only [List.append_assoc]
theorem rows3 {z : Nat → Value} {R : Nat → Int} : ∀ p, p < 3 * 6 → ovr (ovr (ovr z (0 * 6) 6 (rv .i64 fun j => R (0 + j))) (1 * 6) 6 (rv .i64 fun j => R (6 + j))) (2 * 6) 6 (rv .i64 fun j => R (12 + j)) p = rv .i64 R p := fun p hp => by
  unfold ovr
  by_cases c1 : 12 ≤ p
  · rw [if_pos ⟨by omega, by omega⟩]
    show Value.int .i64 (R (12 + (p - 2 * 6))) = Ki6 (R p)
    rw [show 12 + (p - 2 * 6) = p by omega]
  · rw [if_neg (by omega)]
    by_cases c2 : 6 ≤ p
    · rw [if_pos ⟨by omega, by omega⟩]
      show Value.int .i64 (R (6 + (p - 1 * 6))) = Ki6 (R p)
      rw [show 6 + (p - 1 * 6) = p by omega]
    · rw [if_neg (by omega), if_pos ⟨by omega, by omega⟩]
      show Value.int .i64 (R (0 + (p - 0 * 6))) = Ki6 (R p)
      rw [show 0 + (p - 0 * 6) = p by omega]
theorem rowsY_app {z : Nat → Value} {R : Nat → Int} {i : Nat} : ∀ p, p < (i + 3 + 1) * 6 → appX (rv .i64 R) ((i + 3) * 6) (ovr z (0 * 6) 6 (rv .i64 fun j => R (6 * i + 18 + j))) p = rv .i64 R p := fun p hp => by
  unfold appX ovr
  by_cases c : p < (i + 3) * 6
  · rw [if_pos c]
  · rw [if_neg c, if_pos ⟨by omega, by omega⟩]
    show Value.int .i64 (R (6 * i + 18 + (p - (i + 3) * 6 - 0 * 6))) = Ki6 (R p)
    rw [show 6 * i + 18 + (p - (i + 3) * 6 - 0 * 6) = p by omega]
end Rt
set_option maxRecDepth 20000 in
set_option maxHeartbeats 4000000 in
theorem r_put (m : SnM) (na : Option Addr) (nc : Nat) (ga : Option Addr) (gc : Nat) (w : World) (hm : StW w m na nc ga gc) :
    Calls Try.prog 15 #[.agg (varr 20 (stY (stS m na nc ga gc)))] w fun e w' => ∃ a c, e = .returned (.slice a (putB m).length c) ∧ Fx.Own w' w.heap.size 5 1 (.slice a (putB m).length c) (putB m).length (Fx.byY (putB m)) ∧ Below w.heap.size w w' := by
 have hn := hm.n
 have hg := hm.g
 have hl1 := hm.l1
 have hl2 := hm.l2
 refine Kent Try.func15 159 ?_
 refine KWsl (KLb fun g1 w1 eg1 m1 s1 z1 => ?_)
 have b1 := KTk1 s1.old (Below.refl w.heap.size w)
 have lg1 := KGk0 eg1
 have tg1 := m1.lt
 refine KLq (.slice none 0 0) (KLe (Ws (KWsl (Lv (.agg (varr 20 (stY (stS m na nc ga gc)))) (KxA m1.cel 0) ?_))))
 by_cases c16 : (mayS m) = true
 ·refine KLc1 (r_may m na nc ga gc _ hm.l1 hm.l2 (hm.up b1).n (hm.up b1).g) KbT (by rw [c16]) ?_
  intro w2 hb1
  have ⟨m2, b2⟩ := KTk2 hb1 m1 b1
  refine KLq KbF (KLe (KWcF (Wk (sN (Ws ?_)))))
  have hM := mayS_iff.1 c16
  have hnn := hM.nn
  have hgn := hM.gn
  refine Wl (Lbs (vs := [(0, .int .u8 (76)), (1, .int .u8 (83)), (2, .int .u8 (78)), (3, .int .u8 (80))]) (s := 1) (zc := rv .u8 (fun _ => 0)) (y := ovr (ovr (ovr (ovr (fun j => (rv .u8 (fun _ => 0)) (j % 1)) (0 * 1) 1 (fun _ => .int .u8 (76))) (1 * 1) 1 (fun _ => .int .u8 (83))) (2 * 1) 1 (fun _ => .int .u8 (78))) (3 * 1) 1 (fun _ => .int .u8 (80))) (by rfl) rfl rfl Try.underlying30 (by kernel_rfl) (by rfl) (by rfl) (by kernel_rfl) (by rw [fill_step (off := 0 * 1) (s := 1) (y := fun _ => .int .u8 (76)) rfl (cells_one (by rfl)) (by rfl)]; rw [fill_step (off := 1 * 1) (s := 1) (y := fun _ => .int .u8 (83)) rfl (cells_one (by rfl)) (by rfl)]; rw [fill_step (off := 2 * 1) (s := 1) (y := fun _ => .int .u8 (78)) rfl (cells_one (by rfl)) (by rfl)]; rw [fill_step (off := 3 * 1) (s := 1) (y := fun _ => .int .u8 (80)) rfl (cells_one (by rfl)) (by rfl)]; rfl) rfl fun g2 w3 eg2 m3 s3 z2 => ?_)
  have ⟨m4, b3⟩ := KTk2 s3.old m2 b2
  have lg2 := KGk eg2 b2.size
  have ng2m4 := KNk1 eg2 m2.lt
  have tg2 := m3.lt
  refine Fx.L.mark (g := g2) (m := 4) (q := 4) (c := 4) (y := ovr (ovr (ovr (ovr (fun j => (rv .u8 (fun _ => 0)) (j % 1)) (0 * 1) 1 (fun _ => .int .u8 (76))) (1 * 1) 1 (fun _ => .int .u8 (83))) (2 * 1) 1 (fun _ => .int .u8 (78))) (3 * 1) 1 (fun _ => .int .u8 (80))) (by rfl) (by rfl) rfl rfl Try.underlying30 Try.underlying5 m3 fun w4 hmk1 s4 => ?_
  have hct1 := cOs s4 m3.ty
  have m5 := KCk1 hct1 m4
  have b4 := s4.below b3 b3.size (by omega)
  have m6 : Fx.Apd w4 w.heap.size 5 (some ⟨g2, 0, none⟩) 4 4 (Fx.byY (P1 m 0)) := .inr ⟨rfl, rfl, g2, rfl, lg2, hmk1.to (fun j hj => by rw [P1_0]; exact (match j, hj with | 0, _ => rfl | 1, _ => rfl | 2, _ => rfl | 3, _ => rfl | j + 4, h => absurd h (by omega)))⟩
  refine KLq (Ksl g2 4 4) (KLe (Ws (KWsl (KLq (Ki6 0) (KLe (Wb (Wo (fun f w_ => ∃ i : Nat, ∃ ao : Option Addr, ∃ co : Nat, i ≤ 6 ∧ f 1 = (pt g1) ∧ f 3 = .slice ao (i + 4) (co) ∧ f 4 = Ki6 ((i : Int)) ∧ Blk w_ g1 20 (stY (stS m na nc ga gc)) 29 ∧ Fx.Apd w_ w.heap.size 5 ao (i + 4) co (Fx.byY (P1 m i)) ∧ Below w.heap.size w w_) (fun f _ => (6 - (intOf (f 4)).toNat)) ⟨0, (some ⟨g2, 0, none⟩), 4, by omega, (by rfl), (by rfl), Fx.ic, m5, m6, b4⟩ ?_)))))))
  rintro f1 w5 ⟨i, ao, co, hi, h1, h2, h3, m7, m8, b5⟩
  refine Ws (KWsl (KLh h3 ?_))
  by_cases c21 : (i : Int) < 6
  ·refine Lv KbT (KltT c21) (KLe (KWcT (Wk (sN (Ws (Wb (KWsl (KLq (.int .u8 (0)) (KLe (Ws (KWsl (KLh h3 (Lv ((pt g1)) (Kxf h1 0) (Lv ((pf g1 i)) (Kxj 6 1) ?_))))))))))))))
   by_cases c27 : (m.inn i) = true
   ·refine Lv KbT (Kxl m7.cel i ((stY_in _ (by omega)).trans (congrArg Value.bool c27))) (KLe (KWcT (Wl (KLq (.int .u8 (0)) (Lv (.int .u8 (1)) (Fx.x_add rfl rfl rfl (Fx.u8e (by omega) (by omega))) (KLq (.int .u8 (1)) (KLe (Ws (KWsl (KLh h3 (Lv ((pf g1 6)) (Kxf h1 6) (Lv ((pf g1 (i + 6))) (Kxj 6 1) ?_))))))))))))
    by_cases c33 : (m.left i) = true
    ·refine Lv KbT (Kxl m7.cel (i + 6) ((stY_left _ (by omega) (by omega)).trans (congrArg Value.bool c33))) (KLe (KWcT (Wl (KLq (.int .u8 (1)) (Lv (.int .u8 (3)) (Fx.x_add rfl rfl rfl (Fx.u8e (by omega) (by omega))) (KLq (.int .u8 (3)) (KLe (Wl (KLh h2 (KLq (.int .u8 (3)) (Lbs (vs := [(0, .int .u8 (3))]) (s := 1) (zc := rv .u8 (fun _ => 0)) (y := ovr (fun j => (rv .u8 (fun _ => 0)) (j % 1)) (0 * 1) 1 (fun _ => .int .u8 (3))) (by rfl) rfl rfl Try.underlying30 (by kernel_rfl) (by rfl) (by rfl) (by kernel_rfl) (by rw [fill_step (off := 0 * 1) (s := 1) (y := fun _ => .int .u8 (3)) rfl (cells_one (by rfl)) (by rfl)]; rfl) rfl fun g3 w6 eg3 m9 s5 z3 => ?_)))))))))))
     have ⟨m10, m11, b6⟩ := KTk3 s5.old m7 m8 b5
     have lg3 := KGk eg3 b5.size
     have ng3m10 := KNk1 eg3 m7.lt
     have tg3 := m9.lt
     refine Fx.L.appD (B := w.heap.size) (k := i + 4) (x := Fx.byY (P1 m i)) (by rfl) rfl rfl rfl Try.underlying30 (by kernel_rfl) (by kernel_rfl) rfl m11 m9.cel (fun j hj => by unfold ovr; rw [if_pos ⟨by omega, by omega⟩]; rfl) (by omega) b6.size b6 fun a1 cap1 w7 ho1 hct2 b7 => ?_
     have m12 := KCk1 hct2 m10
     have m13 : Fx.Apd w7 w.heap.size 5 a1 (i + 4 + 1) cap1 (Fx.byY (P1 m (i + 1))) := .inl (ho1.congr (fl_app (by omega) (by rw [c27, c33]; rfl)))
     refine KLq (.slice a1 (i + 4 + 1) (cap1)) (Ln (blkN (sN (Wl (KLh h3 (Lv (Ki6 ((i : Int) + 1)) KxP (KLq (Ki6 ((i : Int) + 1)) (Ln (lpN ⟨i + 1, a1, cap1, by omega, h1, (by rfl), Fx.ic, m12, m13, b7⟩ ?_)))))))))
     show (6 - (intOf ((Ki6 ((i : Int) + 1)))).toNat) < _
     simp only [h3, intOf]; omega
    rw [Bool.not_eq_true] at c33
    refine Lv KbF (Kxl m7.cel (i + 6) ((stY_left _ (by omega) (by omega)).trans (congrArg Value.bool c33))) (KLe (KWcF (Wk (sN (Wl (KLh h2 (KLq (.int .u8 (1)) (Lbs (vs := [(0, .int .u8 (1))]) (s := 1) (zc := rv .u8 (fun _ => 0)) (y := ovr (fun j => (rv .u8 (fun _ => 0)) (j % 1)) (0 * 1) 1 (fun _ => .int .u8 (1))) (by rfl) rfl rfl Try.underlying30 (by kernel_rfl) (by rfl) (by rfl) (by kernel_rfl) (by rw [fill_step (off := 0 * 1) (s := 1) (y := fun _ => .int .u8 (1)) rfl (cells_one (by rfl)) (by rfl)]; rfl) rfl fun g4 w8 eg4 m14 s6 z4 => ?_))))))))
    have ⟨m15, m16, b8⟩ := KTk3 s6.old m7 m8 b5
    have lg4 := KGk eg4 b5.size
    have ng4m15 := KNk1 eg4 m7.lt
    have tg4 := m14.lt
    refine Fx.L.appD (B := w.heap.size) (k := i + 4) (x := Fx.byY (P1 m i)) (by rfl) rfl rfl rfl Try.underlying30 (by kernel_rfl) (by kernel_rfl) rfl m16 m14.cel (fun j hj => by unfold ovr; rw [if_pos ⟨by omega, by omega⟩]; rfl) (by omega) b8.size b8 fun a2 cap2 w9 ho2 hct3 b9 => ?_
    have m17 := KCk1 hct3 m15
    have m18 : Fx.Apd w9 w.heap.size 5 a2 (i + 4 + 1) cap2 (Fx.byY (P1 m (i + 1))) := .inl (ho2.congr (fl_app (by omega) (by rw [c27, c33]; rfl)))
    refine KLq (.slice a2 (i + 4 + 1) (cap2)) (Ln (blkN (sN (Wl (KLh h3 (Lv (Ki6 ((i : Int) + 1)) KxP (KLq (Ki6 ((i : Int) + 1)) (Ln (lpN ⟨i + 1, a2, cap2, by omega, h1, (by rfl), Fx.ic, m17, m18, b9⟩ ?_)))))))))
    show (6 - (intOf ((Ki6 ((i : Int) + 1)))).toNat) < _
    simp only [h3, intOf]; omega
   rw [Bool.not_eq_true] at c27
   refine Lv KbF (Kxl m7.cel i ((stY_in _ (by omega)).trans (congrArg Value.bool c27))) (KLe (KWcF (Wk (sN (Ws (KWsl (KLh h3 (Lv ((pf g1 6)) (Kxf h1 6) (Lv ((pf g1 (i + 6))) (Kxj 6 1) ?_)))))))))
   by_cases c33 : (m.left i) = true
   ·refine Lv KbT (Kxl m7.cel (i + 6) ((stY_left _ (by omega) (by omega)).trans (congrArg Value.bool c33))) (KLe (KWcT (Wl (KLq (.int .u8 (0)) (Lv (.int .u8 (2)) (Fx.x_add rfl rfl rfl (Fx.u8e (by omega) (by omega))) (KLq (.int .u8 (2)) (KLe (Wl (KLh h2 (KLq (.int .u8 (2)) (Lbs (vs := [(0, .int .u8 (2))]) (s := 1) (zc := rv .u8 (fun _ => 0)) (y := ovr (fun j => (rv .u8 (fun _ => 0)) (j % 1)) (0 * 1) 1 (fun _ => .int .u8 (2))) (by rfl) rfl rfl Try.underlying30 (by kernel_rfl) (by rfl) (by rfl) (by kernel_rfl) (by rw [fill_step (off := 0 * 1) (s := 1) (y := fun _ => .int .u8 (2)) rfl (cells_one (by rfl)) (by rfl)]; rfl) rfl fun g5 w10 eg5 m19 s7 z5 => ?_)))))))))))
    have ⟨m20, m21, b10⟩ := KTk3 s7.old m7 m8 b5
    have lg5 := KGk eg5 b5.size
    have ng5m20 := KNk1 eg5 m7.lt
    have tg5 := m19.lt
    refine Fx.L.appD (B := w.heap.size) (k := i + 4) (x := Fx.byY (P1 m i)) (by rfl) rfl rfl rfl Try.underlying30 (by kernel_rfl) (by kernel_rfl) rfl m21 m19.cel (fun j hj => by unfold ovr; rw [if_pos ⟨by omega, by omega⟩]; rfl) (by omega) b10.size b10 fun a3 cap3 w11 ho3 hct4 b11 => ?_
    have m22 := KCk1 hct4 m20
    have m23 : Fx.Apd w11 w.heap.size 5 a3 (i + 4 + 1) cap3 (Fx.byY (P1 m (i + 1))) := .inl (ho3.congr (fl_app (by omega) (by rw [c27, c33]; rfl)))
    refine KLq (.slice a3 (i + 4 + 1) (cap3)) (Ln (blkN (sN (Wl (KLh h3 (Lv (Ki6 ((i : Int) + 1)) KxP (KLq (Ki6 ((i : Int) + 1)) (Ln (lpN ⟨i + 1, a3, cap3, by omega, h1, (by rfl), Fx.ic, m22, m23, b11⟩ ?_)))))))))
    show (6 - (intOf ((Ki6 ((i : Int) + 1)))).toNat) < _
    simp only [h3, intOf]; omega
   rw [Bool.not_eq_true] at c33
   refine Lv KbF (Kxl m7.cel (i + 6) ((stY_left _ (by omega) (by omega)).trans (congrArg Value.bool c33))) (KLe (KWcF (Wk (sN (Wl (KLh h2 (KLq (.int .u8 (0)) (Lbs (vs := [(0, .int .u8 (0))]) (s := 1) (zc := rv .u8 (fun _ => 0)) (y := ovr (fun j => (rv .u8 (fun _ => 0)) (j % 1)) (0 * 1) 1 (fun _ => .int .u8 (0))) (by rfl) rfl rfl Try.underlying30 (by kernel_rfl) (by rfl) (by rfl) (by kernel_rfl) (by rw [fill_step (off := 0 * 1) (s := 1) (y := fun _ => .int .u8 (0)) rfl (cells_one (by rfl)) (by rfl)]; rfl) rfl fun g6 w12 eg6 m24 s8 z6 => ?_))))))))
   have ⟨m25, m26, b12⟩ := KTk3 s8.old m7 m8 b5
   have lg6 := KGk eg6 b5.size
   have ng6m25 := KNk1 eg6 m7.lt
   have tg6 := m24.lt
   refine Fx.L.appD (B := w.heap.size) (k := i + 4) (x := Fx.byY (P1 m i)) (by rfl) rfl rfl rfl Try.underlying30 (by kernel_rfl) (by kernel_rfl) rfl m26 m24.cel (fun j hj => by unfold ovr; rw [if_pos ⟨by omega, by omega⟩]; rfl) (by omega) b12.size b12 fun a4 cap4 w13 ho4 hct5 b13 => ?_
   have m27 := KCk1 hct5 m25
   have m28 : Fx.Apd w13 w.heap.size 5 a4 (i + 4 + 1) cap4 (Fx.byY (P1 m (i + 1))) := .inl (ho4.congr (fl_app (by omega) (by rw [c27, c33]; rfl)))
   refine KLq (.slice a4 (i + 4 + 1) (cap4)) (Ln (blkN (sN (Wl (KLh h3 (Lv (Ki6 ((i : Int) + 1)) KxP (KLq (Ki6 ((i : Int) + 1)) (Ln (lpN ⟨i + 1, a4, cap4, by omega, h1, (by rfl), Fx.ic, m27, m28, b13⟩ ?_)))))))))
   show (6 - (intOf ((Ki6 ((i : Int) + 1)))).toNat) < _
   simp only [h3, intOf]; omega
  refine Lv KbF (KltF c21) (KLe (KWcF (Wx (seqX (lpX (blkX (sN (Ws (Ws ?_)))))))))
  have m29 : Fx.Own w5 w.heap.size 5 1 (.slice ao (10) (co)) 10 (Fx.byY (P1 m 6 ++ rowB m.known 0)) := by have q9 := m8; rw [show i = 6 by omega, kn_0] at q9; exact q9.own (by decide)
  refine Wl (KLq (Ki6 0) (KLe (Wb (Wo (fun f w_ => ∃ i : Nat, ∃ n : Nat, ∃ ao : Option Addr, ∃ co : Nat, i ≤ 6 ∧ n = 10 + 8 * i ∧ f 1 = (pt g1) ∧ f 3 = .slice ao (n) (co) ∧ f 6 = Ki6 ((i : Int)) ∧ Blk w_ g1 20 (stY (stS m na nc ga gc)) 29 ∧ Fx.Own w_ w.heap.size 5 1 (.slice ao (n) (co)) n (Fx.byY (P1 m 6 ++ rowB m.known i)) ∧ Below w.heap.size w w_) (fun f _ => (6 - (intOf (f 6)).toNat)) ⟨0, 10, ao, co, by omega, by omega, h1, (h2.trans (congrArg (fun q => Value.slice ao q co) (show i + 4 = 10 by omega))), Fx.ic, m7, m29, b5⟩ ?_))))
  rintro f2 w14 ⟨i, n, ao, co, hi, hn9, h4, h5, h6, m30, m31, b14⟩
  refine Ws (KWsl (KLh h6 ?_))
  by_cases c41 : (i : Int) < 6
  ·refine Lv KbT (KltT c41) (KLe (KWcT (Wk (sN (Ws (Wb (Wl (KLh h5 (KLh h6 (Lv ((pf g1 12)) (Kxf h4 12) (Lv ((pf g1 (i + 12))) (Kxj 6 1) (Lv (Ku6 (m.known i)) (Kxl m30.cel (i + 12) (stY_known _ (by omega) (by omega))) (KLc (r_word w.heap.size ao n co (P1 m 6 ++ rowB m.known i) (m.known i) 8 _ b14.size (by decide) (u64_256 (hm.r.k i (by omega))) (by rw [kn_len]; omega) (by omega) m31) ?_)))))))))))))
   rintro e9 w15 ⟨ab1, cb1, he, hm1, hct6, hb2⟩
   refine ⟨_, he, ?_⟩
   clear he
   have m33 := KCk1 hct6 m30
   have b15 := b14.trans hb2
   have m32 : Fx.Own w15 w.heap.size 5 1 (.slice ab1 (n + 8) (cb1)) (n + 8) (Fx.byY (P1 m 6 ++ rowB m.known (i + 1))) := by have q9 := hm1; rw [kn_s] at q9; exact q9
   refine KLq (.slice ab1 (n + 8) (cb1)) (Ln (blkN (sN (Wl (KLh h6 (Lv (Ki6 ((i : Int) + 1)) KxP (KLq (Ki6 ((i : Int) + 1)) (Ln (lpN ⟨i + 1, n + 8, ab1, cb1, by omega, by omega, h4, (by rfl), Fx.ic, m33, m32, b15⟩ ?_)))))))))
   show (6 - (intOf ((Ki6 ((i : Int) + 1)))).toNat) < _
   simp only [h6, intOf]; omega
  refine Lv KbF (KltF c41) (KLe (KWcF (Wx (seqX (lpX (blkX (sN (Ws ?_))))))))
  have m34 : Fx.Own w14 w.heap.size 5 1 (.slice ao (n) (co)) n (Fx.byY (P1 m 6 ++ rowB m.known 6)) := by have q9 := m31; rw [show i = 6 by omega] at q9; exact q9
  refine Wl (KLh h5 (Lv ((pf g1 18)) (Kxf h4 18) (Lv (.slice na (m.ns.length) (nc)) (Kxl m30.cel 18) (KLq (Ki6 m.ns.length) (Lv (Ku6 m.ns.length) (x_conv rfl rfl (by kernel_rfl) Try.underlying23 (u64e (by omega) rfl)) (KLc (r_word w.heap.size ao n co (P1 m 6 ++ rowB m.known 6) (m.ns.length : Int) 2 _ b14.size (by decide) ⟨by omega, by rw [show (256 : Int) ^ 2 = 65536 by decide]; omega⟩ (by rw [kn_len]; omega) (by omega) m34) ?_))))))
  rintro e9 w16 ⟨ab2, cb2, he, hm2, hct7, hb3⟩
  refine ⟨_, he, ?_⟩
  clear he
  have m36 := KCk1 hct7 m30
  have b16 := b14.trans hb3
  have m35 : Fx.Own w16 w.heap.size 5 1 (.slice ab2 (n + 2) (cb2)) (n + 2) (Fx.byY (P2 m 0)) := by have q9 := hm2; rw [P2_0] at q9; exact q9
  refine KLq (.slice ab2 (n + 2) (cb2)) (KLe (Ws (KWsl (KLq (Ki6 0) (KLe (Wb (Wo (fun f w_ => ∃ k : Nat, ∃ n : Nat, ∃ ao : Option Addr, ∃ co : Nat, k ≤ m.ns.length ∧ n = 60 + 448 * k ∧ f 1 = (pt g1) ∧ f 3 = .slice ao (n) (co) ∧ f 7 = Ki6 ((k : Int)) ∧ Blk w_ g1 20 (stY (stS m na nc ga gc)) 29 ∧ Fx.Own w_ w.heap.size 5 1 (.slice ao (n) (co)) n (Fx.byY (P2 m k)) ∧ Below w.heap.size w w_) (fun f _ => (m.ns.length - (intOf (f 7)).toNat)) ⟨0, n + 2, ab2, cb2, Nat.zero_le _, by omega, h4, (by rfl), Fx.ic, m36, m35, b16⟩ ?_)))))))
  rintro f3 w17 ⟨k, n, ao, co, hk, hn9, h7, h8, h9, m37, m38, b17⟩
  refine Ws (KWsl (KLh h9 (Lv ((pf g1 18)) (Kxf h7 18) (Lv (.slice na (m.ns.length) (nc)) (Kxl m37.cel 18) (KLq (Ki6 m.ns.length) ?_)))))
  by_cases c60 : (k : Int) < (m.ns.length : Int)
  ·refine Lv KbT (KltT c60) (KLe (KWcT (Wk (sN (Ws (Wb (KWsl (Lv ((pf g1 18)) (Kxf h7 18) (Lv (.slice na (m.ns.length) (nc)) (Kxl m37.cel 18) (KLh h9 ?_))))))))))
   obtain ⟨bq1, oq1, eq1, m39z⟩ := hn (by omega)
   have lbq1z : bq1 < w.heap.size := m39z.lt (by omega)
   have m39 := m39z.below b17 lbq1z
   have lbq1 : bq1 < w17.heap.size := m39.lt (by omega)
   refine Lv ((pf bq1 (56 * k + oq1))) (Kxi 56 (hx := (rfl.trans (congrArg (fun q => Value.slice q (m.ns.length) (nc)) eq1)))) (Lv (.agg (varr 56 (ndZ (ndA m.ns k)))) (KxA m39 (56 * k) (fun jq hjq => Fx.flat_at (k := k) (by omega) hjq)) (KLw 56 (fun i => (#[Ku6 0, Ku6 0, Ki6 0, Ki6 0, Ki6 0, Ki6 0, Ki6 0, Ki6 0, Ki6 0, Ki6 0, Ki6 0, Ki6 0, Ki6 0, Ki6 0, Ki6 0, Ki6 0, Ki6 0, Ki6 0, Ki6 0, Ki6 0, Ki6 0, Ki6 0, Ki6 0, Ki6 0, Ki6 0, Ki6 0, Ki6 0, Ki6 0, Ki6 0, Ki6 0, Ki6 0, Ki6 0, Ki6 0, Ki6 0, Ki6 0, Ki6 0, Ki6 0, Ki6 0, Ki6 0, Ki6 0, Ki6 0, Ki6 0, Ki6 0, Ki6 0, Ki6 0, Ki6 0, Ki6 0, Ki6 0, Ki6 0, Ki6 0, Ki6 0, Ki6 0, Ki6 0, Ki6 0, Ki6 0, Ki6 0] : Array Value).getD i undef) fun g7 w18 eg7 m40 s9 z7 => ?_))
   have ⟨m41, m42, m43, b18⟩ := KTk4 s9.old m37 m38 m39 b17
   have lg7 := KGk eg7 b17.size
   have ng7m41 := KNk1 eg7 m37.lt
   have ng7m43 : bq1 ≠ g7 := by rw [eg7]; exact Nat.ne_of_lt (m39.lt (by omega))
   have tg7 := m40.lt
   refine KLsA m40 0 (h1 := (fun j _ => ndZ_one _ j)) fun w19 m44 s10 z8 => ?_
   have m45 : Blk w19 g7 56 (ndZ (ndA m.ns k)) 50 := ovr_all m44
   have hct8 := cOs s10 m40.ty
   have ⟨m46, m47⟩ := KCk2 hct8 m41 m42
   have m48 := m43.stp s10 (by omega)
   have b19 := s10.below b18 b18.size (by omega)
   refine KLe (Ws ?_)
   -- region 22 draws
   refine Fx.W.reordR [0, 1, 4, 2, 5, 3, 6, 7] [0, 0, 4, 2, 0, 1, 2, 0] (Fx.ChX [5]) Fx.ChX.refl Fx.ChX.trans (certs := [(3, 2, [2]), (6, 2, [3, 2]), (6, 3, [3]), (7, 3, [3]), (7, 6, [6])]) (by kernel_rfl) (by kernel_rfl) (by kernel_rfl) (by kernel_rfl) (by kernel_rfl) fun wt1 hbwt1 hzwt1 => ?_
   have ⟨m49, m50, m52, b20⟩ := KTk4 hbwt1 m46 m47 m45 b19
   refine KRh h8 (KRq ((pt g7)) (KRq ((pf g7 1)) (Rs (Ku6 ((ndA m.ns k).id)) (Kxl m52.cel 0) ?_)))
   refine Rd (v := Ku6 ((ndA m.ns k).par)) (by rfl) (by rfl) (Fx.ChX.refl _) (fun v1 hv1 => x_load1 (x := ndZ (ndA m.ns k)) rfl rfl (by kernel_rfl) (m52.chX hv1 (by decide)).cel (i := 1) (by omega) (by omega) rfl) ?_
   refine KRk (KLc (r_word w.heap.size ao n co (P2 m k) ((ndA m.ns k).id) 8 _ b20.size (by decide) (u64_256 (hm.r.n _ (ndA_mem (by omega))).id) (by rw [P2_len m (by omega)]; omega) (by omega) m50) ?_)
   rintro e9 w20 ⟨ab3, cb3, he, hm3, hct9, hb4⟩
   refine ⟨_, he, ?_⟩
   clear he
   have ⟨m54, m55⟩ := KCk2 hct9 m49 m52
   have b21 := b20.trans hb4
   have m53 : Fx.Own w20 w.heap.size 5 1 (.slice ab3 (n + 8) (cb3)) (n + 8) (Fx.byY (P2 m k ++ be 8 ((ndA m.ns k).id))) := hm3
   refine Ln ⟨(Fx.ChX.of_chT hct9), ?_⟩
   refine KRk (KLc (r_word w.heap.size ab3 (n + 8) cb3 (P2 m k ++ be 8 ((ndA m.ns k).id)) ((ndA m.ns k).par) 8 _ b21.size (by decide) (u64_256 (hm.r.n _ (ndA_mem (by omega))).par) (by rw [List.length_append, P2_len m (by omega), be_len]; omega) (by omega) m53) ?_)
   rintro e9 w21 ⟨ab4, cb4, he, hm4, hct10, hb5⟩
   refine ⟨_, he, ?_⟩
   clear he
   have ⟨m57, m58⟩ := KCk2 hct10 m54 m55
   have b22 := b21.trans hb5
   have m56 : Fx.Own w21 w.heap.size 5 1 (.slice ab4 (n + 16) (cb4)) (n + 16) (Fx.byY (P3 m k 0)) := by have q9 := hm4; rw [P3_w] at q9; exact q9
   refine Ln ⟨(Fx.ChX.of_chT hct10), ?_⟩
   refine KRq (.slice ab4 (n + 16) (cb4)) (KRend (KWsl (KLq ((pf g7 2)) (KLq ((pf g7 2)) (Lv (.agg (varr 6 (rv .i64 (fun j => (ndA m.ns k).R (0 + j))))) (KxA m58.cel 2 (fun j hj => by rw [show 2 + j = 0 + j + 2 by omega]; exact ndZ_R _ _)) (KLq ((pf g7 2)) (KLq ((pf g7 8)) (Lv (.agg (varr 6 (rv .i64 (fun j => (ndA m.ns k).R (6 + j))))) (KxA m58.cel 8 (fun j hj => by rw [show 8 + j = 6 + j + 2 by omega]; exact ndZ_R _ _)) (KLq ((pf g7 2)) (KLq ((pf g7 14)) (Lv (.agg (varr 6 (rv .i64 (fun j => (ndA m.ns k).R (12 + j))))) (KxA m58.cel 14 (fun j hj => by rw [show 14 + j = 12 + j + 2 by omega]; exact ndZ_R _ _)) (Lbs (vs := [(0, .agg (varr 6 (rv .i64 (fun j => (ndA m.ns k).R (0 + j))))), (1, .agg (varr 6 (rv .i64 (fun j => (ndA m.ns k).R (6 + j))))), (2, .agg (varr 6 (rv .i64 (fun j => (ndA m.ns k).R (12 + j)))))]) (s := 6) (zc := rv .i64 (fun _ => 0)) (y := ovr (ovr (ovr (fun j => (rv .i64 (fun _ => 0)) (j % 6)) (0 * 6) 6 (rv .i64 (fun j => (ndA m.ns k).R (0 + j)))) (1 * 6) 6 (rv .i64 (fun j => (ndA m.ns k).R (6 + j)))) (2 * 6) 6 (rv .i64 (fun j => (ndA m.ns k).R (12 + j)))) (by rfl) rfl rfl Try.underlying98 (by kernel_rfl) (by rfl) (by rfl) (by kernel_rfl) (by rw [fill_step (off := 0 * 6) (s := 6) (y := rv .i64 (fun j => (ndA m.ns k).R (0 + j))) rfl (cells_agg _ _) (by rfl)]; rw [fill_step (off := 1 * 6) (s := 6) (y := rv .i64 (fun j => (ndA m.ns k).R (6 + j))) rfl (cells_agg _ _) (by rfl)]; rw [fill_step (off := 2 * 6) (s := 6) (y := rv .i64 (fun j => (ndA m.ns k).R (12 + j))) rfl (cells_agg _ _) (by rfl)]; rfl) rfl fun g8 w22 eg8 m59 s12 z9 => ?_))))))))))))
   have ⟨m60, m61, m62, b23⟩ := KTk4 s12.old m57 m58 m56 b22
   have lg8 := KGk eg8 b22.size
   have ⟨ng8m60, ng8m61⟩ := KNk2 eg8 m57.lt m58.lt
   have tg8 := m59.lt
   refine KLq (Ksl g8 3 3) (KLe (Ws (Ws ?_)))
   have m63 : Fx.Own w22 w.heap.size 45 6 (Ksl g8 3 3) 3 (rv .i64 (ndA m.ns k).R) := Fx.Blk.own (cap := 3) m59 lg8 (by omega) (by decide) rows3
   refine Wl (KLq (Ki6 0) (KLe (Wb (Wo (fun f w_ => ∃ i : Nat, ∃ ro : Option Addr, ∃ rc : Nat, i ≤ 6 ∧ f 1 = (pt g1) ∧ f 3 = .slice ab4 (n + 16) (cb4) ∧ f 7 = Ki6 ((k : Int)) ∧ f 8 = (pt g7) ∧ f 9 = .slice ro (i + 3) (rc) ∧ f 10 = Ki6 ((i : Int)) ∧ Blk w_ g1 20 (stY (stS m na nc ga gc)) 29 ∧ Blk w_ g7 56 (ndZ (ndA m.ns k)) 50 ∧ Fx.Own w_ w.heap.size 5 1 (.slice ab4 (n + 16) (cb4)) (n + 16) (Fx.byY (P3 m k 0)) ∧ Fx.Own w_ w.heap.size 45 6 (.slice ro (i + 3) (rc)) (i + 3) (rv .i64 (ndA m.ns k).R) ∧ Below w.heap.size w w_) (fun f _ => (6 - (intOf (f 10)).toNat)) ⟨0, (some ⟨g8, 0, none⟩), 3, by omega, h7, (by rfl), (h9.trans Fx.ic), (by rfl), (by rfl), Fx.ic, m60, m61, m62, m63, b23⟩ ?_))))
   rintro f4 w23 ⟨i, ro, rc, hi, h10, h11, h12, h13, h14, h15, m64, m65, m66, m67, b24⟩
   refine Ws (KWsl (KLh h15 ?_))
   by_cases c86 : (i : Int) < 6
   ·refine Lv KbT (KltT c86) (KLe (KWcT (Wk (sN (Ws (Wb (Wl (KLh h14 (KLh h15 (Lv ((pf g7 2)) (Kxf h13 2) (KLq ((pf g7 20)) (Lv ((pf g7 (6 * i + 20))) (Kxj 6 6) (Lv (.agg (varr 6 (rv .i64 (fun j => (ndA m.ns k).R (6 * i + 18 + j))))) (KxA m65.cel (6 * i + 20) (fun j hj => by rw [show 6 * i + 20 + j = 6 * i + 18 + j + 2 by omega]; exact ndZ_R _ _)) (Lbs (vs := [(0, .agg (varr 6 (rv .i64 (fun j => (ndA m.ns k).R (6 * i + 18 + j)))))]) (s := 6) (zc := rv .i64 (fun _ => 0)) (y := ovr (fun j => (rv .i64 (fun _ => 0)) (j % 6)) (0 * 6) 6 (rv .i64 (fun j => (ndA m.ns k).R (6 * i + 18 + j)))) (by rfl) rfl rfl Try.underlying98 (by kernel_rfl) (by rfl) (by rfl) (by kernel_rfl) (by rw [fill_step (off := 0 * 6) (s := 6) (y := rv .i64 (fun j => (ndA m.ns k).R (6 * i + 18 + j))) rfl (cells_agg _ _) (by rfl)]; rfl) rfl fun g9 w24 eg9 m68 s13 z10 => ?_))))))))))))))
    have ⟨m69, m70, m71, m72, b25⟩ := KTk5 s13.old m64 m65 m66 m67 b24
    have lg9 := KGk eg9 b24.size
    have ⟨ng9m69, ng9m70⟩ := KNk2 eg9 m64.lt m65.lt
    have ng9m72 : (.slice ro (i + 3) (rc) : Value).ownBlock ≠ some g9 := by rw [eg9]; exact m67.notNew (Nat.le_refl _)
    have tg9 := m68.lt
    refine Lap (B := w.heap.size) (s := 6) (bytes := 48) (k := i + 3) (m := 1) (v := .slice ro (i + 3) (rc)) (x := rv .i64 (ndA m.ns k).R) (by rfl) rfl rfl rfl Try.underlying98 (by kernel_rfl) (by kernel_rfl) rfl rfl m72 m68.cel (fun j hj => by unfold ovr; rw [if_pos ⟨by omega, by omega⟩]; rfl) (by omega) (by omega) (by omega) b25.size fun g10 cap5 w25 ho5 hg1 hgv1 hlt1 => ?_
    have hct11 := cOg hg1 m72
    have ⟨m74, m75, m76⟩ := KCk3 hct11 m69 m70 m71
    have m73 : Fx.Own w25 w.heap.size 45 6 (Ksl g10 (i + 4) cap5) (i + 4) (rv .i64 (ndA m.ns k).R) := (ho5.congr rowsY_app)
    have b26 : Below w.heap.size w w25 := bGr b25 hg1 b25.size (fun q hq => (m72.ge hq).1)
    refine KLq (Ksl g10 (i + 4) cap5) (Ln (blkN (sN (Wl (KLh h15 (Lv (Ki6 ((i : Int) + 1)) KxP (KLq (Ki6 ((i : Int) + 1)) (Ln ?_))))))))
    skip
    refine lpN ⟨i + 1, (some ⟨g10, 0, none⟩), cap5, by omega, h10, h11, (h12.trans Fx.ic), h13, (by rfl), Fx.ic, m74, m75, m76, m73, b26⟩ ?_
    show (6 - (intOf ((Ki6 ((i : Int) + 1)))).toNat) < _
    simp only [h15, intOf]; omega
   refine Lv KbF (KltF c86) (KLe (KWcF (Wx (seqX (lpX (blkX (sN (Ws ?_))))))))
   have m77 : Fx.Own w23 w.heap.size 45 6 (.slice ro (9) (rc)) 9 (rv .i64 (ndA m.ns k).R) := by have q9 := m67; rw [show i + 3 = 9 by omega] at q9; exact q9
   refine Wl (KLq (Ki6 0) (KLe (Wb (Wo (fun f w_ => ∃ q : Nat, ∃ n2 : Nat, ∃ ao2 : Option Addr, ∃ co2 : Nat, q ≤ 9 ∧ n2 = 76 + 448 * k + 48 * q ∧ f 1 = (pt g1) ∧ f 7 = Ki6 ((k : Int)) ∧ f 8 = (pt g7) ∧ f 9 = .slice ro (9) (rc) ∧ f 3 = .slice ao2 (n2) (co2) ∧ f 11 = Ki6 ((q : Int)) ∧ Blk w_ g1 20 (stY (stS m na nc ga gc)) 29 ∧ Blk w_ g7 56 (ndZ (ndA m.ns k)) 50 ∧ Fx.Own w_ w.heap.size 5 1 (.slice ao2 (n2) (co2)) n2 (Fx.byY (P3 m k q)) ∧ Fx.Own w_ w.heap.size 45 6 (.slice ro (9) (rc)) 9 (rv .i64 (ndA m.ns k).R) ∧ Below w.heap.size w w_) (fun f _ => (9 - (intOf (f 11)).toNat)) ⟨0, n + 16, ab4, cb4, by omega, by omega, h10, (h12.trans Fx.ic), h13, (h14.trans (congrArg (fun q => Value.slice ro q rc) (show i + 3 = 9 by omega))), h11, Fx.ic, m64, m65, m66, m77, b24⟩ ?_))))
   rintro f5 w26 ⟨q, n2, ao2, co2, hq, hn2, h16, h17, h18, h19, h20, h21, m78, m79, m80, m81, b27⟩
   refine Ws (KWsl (KLh h21 (KLh h19 (KLq (Ki6 9) ?_))))
   by_cases c100 : (q : Int) < 9
   ·refine Lv KbT (KltT c100) (KLe (KWcT (Wk (sN (Ws (Wb (Ws ?_)))))))
    have m82 : Fx.Own w26 w.heap.size 5 1 (.slice ao2 (n2) (co2)) n2 (Fx.byY (PJ m k q 0)) := by have q9 := m80; rw [PJ_0] at q9; exact q9
    refine Wl (KLq (Ki6 0) (KLe (Wb (Wo (fun f w_ => ∃ j : Nat, ∃ n3 : Nat, ∃ ao3 : Option Addr, ∃ co3 : Nat, j ≤ 6 ∧ n3 = 76 + 448 * k + 48 * q + 8 * j ∧ f 1 = (pt g1) ∧ f 7 = Ki6 ((k : Int)) ∧ f 8 = (pt g7) ∧ f 9 = .slice ro (9) (rc) ∧ f 11 = Ki6 ((q : Int)) ∧ f 3 = .slice ao3 (n3) (co3) ∧ f 12 = Ki6 ((j : Int)) ∧ Blk w_ g1 20 (stY (stS m na nc ga gc)) 29 ∧ Blk w_ g7 56 (ndZ (ndA m.ns k)) 50 ∧ Fx.Own w_ w.heap.size 5 1 (.slice ao3 (n3) (co3)) n3 (Fx.byY (PJ m k q j)) ∧ Fx.Own w_ w.heap.size 45 6 (.slice ro (9) (rc)) 9 (rv .i64 (ndA m.ns k).R) ∧ Below w.heap.size w w_) (fun f _ => (6 - (intOf (f 12)).toNat)) ⟨0, n2, ao2, co2, by omega, by omega, h16, (h17.trans Fx.ic), h18, h19, (h21.trans Fx.ic), h20, Fx.ic, m78, m79, m82, m81, b27⟩ ?_))))
    rintro f6 w27 ⟨j, n3, ao3, co3, hj, hn3, h22, h23, h24, h25, h26, h27, h28, m83, m84, m85, m86, b28⟩
    refine Ws (KWsl (KLh h28 ?_))
    by_cases c104 : (j : Int) < 6
    ·refine Lv KbT (KltT c104) (KLe (KWcT (Wk (sN (Ws (Wb ?_))))))
     have hRj := may_ent (hM.nd k (by omega)).2.1 (j + 6 * q) (by omega)
     refine Wl (KLh h27 (KLh h25 (KLh h26 (KLh h28 ?_))))
     obtain ⟨gq1, eq2⟩ := m86.addr (by omega)
     have m87 : Fx.Own w27 w.heap.size 45 6 (Ksl gq1 9 rc) 9 (rv .i64 (ndA m.ns k).R) := m86.congV (congrArg (fun q => Value.slice q 9 rc) eq2)
     refine Lv ((pf gq1 (6 * q))) (Kxi 6 (hx := (rfl.trans (congrArg (fun q => Value.slice q (9) (rc)) eq2)))) (Lv ((pf gq1 (j + 6 * q))) (Kxj 6 1) (Lv (Ki6 (((ndA m.ns k).R) (j + 6 * q))) (Kxl m87.cel (j + 6 * q)) (Lv (Ku6 (((ndA m.ns k).R) (j + 6 * q))) (x_conv rfl rfl (by kernel_rfl) Try.underlying23 (u64e (by omega) rfl)) (KLc (r_word w.heap.size ao3 n3 co3 (PJ m k q j) (((ndA m.ns k).R) (j + 6 * q)) 8 _ b28.size (by decide) (u64_256 ⟨hRj.1, by omega⟩) (by rw [PJ_len m (by omega)]; omega) (by omega) m85) ?_))))
     rintro e9 w28 ⟨ab5, cb5, he, hm5, hct12, hb6⟩
     refine ⟨_, he, ?_⟩
     clear he
     have m89 : Fx.Own w27 w.heap.size 45 6 (.slice ro (9) (rc)) 9 (rv .i64 (ndA m.ns k).R) := m87.congV (congrArg (fun q => Value.slice q 9 rc) eq2.symm)
     have ⟨m90, m91, m92⟩ := KCk3 hct12 m83 m84 m89
     have b29 := b28.trans hb6
     have m88 : Fx.Own w28 w.heap.size 5 1 (.slice ab5 (n3 + 8) (cb5)) (n3 + 8) (Fx.byY (PJ m k q (j + 1))) := by have q9 := hm5; rw [PJ_s] at q9; exact q9
     refine KLq (.slice ab5 (n3 + 8) (cb5)) (Ln (blkN (sN (Wl (KLh h28 (Lv (Ki6 ((j : Int) + 1)) KxP (KLq (Ki6 ((j : Int) + 1)) (Ln (lpN ⟨j + 1, n3 + 8, ab5, cb5, by omega, by omega, h22, (h23.trans Fx.ic), h24, h25, (h26.trans Fx.ic), (by rfl), Fx.ic, m90, m91, m88, m92, b29⟩ ?_)))))))))
     show (6 - (intOf ((Ki6 ((j : Int) + 1)))).toNat) < _
     simp only [h28, intOf]; omega
    refine Lv KbF (KltF c104) (KLe (KWcF (Wx (seqX (lpX (blkX (blkN (sN ?_))))))))
    have m93 : Fx.Own w27 w.heap.size 5 1 (.slice ao3 (n3) (co3)) n3 (Fx.byY (P3 m k (q + 1))) := by have q9 := m85; rw [show j = 6 by omega, PJ_6] at q9; exact q9
    refine Wl (KLh h26 (Lv (Ki6 ((q : Int) + 1)) KxP (KLq (Ki6 ((q : Int) + 1)) (Ln (lpN ⟨q + 1, n3, ao3, co3, by omega, by omega, h22, (h23.trans Fx.ic), h24, h25, h27, Fx.ic, m83, m84, m93, m86, b28⟩ ?_)))))
    show (9 - (intOf ((Ki6 ((q : Int) + 1)))).toNat) < _
    simp only [h21, intOf]; omega
   refine Lv KbF (KltF c100) (KLe (KWcF (Wx (seqX (lpX (blkX (blkN (sN ?_))))))))
   have m94 : Fx.Own w26 w.heap.size 5 1 (.slice ao2 (n2) (co2)) n2 (Fx.byY (P2 m (k + 1))) := by have q9 := m80; rw [show q = 9 by omega, P3_9 m (by omega)] at q9; exact q9
   refine Wl (KLh h17 (Lv (Ki6 ((k : Int) + 1)) KxP (KLq (Ki6 ((k : Int) + 1)) (Ln (lpN ⟨k + 1, n2, ao2, co2, by omega, by omega, h16, h20, Fx.ic, m78, m94, b27⟩ ?_)))))
   show (m.ns.length - (intOf ((Ki6 ((k : Int) + 1)))).toNat) < _
   simp only [h9, intOf]; omega
  refine Lv KbF (KltF c60) (KLe (KWcF (Wx (seqX (lpX (blkX (sN (Ws ?_))))))))
  have m95 : Fx.Own w17 w.heap.size 5 1 (.slice ao (n) (co)) n (Fx.byY (P2 m m.ns.length)) := by have q9 := m38; rw [show k = m.ns.length by omega] at q9; exact q9
  refine Wl (KLh h8 (Lv ((pf g1 19)) (Kxf h7 19) (Lv (.slice ga (m.gs.length) (gc)) (Kxl m37.cel 19) (KLq (Ki6 m.gs.length) (Lv (Ku6 m.gs.length) (x_conv rfl rfl (by kernel_rfl) Try.underlying23 (u64e (by omega) rfl)) (KLc (r_word w.heap.size ao n co (P2 m m.ns.length) (m.gs.length : Int) 2 _ b17.size (by decide) ⟨by omega, by rw [show (256 : Int) ^ 2 = 65536 by decide]; omega⟩ (by rw [P2_len m (by omega)]; omega) (by omega) m95) ?_))))))
  rintro e9 w29 ⟨ab6, cb6, he, hm6, hct13, hb7⟩
  refine ⟨_, he, ?_⟩
  clear he
  have m97 := KCk1 hct13 m37
  have b30 := b17.trans hb7
  have m96 : Fx.Own w29 w.heap.size 5 1 (.slice ab6 (n + 2) (cb6)) (n + 2) (Fx.byY (P4 m 0)) := by have q9 := hm6; rw [P4_0] at q9; exact q9
  refine KLq (.slice ab6 (n + 2) (cb6)) (KLe (Ws (KWsl (KLq (Ki6 0) (KLe (Wb (Wo (fun f w_ => ∃ k : Nat, ∃ n : Nat, ∃ ao : Option Addr, ∃ co : Nat, k ≤ m.gs.length ∧ n = 62 + 448 * m.ns.length + 33 * k ∧ f 1 = (pt g1) ∧ f 3 = .slice ao (n) (co) ∧ f 13 = Ki6 ((k : Int)) ∧ Blk w_ g1 20 (stY (stS m na nc ga gc)) 29 ∧ Fx.Own w_ w.heap.size 5 1 (.slice ao (n) (co)) n (Fx.byY (P4 m k)) ∧ Below w.heap.size w w_) (fun f _ => (m.gs.length - (intOf (f 13)).toNat)) ⟨0, n + 2, ab6, cb6, Nat.zero_le _, by omega, h7, (by rfl), Fx.ic, m97, m96, b30⟩ ?_)))))))
  rintro f7 w30 ⟨k, n, ao, co, hk, hn9, h29, h30, h31, m98, m99, b31⟩
  refine Ws (KWsl (KLh h31 (Lv ((pf g1 19)) (Kxf h29 19) (Lv (.slice ga (m.gs.length) (gc)) (Kxl m98.cel 19) (KLq (Ki6 m.gs.length) ?_)))))
  by_cases c126 : (k : Int) < (m.gs.length : Int)
  ·refine Lv KbT (KltT c126) (KLe (KWcT (Wk (sN (Ws (Wb (KWsl (Lv ((pf g1 19)) (Kxf h29 19) (Lv (.slice ga (m.gs.length) (gc)) (Kxl m98.cel 19) (KLh h31 ?_))))))))))
   obtain ⟨bq2, oq2, eq3, m100z⟩ := hg (by omega)
   have lbq2z : bq2 < w.heap.size := m100z.lt (by omega)
   have m100 := m100z.below b31 lbq2z
   have lbq2 : bq2 < w30.heap.size := m100.lt (by omega)
   refine Lv ((pf bq2 (5 * k + oq2))) (Kxi 5 (hx := (rfl.trans (congrArg (fun q => Value.slice q (m.gs.length) (gc)) eq3)))) (Lv (.agg (varr 5 (grZ (grA m.gs k)))) (KxA m100 (5 * k) (fun jq hjq => Fx.flat_at (k := k) (by omega) hjq)) (KLw 5 (fun i => (#[Ki6 0, Ku6 0, Ku6 0, Ki6 0, Ku6 0] : Array Value).getD i undef) fun g11 w31 eg11 m101 s14 z11 => ?_))
   have ⟨m102, m103, m104, b32⟩ := KTk4 s14.old m98 m99 m100 b31
   have lg11 := KGk eg11 b31.size
   have ng11m102 := KNk1 eg11 m98.lt
   have ng11m104 : bq2 ≠ g11 := by rw [eg11]; exact Nat.ne_of_lt (m100.lt (by omega))
   have tg11 := m101.lt
   refine KLsA m101 0 (h1 := (fun j _ => grZ_one _ j)) fun w32 m105 s15 z12 => ?_
   have m106 : Blk w32 g11 5 (grZ (grA m.gs k)) 59 := ovr_all m105
   have hct14 := cOs s15 m101.ty
   have ⟨m107, m108⟩ := KCk2 hct14 m102 m103
   have m109 := m104.stp s15 (by omega)
   have b33 := s15.below b32 b32.size (by omega)
   refine KLe (Ws ?_)
   have go9 := (hM.gd k (by omega)).1
   refine Wl (KLh h30 (KLq ((pt g11)) (Lv (Ki6 ((grA m.gs k).o)) (Kxl m106.cel 0) (Lv (.int .u8 (((byI (grA m.gs k).o).toNat : Int))) (x_conv rfl rfl (by kernel_rfl) Try.underlying5 (by_o (by omega))) (Lbs (vs := [(0, .int .u8 (((byI (grA m.gs k).o).toNat : Int)))]) (s := 1) (zc := rv .u8 (fun _ => 0)) (y := ovr (fun j => (rv .u8 (fun _ => 0)) (j % 1)) (0 * 1) 1 (fun _ => .int .u8 (((byI (grA m.gs k).o).toNat : Int)))) (by rfl) rfl rfl Try.underlying30 (by kernel_rfl) (by rfl) (by rfl) (by kernel_rfl) (by rw [fill_step (off := 0 * 1) (s := 1) (y := fun _ => .int .u8 (((byI (grA m.gs k).o).toNat : Int))) rfl (cells_one (by rfl)) (by rfl)]; rfl) rfl fun g12 w33 eg12 m110 s16 z13 => ?_)))))
   have ⟨m111, m112, m114, b34⟩ := KTk4 s16.old m107 m108 m106 b33
   have lg12 := KGk eg12 b33.size
   have ng12m111 := KNk1 eg12 m107.lt
   have ng12m112 : (.slice ao (n) (co) : Value).ownBlock ≠ some g12 := by rw [eg12]; exact m108.notNew (Nat.le_refl _)
   have ng12m113 : bq2 ≠ g12 := by rw [eg12]; exact Nat.ne_of_lt (m109.lt (by omega))
   have ng12m114 := KNk1 eg12 m106.lt
   have tg12 := m110.lt
   refine Lap (B := w.heap.size) (s := 1) (bytes := 1) (k := n) (m := 1) (v := .slice ao (n) (co)) (x := Fx.byY (P4 m k)) (by rfl) rfl rfl rfl Try.underlying30 (by kernel_rfl) (by kernel_rfl) rfl rfl m112 m110.cel (fun j hj => by unfold ovr; rw [if_pos ⟨by omega, by omega⟩]; rfl) (by omega) (by omega) (by omega) b34.size fun g13 cap6 w34 ho6 hg2 hgv2 hlt2 => ?_
   have hct15 := cOg hg2 m112
   have ⟨m116, m118⟩ := KCk2 hct15 m111 m114
   have m115 : Fx.Own w34 w.heap.size 5 1 (Ksl g13 (n + 1) cap6) (n + 1) (Fx.byY (P4 m k ++ [byI (grA m.gs k).o])) := (ho6.congr (byY_app1 (by rw [P4_len m (by omega)]; omega)))
   have b35 : Below w.heap.size w w34 := bGr b34 hg2 b34.size (fun q hq => (m112.ge hq).1)
   refine KLq (Ksl g13 (n + 1) cap6) (KLe ?_)
   obtain ⟨go1, go2, go3, go4, go5, go6, go7⟩ := hM.gd k (by omega)
   -- region 41 draws
   refine Fx.W.reordR [0, 1, 4, 7, 11, 2, 5, 8, 9, 12, 3, 6, 10, 13, 14] [0, 0, 4, 2, 0, 1, 2, 0, 1, 0, 2, 0, 1, 2, 0] (Fx.ChX [5]) Fx.ChX.refl Fx.ChX.trans (certs := [(3, 2, [2]), (6, 2, [3, 2]), (10, 2, [6, 3, 2]), (13, 2, [10, 6, 3, 2]), (6, 3, [3]), (10, 3, [6, 3]), (13, 3, [10, 6, 3]), (14, 3, [3]), (10, 6, [6]), (13, 6, [10, 6]), (14, 6, [6]), (13, 10, [10]), (14, 10, [10]), (14, 13, [13])]) (by kernel_rfl) (by kernel_rfl) (by kernel_rfl) (by kernel_rfl) (by kernel_rfl) fun wt2 hbwt2 hzwt2 => ?_
   have ⟨m119, m121, m122, b36⟩ := KTk4 hbwt2 m116 m118 m115 b35
   refine KRq (Ksl g13 (n + 1) cap6) (KRq ((pf g11 1)) (KRq ((pf g11 2)) (KRq ((pf g11 3)) (KRq ((pf g11 4)) (Rs (Ku6 ((grA m.gs k).r)) (Kxl m121.cel 1) ?_)))))
   refine Rd (v := Ku6 ((grA m.gs k).n)) (by rfl) (by rfl) (Fx.ChX.refl _) (fun v1 hv1 => x_load1 (x := grZ (grA m.gs k)) rfl rfl (by kernel_rfl) (m121.chX hv1 (by decide)).cel (i := 2) (by omega) (by omega) rfl) ?_
   refine Rd (v := Ki6 ((grA m.gs k).a)) (by rfl) (by rfl) (Fx.ChX.refl _) (fun v1 hv1 => x_load1 (x := grZ (grA m.gs k)) rfl rfl (by kernel_rfl) (m121.chX hv1 (by decide)).cel (i := 3) (by omega) (by omega) rfl) ?_
   refine Rp (Ku6 ((grA m.gs k).a)) (fun v1 => x_conv rfl rfl (by kernel_rfl) Try.underlying23 (u64e (by omega) rfl)) (Rd (v := Ku6 ((grA m.gs k).b)) (by rfl) (by rfl) (Fx.ChX.refl _) (fun v1 hv1 => x_load1 (x := grZ (grA m.gs k)) rfl rfl (by kernel_rfl) (m121.chX hv1 (by decide)).cel (i := 4) (by omega) (by omega) rfl) ?_)
   refine KRk (KLc (r_word w.heap.size (some ⟨g13, 0, none⟩) (n + 1) cap6 (P4 m k ++ [byI (grA m.gs k).o]) ((grA m.gs k).r) 8 _ b36.size (by decide) (u64_256 (hm.r.g _ (grA_mem (by omega))).r) (by simp only [List.length_append, P4_len m (show k ≤ m.gs.length by omega), be_len, List.length_cons, List.length_nil]; omega) (by omega) m122) ?_)
   rintro e9 w35 ⟨ab7, cb7, he, hm7, hct16, hb8⟩
   refine ⟨_, he, ?_⟩
   clear he
   have m124 := KCk1 hct16 m119
   have b37 := b36.trans hb8
   have m123 : Fx.Own w35 w.heap.size 5 1 (.slice ab7 (n + 9) (cb7)) (n + 9) (Fx.byY (P4 m k ++ [byI (grA m.gs k).o] ++ be 8 ((grA m.gs k).r))) := hm7
   refine Ln ⟨(Fx.ChX.of_chT hct16), ?_⟩
   refine KRk (KLc (r_word w.heap.size ab7 (n + 9) cb7 (P4 m k ++ [byI (grA m.gs k).o] ++ be 8 ((grA m.gs k).r)) ((grA m.gs k).n) 8 _ b37.size (by decide) (u64_256 (hm.r.g _ (grA_mem (by omega))).n) (by simp only [List.length_append, P4_len m (show k ≤ m.gs.length by omega), be_len, List.length_cons, List.length_nil]; omega) (by omega) m123) ?_)
   rintro e9 w36 ⟨ab8, cb8, he, hm8, hct17, hb9⟩
   refine ⟨_, he, ?_⟩
   clear he
   have m127 := KCk1 hct17 m124
   have b38 := b37.trans hb9
   have m126 : Fx.Own w36 w.heap.size 5 1 (.slice ab8 (n + 17) (cb8)) (n + 17) (Fx.byY (P4 m k ++ [byI (grA m.gs k).o] ++ be 8 ((grA m.gs k).r) ++ be 8 ((grA m.gs k).n))) := hm8
   refine Ln ⟨(Fx.ChX.of_chT hct17), ?_⟩
   refine KRk (KLc (r_word w.heap.size ab8 (n + 17) cb8 (P4 m k ++ [byI (grA m.gs k).o] ++ be 8 ((grA m.gs k).r) ++ be 8 ((grA m.gs k).n)) ((grA m.gs k).a) 8 _ b38.size (by decide) (u64_256 ⟨by omega, by omega⟩) (by simp only [List.length_append, P4_len m (show k ≤ m.gs.length by omega), be_len, List.length_cons, List.length_nil]; omega) (by omega) m126) ?_)
   rintro e9 w37 ⟨ab9, cb9, he, hm9, hct18, hb10⟩
   refine ⟨_, he, ?_⟩
   clear he
   have m130 := KCk1 hct18 m127
   have b39 := b38.trans hb10
   have m129 : Fx.Own w37 w.heap.size 5 1 (.slice ab9 (n + 25) (cb9)) (n + 25) (Fx.byY (P4 m k ++ [byI (grA m.gs k).o] ++ be 8 ((grA m.gs k).r) ++ be 8 ((grA m.gs k).n) ++ be 8 ((grA m.gs k).a))) := hm9
   refine Ln ⟨(Fx.ChX.of_chT hct18), ?_⟩
   refine KRk (KLc (r_word w.heap.size ab9 (n + 25) cb9 (P4 m k ++ [byI (grA m.gs k).o] ++ be 8 ((grA m.gs k).r) ++ be 8 ((grA m.gs k).n) ++ be 8 ((grA m.gs k).a)) ((grA m.gs k).b) 8 _ b39.size (by decide) (u64_256 (hm.r.g _ (grA_mem (by omega))).b) (by simp only [List.length_append, P4_len m (show k ≤ m.gs.length by omega), be_len, List.length_cons, List.length_nil]; omega) (by omega) m129) ?_)
   rintro e9 w38 ⟨ab10, cb10, he, hm10, hct19, hb11⟩
   refine ⟨_, he, ?_⟩
   clear he
   have m133 := KCk1 hct19 m130
   have b40 := b39.trans hb11
   have m132 : Fx.Own w38 w.heap.size 5 1 (.slice ab10 (n + 33) (cb10)) (n + 33) (Fx.byY (P4 m (k + 1))) := by have q9 := hm10; rw [P4_w m (by omega)] at q9; exact q9
   refine Ln ⟨(Fx.ChX.of_chT hct19), ?_⟩
   refine KRq (.slice ab10 (n + 33) (cb10)) (Rn (blkN (sN (Wl (KLh h31 ?_)))))
   refine Lv (Ki6 ((k : Int) + 1)) KxP (KLq (Ki6 ((k : Int) + 1)) (Ln (lpN ⟨k + 1, n + 33, ab10, cb10, by omega, by omega, h29, (by rfl), Fx.ic, m133, m132, b40⟩ ?_)))
   show (m.gs.length - (intOf ((Ki6 ((k : Int) + 1)))).toNat) < _
   simp only [h31, intOf]; omega
  refine Lv KbF (KltF c126) (KLe (KWcF (Wx (seqX (lpX (blkX (sN (Ws ?_))))))))
  have m135 : Fx.Own w30 w.heap.size 5 1 (.slice ao (n) (co)) n (Fx.byY (bodyB m)) := by have q9 := m99; rw [show k = m.gs.length by omega, P4_e] at q9; exact q9
  have hcu : 0 ≤ Crc.I (Crc.sum (bodyB m)) ∧ Crc.I (Crc.sum (bodyB m)) < 4294967296 := by have q9 := crc_u (Crc.sum (bodyB m)); rwa [show (256 : Int) ^ 4 = 4294967296 by decide] at q9
  refine Wl (KLh h30 (KLh h30 (KLc1 (r_sum (a := ao) (n := n) (c := co) (by rw [body_len]; omega) (by omega) m135.arr) _ rfl ?_)))
  intro w39 hb12
  have ⟨m137, b41⟩ := KTk2 hb12 m135 b31
  refine Lv (Ku6 (Crc.I (Crc.sum (bodyB m)))) (x_conv rfl rfl (by kernel_rfl) Try.underlying23 (u64e (by omega) rfl)) (KLc (r_word w.heap.size ao n co (bodyB m) (Crc.I (Crc.sum (bodyB m))) 4 _ b41.size (by decide) (crc_u _) (by rw [body_len]; omega) (by omega) m137) ?_)
  rintro e9 w40 ⟨ab11, cb11, he, hm11, hct20, hb13⟩
  refine ⟨_, he, ?_⟩
  clear he
  have b42 := b41.trans hb13
  have m138 : Fx.Own w40 w.heap.size 5 1 (.slice ab11 (n + 4) (cb11)) (n + 4) (Fx.byY (bodyB m ++ be 4 (Crc.I (Crc.sum (bodyB m))))) := hm11
  refine KLq (.slice ab11 (n + 4) (cb11)) (KLe (Wr (Kret (.slice ab11 (n + 4) (cb11)) ?_)))
  rw [putB_y hM]; have l9 : (bytesB m).length = n + 4 := by rw [bytes_len]; omega
  exact ⟨ab11, cb11, by rw [l9], by rw [l9]; exact m138, b42⟩
 rw [Bool.not_eq_true] at c16
 refine KLc1 (r_may m na nc ga gc _ hm.l1 hm.l2 (hm.up b1).n (hm.up b1).g) KbF (by rw [c16]) ?_
 intro w41 hb14
 have b43 := KTk1 hb14 b1
 refine KLq KbT (KLe (KWcT (KWsl (KLq (.slice none 0 0) (KLe (Wr (sR (Kret (.slice none 0 0) ?_))))))))
 rw [putB_n c16]; exact ⟨none, 0, rfl, oNl _ _ _ _ _, b43⟩
set_option linter.unusedVariables false
namespace Rt
theorem grLt_irr (x : GrM) : ¬ grLt x x := by unfold grLt; omega
theorem same_self (a : SnM) : SameSn a a := ⟨fun _ _ => rfl, fun _ _ => rfl, fun _ _ => rfl, rfl, rfl, fun _ _ => ⟨rfl, rfl, fun _ _ => rfl⟩, fun _ _ => rfl⟩
end Rt
end Go.Proofs.Ytkajcjefckjijaa
