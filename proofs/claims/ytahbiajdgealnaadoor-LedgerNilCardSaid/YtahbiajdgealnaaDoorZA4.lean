/-
  What the proof of the law rests on, part 4: walks of functions, and plain laws; each says its conditions itself.
-/
import Derived.Laws.StructEq
import Derived.Test.YtahbiajdgealnaaDoorRows
import Derived.Test.YtahbiajdgealnaaDoorZA3
namespace Go.Proofs.YtahbiajdgealnaaDoor
open Go.RowKit Rt
open Fx (ah aj au ak aJ aA aO eZ av bF dI aK x_len dw bX dn bG Lv sN Ln Ws Qv Wl Rp Wc Qs Wr Sb Lk Wk rC rV sR)
section
namespace Rt
def pE(x:Nat->Int)(i n:Int):Int:=if decide (dM x i<n)then 11 else 0
def bf(x:Nat->Int)(i n:Int):(Nat->Int) × Int:=bJ x n (gN i) (pE x i n) (6+(i.toNat-1))
theorem zx(x:Nat->Int)(i:Int) : -(1125899906842624*8)<=dM x i/\dM x i<=1125899906842624*8:=by
 unfold dM
 split
 ·exact G9 x _
 omega
end Rt
attribute [local irreducible] Oper.wp wpList Code.wp in
set_option maxRecDepth 100000 in
set_option maxHeartbeats 1000000 in
theorem He(x:Nat->Int)(i n:Int)(g h hi:Nat)(w:World)(hn:1<=n/\n<=1125899906842624)(hib : -9223372036854775808<=i/\i<=9223372036854775807)(hx:Hid (w.heap[g]? = some (.cells (aF .i64 54 x) 82 (0,0))))(hc:w.cell? ⟨h,0,none⟩=some (.int .i64 n))(hci:w.cell? ⟨hi,0,none⟩=some (.int .i64 i)) :
 Calls Tryd.prog 172 #[.pointer (some ⟨h,0,none⟩),.pointer (some ⟨g,0,none⟩),.pointer (some ⟨hi,0,none⟩)] w fun e w'=>e = .returned (.int .i64 (pE x i n))/\Below w.heap.size w w':=by
 have HE:Hid (pE x i n=if decide (dM x i<n)then 11 else 0):=rfl
 have hb:=zx x i
 have hlh:=block_lt_of_cell hc
 have Hf:=block_lt_of_cell hci
 have LU:g<w.heap.size:=(Array.getElem?_eq_some_iff.1 hx.out).1
 dsimp only at hlh Hf
 have hB0:Below w.heap.size w w.drew:=Bn w 1
 have hs:Hid (∀ w',Calls Tryd.prog 30 #[.agg (aF .i64 54 x),.int .i64 i] w' fun e w''=>e = .returned (.int .i64 (dM x i))/\Below w'.heap.size w' w''):=fun w'=>nT x i w' hib
 generalize dM x i=s1 at *
 by_cases hd:s1<n
 ·rw[decide_eq_true hd,if_pos rfl]at HE
  go_enter Tryd.func172,Tryd.ntmps172
  go_upto_region 1 with (fail)
  rename_i K0 Bh
  refine wp_region_noPanic (wp_region_held_drew (S:=Below w.heap.size w) (by kernel_rfl) hB0 fun hS => ?_)
  refine wpAnyH_take (i:=0) (v := .int .i64 n) rfl (by kernel_rfl) (by kernel_rfl) (by kernel_rfl) (fun _ _ _ h=>h) (.inl ⟨by rfl,fun w' hw => ?_⟩) hS ?_
  ·have h2:=(hw.cell (p:=⟨h,0,none⟩) hlh).trans hc
   clear hw hc hci
   go_simp
  refine wpAnyH_take (i:=1) (v := .agg (aF .i64 54 x)) rfl (by kernel_rfl) (by kernel_rfl) (by kernel_rfl) (fun _ _ _ h=>h) (.inl ⟨by rfl,fun w' hw => ?_⟩) hS ?_
  ·exact fH 82 (.tmp 1) (by rfl) g (by rfl) 82 (aF .i64 54 x) (0,0) _ ((hw.block _ LU).trans hx.out) Tryd.underlying82 (by rfl) (by rw[aM]; exact fB)
  refine wpAnyH_take (i:=2) (v := .int .i64 i) rfl (by kernel_rfl) (by kernel_rfl) (by kernel_rfl) (fun _ _ _ h=>h) (.inl ⟨by rfl,fun w' hw => ?_⟩) hS ?_
  ·have h2:=(hw.cell (p:=⟨hi,0,none⟩) Hf).trans hci
   clear hw hc hci
   go_simp
  refine wpAnyH_all (rs := [3]) (by kernel_rfl) (by decide) ?_
  intro j hj
  obtain rfl:j=3:=by simpa using hj
  refine wpOp_step rfl (fun K hK => ?_)
  clear hj
  go_simp
  refine(hs.out _).mono ?_
  rintro e w1 ⟨rfl,hb1⟩
  have hS:=yS hS hb1
  refine hK _ _ ⟨hS,?_⟩
  clear hK K
  refine wpAnyH_take (i:=4) (v := .bool true) rfl (by kernel_rfl) (by kernel_rfl) (by kernel_rfl) (fun _ _ _ h=>h) (.inl ⟨by rfl,fun w' hw => ?_⟩) hS ?_
  ·clear hw hc hci
   go_simp
  refine wpAnyH_all (rs := [5]) (by kernel_rfl) (by decide) ?_
  intro j hj
  obtain rfl:j=5:=by simpa using hj
  refine wpOp_step rfl (fun K hK => ?_)
  clear hj
  go_simp
  refine(mW _ _ _).mono ?_
  rintro e w2 ⟨rfl,rfl⟩
  refine hK _ _ ⟨hS,?_⟩
  clear hK K
  refine wpAnyH_take (i:=6) (v := .int .i64 11) rfl (by kernel_rfl) (by kernel_rfl) (by kernel_rfl) (fun _ _ _ h=>h) (.inl ⟨by rfl,fun w' hw => ?_⟩) hS ?_
  ·clear hw hc hci
   go_simp
  refine wpAnyH_done (by kernel_rfl) ?_ _
  refine Bh _ _ ?_
  go_wp2
  go_ret
  rw[HE.out]
  exact⟨rfl,hS⟩
 rw[decide_eq_false hd,if_neg (by decide)]at HE
 go_enter Tryd.func172,Tryd.ntmps172
 go_upto_region 1 with (fail)
 rename_i K0 Bh
 refine wp_region_noPanic (wp_region_held_drew (S:=Below w.heap.size w) (by kernel_rfl) hB0 fun hS => ?_)
 refine wpAnyH_take (i:=0) (v := .int .i64 n) rfl (by kernel_rfl) (by kernel_rfl) (by kernel_rfl) (fun _ _ _ h=>h) (.inl ⟨by rfl,fun w' hw => ?_⟩) hS ?_
 ·have h2:=(hw.cell (p:=⟨h,0,none⟩) hlh).trans hc
  clear hw hc hci
  go_simp
 refine wpAnyH_take (i:=1) (v := .agg (aF .i64 54 x)) rfl (by kernel_rfl) (by kernel_rfl) (by kernel_rfl) (fun _ _ _ h=>h) (.inl ⟨by rfl,fun w' hw => ?_⟩) hS ?_
 ·exact fH 82 (.tmp 1) (by rfl) g (by rfl) 82 (aF .i64 54 x) (0,0) _ ((hw.block _ LU).trans hx.out) Tryd.underlying82 (by rfl) (by rw[aM]; exact fB)
 refine wpAnyH_take (i:=2) (v := .int .i64 i) rfl (by kernel_rfl) (by kernel_rfl) (by kernel_rfl) (fun _ _ _ h=>h) (.inl ⟨by rfl,fun w' hw => ?_⟩) hS ?_
 ·have h2:=(hw.cell (p:=⟨hi,0,none⟩) Hf).trans hci
  clear hw hc hci
  go_simp
 refine wpAnyH_all (rs := [3]) (by kernel_rfl) (by decide) ?_
 intro j hj
 obtain rfl:j=3:=by simpa using hj
 refine wpOp_step rfl (fun K hK => ?_)
 clear hj
 go_simp
 refine(hs.out _).mono ?_
 rintro e w1 ⟨rfl,hb1⟩
 have hS:=yS hS hb1
 refine hK _ _ ⟨hS,?_⟩
 clear hK K
 refine wpAnyH_take (i:=4) (v := .bool false) rfl (by kernel_rfl) (by kernel_rfl) (by kernel_rfl) (fun _ _ _ h=>h) (.inl ⟨by rfl,fun w' hw => ?_⟩) hS ?_
 ·clear hw hc hci
  go_simp
 refine wpAnyH_all (rs := [5]) (by kernel_rfl) (by decide) ?_
 intro j hj
 obtain rfl:j=5:=by simpa using hj
 refine wpOp_step rfl (fun K hK => ?_)
 clear hj
 go_simp
 refine(mW _ _ _).mono ?_
 rintro e w2 ⟨rfl,rfl⟩
 refine hK _ _ ⟨hS,?_⟩
 clear hK K
 refine wpAnyH_take (i:=6) (v := .int .i64 0) rfl (by kernel_rfl) (by kernel_rfl) (by kernel_rfl) (fun _ _ _ h=>h) (.inl ⟨by rfl,fun w' hw => ?_⟩) hS ?_
 ·clear hw hc hci
  go_simp
 refine wpAnyH_done (by kernel_rfl) ?_ _
 refine Bh _ _ ?_
 go_wp2
 go_ret
 rw[HE.out]
 exact⟨rfl,hS⟩
set_option maxHeartbeats 400000 in
theorem Hg(g h:Nat)(i:Int)(w:World)(hi:1<=i/\i<=6)(hc:w.cell? ⟨h,0,none⟩=some (.int .i64 i)) :
 Calls Tryd.prog 174 #[.pointer (some ⟨g,0,none⟩),.pointer (some ⟨h,0,none⟩)] w fun e w'=>e = .returned (.pointer (some ⟨g,6+(i.toNat-1),none⟩))/\Below w.heap.size w w':=by
 obtain⟨k,hk⟩:=Int.eq_ofNat_of_zero_le (show 0<=i-1 by omega)
 obtain rfl:i=(k:Int)+1:=by omega
 have Tz:(k:Int)<6:=by omega
 have HE:Hid (((k:Int)+1).toNat-1=k):=by unfold Hid; omega
 clear hk
 go_enter Tryd.func174,Tryd.ntmps174
 go_wp2_with fail
 go_quiet (fail)
 go_wp2
 go_ret
 rw[HE.out]
 exact⟨rfl,bN (Below.refl _ _) _⟩
theorem JL(args:Array Value)(w:World):(callFunc 172 args).run Tryd.prog w = .ok (.enter 172 args) w:=gP Tryd.func172 rfl rfl args w
theorem JM(args:Array Value)(w:World):(callFunc 174 args).run Tryd.prog w = .ok (.enter 174 args) w:=gP Tryd.func174 rfl rfl args w
attribute [local irreducible] Oper.wp wpList Code.wp
set_option maxRecDepth 100000 in
set_option maxHeartbeats 1000000 in
theorem JN(x:Nat->Int)(i n:Int)(w:World)(hi : -9223372036854775808<=i/\i<=9223372036854775807) :
 Calls Tryd.prog 159 #[.agg (aF .i64 54 x),.int .i64 i,.int .i64 n] w (FE (bf x i n) w):=by
 have hmf : ∀(fn:Fn) (first cap:Array Value) (w:World),(Instr.makeFunc fn first cap).run Tryd.prog w = .ok (.func fn first cap) w:=fun _ _ _ _=>rfl
 go_enter Tryd.func159,Tryd.ntmps159
 go_upto_region 1 with (fail)
 rename_i K0 Bh
 rw[<- jQ]
 have ha:=IJ w (.cells (aF .i64 54 x) 82) (.cells #[.int .i64 i] 3) (.cells #[.int .i64 n] 2) (.cells (aF .i64 54 zero) 82)
 generalize (((w.alloc (.cells (aF .i64 54 x) 82)).alloc (.cells #[.int .i64 i] 3)).alloc (.cells #[.int .i64 n] 2)).alloc (.cells (aF .i64 54 zero) 82)=W at *
 obtain⟨hx,hI,hN,hz,hs,hB⟩:=ha
 have cI:=kQ hI
 have cN:=kQ hN
 have Hx:Hid _:=hx
 have Hz:Hid _:=hz
 have HI:Hid _:=hI
 have HN:Hid _:=hN
 have Hs:Hid _:=hs
 clear hx hz hI hN hs
 refine wp_region_noPanic (wp_region_held_drew (S:=TA x w.heap.size i n) (by kernel_rfl) ⟨Hx.out,cI,cN⟩ fun hS => ?_)
 refine wpAnyH_take (i:=0) (v := .agg (aF .i64 54 x)) rfl (by kernel_rfl) (by kernel_rfl) (by kernel_rfl) (fun _ _ _ h=>h) (.inl ⟨by rfl,fun w' hw => ?_⟩) hS ?_
 ·exact fH 82 (.tmp 3) (by rfl) w.heap.size (by rfl) 82 (aF .i64 54 x) (0,0) _ hw.1 Tryd.underlying82 (by rfl) (by rw[aM]; exact fB)
 refine wpAnyH_take (i:=1) (v := .int .i64 n) rfl (by kernel_rfl) (by kernel_rfl) (by kernel_rfl) (fun _ _ _ h=>h) (.inl ⟨by rfl,fun w' hw => ?_⟩) hS ?_
 ·have h2:=hw.2.2
  go_simp
 refine wpAnyH_take (i:=2) (v := .int .i64 i) rfl (by kernel_rfl) (by kernel_rfl) (by kernel_rfl) (fun _ _ _ h=>h) (.inl ⟨by rfl,fun w' hw => ?_⟩) hS ?_
 ·have h2:=hw.2.1
  have h3:=hw.2.2
  clear hw
  go_simp
 refine wpAnyH_take (i:=4) (v := .func (.func 172) #[] #[.pointer (some ⟨w.heap.size+1+1,0,none⟩),.pointer (some ⟨w.heap.size,0,none⟩),.pointer (some ⟨w.heap.size+1,0,none⟩)]) rfl (by kernel_rfl) (by kernel_rfl) (by kernel_rfl) (fun _ _ _ h=>h) (.inl ⟨by rfl,fun w' hw => ?_⟩) hS ?_
 ·have h2:=hw.2.1
  have h3:=hw.2.2
  clear hw
  go_simp
 refine wpAnyH_take (i:=5) (v := .func (.func 174) #[] #[.pointer (some ⟨w.heap.size+1,0,none⟩)]) rfl (by kernel_rfl) (by kernel_rfl) (by kernel_rfl) (fun _ _ _ h=>h) (.inl ⟨by rfl,fun w' hw => ?_⟩) hS ?_
 ·have h2:=hw.2.1
  have h3:=hw.2.2
  clear hw
  go_simp
 refine wpAnyH_all (rs := [3]) (by kernel_rfl) (by decide) ?_
 intro j hj
 obtain rfl:j=3:=by simpa using hj
 refine wpOp_step rfl (fun K hK => ?_)
 clear hj
 go_simp
 refine(kW i _ hi).mono ?_
 rintro e w' ⟨rfl,rfl⟩
 refine hK _ _ ⟨hS,?_⟩
 clear hK K
 refine wpAnyH_all (rs := [6]) (by kernel_rfl) (by decide) ?_
 intro j hj
 obtain rfl:j=6:=by simpa using hj
 refine wpOp_step rfl (fun K hK => ?_)
 clear hj
 go_simp
 have hlx:w.heap.size<W.drew.heap.size:=(Array.getElem?_eq_some_iff.1 hS.1).1
 have MN:=block_lt_of_cell hS.2.1
 have Rx:=block_lt_of_cell hS.2.2
 dsimp only at MN Rx
 refine(nU x n (gN i) 172 174 _ _ (pE x i n) (6+(i.toNat-1)) W.drew ?o1 ?o2 JL JM ?o3 ?o4).mono ?_
 case o1=>intro h; have:=(jl i).1 h; omega
 case o2=>intro h hm; have:=(jl i).1 h; exact(nS hm (i.toNat-1) (by omega)).c
 case o3 =>
  intro hm h1 h2 h3 w' hb
  exact He x i n _ _ _ w' ⟨h1,h2⟩ hi ((hb.block _ hlx).trans hS.1) ((hb.cell (p:=⟨w.heap.size+1+1,0,none⟩) Rx).trans hS.2.2) ((hb.cell (p:=⟨w.heap.size+1,0,none⟩) MN).trans hS.2.1)
 case o4 =>
  intro h w' g hb
  exact Hg g _ i w' ((jl i).1 h) ((hb.cell (p:=⟨w.heap.size+1,0,none⟩) MN).trans hS.2.1)
 rintro e w2 ⟨rfl,hb2⟩
 have X5:Hid (bf x i n=bJ x n (gN i) (pE x i n) (6+(i.toNat-1))):=rfl
 generalize bJ x n (gN i) (pE x i n) (6+(i.toNat-1))=r at *
 have hS2:TA x w.heap.size i n w2:=⟨(hb2.block _ hlx).trans hS.1,(hb2.cell (p:=⟨w.heap.size+1,0,none⟩) MN).trans hS.2.1,(hb2.cell (p:=⟨w.heap.size+1+1,0,none⟩) Rx).trans hS.2.2⟩
 have hz2:Hid (w2.heap[w.heap.size+1+1+1]? = some (.cells (aF .i64 54 zero) 82 (0,0))):=(hb2.block _ (by show _<W.heap.size; have:=Hs.out; omega)).trans Hz.out
 have hB2:Below w.heap.size w w2:=hB.trans ((VX hb2).mono hB.size)
 refine hK _ _ ⟨hS2,?_⟩
 clear hK K hS hb2
 refine wpAnyH_take (i:=7) (v := .agg (aF .i64 54 r.1)) rfl (by kernel_rfl) (by kernel_rfl) (by kernel_rfl) (fun _ _ _ h=>h) (.inl ⟨by rfl,fun w' hw => ?_⟩) hS2 ?_
 ·clear hw
  go_simp
 refine wpAnyH_take (i:=8) (v := .int .i64 r.2) rfl (by kernel_rfl) (by kernel_rfl) (by kernel_rfl) (fun _ _ _ h=>h) (.inl ⟨by rfl,fun w' hw => ?_⟩) hS2 ?_
 ·clear hw
  go_simp
 refine wpAnyH_all (rs := [9]) (by kernel_rfl) (by decide) ?_
 intro j hj
 obtain rfl:j=9:=by simpa using hj
 clear hj
 refine nA (by rfl) (by rfl) (fun K hK => ?_)
 refine wp_store_row 82 (.tmp 6) (.tmp 15) (by rfl) (w.heap.size+1+1+1) (aF .i64 54 r.1) (by rfl) (by rfl) 82 (aF .i64 54 zero) hz2.out (by rw[aM]; exact fB) (by rw[aM,aM]) (iw _ _ _) ?_
 have hend:=fu hB2 (by omega) hz2.out r.1
 have PD:TA x w.heap.size i n (w2.setRow (w.heap.size+1+1+1) (aF .i64 54 r.1)):=⟨(setRow_other _ _ _ _ (by omega)).trans hS2.1,(World.cell?_of_block (setRow_other _ _ _ _ (by show w.heap.size+1≠_; omega))).trans hS2.2.1,(World.cell?_of_block (setRow_other _ _ _ _ (by show w.heap.size+1+1≠_; omega))).trans hS2.2.2⟩
 refine hK _ _ ⟨PD,?_⟩
 clear hK K hz2 hB2 hS2
 generalize w2.setRow (w.heap.size+1+1+1) (aF .i64 54 r.1)=w3 at *
 refine wpAnyH_take (i:=10) (v := .int .i64 r.2) rfl (by kernel_rfl) (by kernel_rfl) (by kernel_rfl) (fun _ _ _ h=>h) (.inl ⟨by rfl,fun w' hw => ?_⟩) PD ?_
 ·clear hw
  go_simp
 refine wpAnyH_done (by kernel_rfl) ?_ _
 refine Bh _ _ (wp_ret ?_)
 rw[X5.out]
 exact lQ (p:=6) (q:=7) (by kernel_rfl) (by kernel_rfl) (by kernel_rfl) (by kernel_rfl) hend.1 hend.2
end
section
namespace Rt
def oq(x:Nat->Int)(i n:Int):Int:=if decide (C x (i.toNat-1)-F x (i.toNat-1)<n)then 12 else 0
def bA(x:Nat->Int)(i n:Int):(Nat->Int) × Int:=bJ x n (gN i) (oq x i n) (12+(i.toNat-1))
end Rt
attribute [local irreducible] Oper.wp wpList Code.wp in
set_option maxRecDepth 100000 in
set_option maxHeartbeats 1000000 in
theorem Hl(x:Nat->Int)(i n:Int)(g h hi:Nat)(w:World)(hn:1<=n/\n<=1125899906842624)(hib:1<=i/\i<=6)(hm:may x=true)(hx:Hid (w.heap[g]? = some (.cells (aF .i64 54 x) 82 (0,0))))(hc:w.cell? ⟨h,0,none⟩=some (.int .i64 n))(hci:w.cell? ⟨hi,0,none⟩=some (.int .i64 i)) :
 Calls Tryd.prog 175 #[.pointer (some ⟨h,0,none⟩),.pointer (some ⟨g,0,none⟩),.pointer (some ⟨hi,0,none⟩)] w fun e w'=>e = .returned (.int .i64 (oq x i n))/\Below w.heap.size w w':=by
 obtain⟨k,hk⟩:=Int.eq_ofNat_of_zero_le (show 0<=i-1 by omega)
 obtain rfl:i=(k:Int)+1:=by omega
 have Tz:k<6:=by omega
 have ho:=nS hm k Tz
 have h1:=ho.c
 have h2:=ho.f
 have h3:=ho.fc
 have c6:w.cell? ⟨g,6+k,none⟩=some (.int .i64 (C x k)):=dP hx.out (6+k) (by omega)
 have c12:w.cell? ⟨g,12+k,none⟩=some (.int .i64 (F x k)):=dP hx.out (12+k) (by omega)
 have HE:Hid (oq x ((k:Int)+1) n=if decide (C x k-F x k<n)then 12 else 0):=by
  unfold Hid oq
  rw[show((k:Int)+1).toNat-1=k by omega]
 clear ho hm hk
 generalize C x k=c at *
 generalize F x k=f at *
 have hlh:=block_lt_of_cell hc
 have Hf:=block_lt_of_cell hci
 have LU:g<w.heap.size:=(Array.getElem?_eq_some_iff.1 hx.out).1
 dsimp only at hlh Hf
 have hB0:Below w.heap.size w w.drew:=Bn w 1
 by_cases hd:c-f<n
 ·rw[decide_eq_true hd,if_pos rfl]at HE
  go_enter Tryd.func175,Tryd.ntmps175
  go_upto_region 1 with (fail)
  rename_i K0 Bh
  refine wp_region_noPanic (wp_region_held_drew (S:=Below w.heap.size w) (by kernel_rfl) hB0 fun hS => ?_)
  refine wpAnyH_take (i:=0) (v := .int .i64 n) rfl (by kernel_rfl) (by kernel_rfl) (by kernel_rfl) (fun _ _ _ h=>h) (.inl ⟨by rfl,fun w' hw => ?_⟩) hS ?_
  ·have h2:=(hw.cell (p:=⟨h,0,none⟩) hlh).trans hc
   clear hw hc hci
   go_simp
  refine wpAnyH_take (i:=1) (v := .int .i64 ((k:Int)+1)) rfl (by kernel_rfl) (by kernel_rfl) (by kernel_rfl) (fun _ _ _ h=>h) (.inl ⟨by rfl,fun w' hw => ?_⟩) hS ?_
  ·have h2:=(hw.cell (p:=⟨hi,0,none⟩) Hf).trans hci
   clear hw hc hci
   go_simp
  refine wpAnyH_take (i:=2) (v := .int .i64 (k:Int)) rfl (by kernel_rfl) (by kernel_rfl) (by kernel_rfl) (fun _ _ _ h=>h) (.inl ⟨by rfl,fun w' hw => ?_⟩) hS ?_
  ·clear hw hc hci
   go_simp
   exact IntWalk.i64_in _ (by omega)
  refine wpAnyH_take (i:=3) (v := .pointer (some ⟨g,6,none⟩)) rfl (by kernel_rfl) (by kernel_rfl) (by kernel_rfl) (fun _ _ _ h=>h) (.inl ⟨by rfl,fun w' hw => ?_⟩) hS ?_
  ·clear hw hc hci
   go_simp
  refine wpAnyH_take (i:=4) (v := .pointer (some ⟨g,6+k,none⟩)) rfl (by kernel_rfl) (by kernel_rfl) (by kernel_rfl) (fun _ _ _ h=>h) (.inl ⟨by rfl,fun w' hw => ?_⟩) hS ?_
  ·have X6:(k:Int)<6:=by omega
   clear hw hc hci
   go_simp
  refine wpAnyH_take (i:=5) (v := .int .i64 c) rfl (by kernel_rfl) (by kernel_rfl) (by kernel_rfl) (fun _ _ _ h=>h) (.inl ⟨by rfl,fun w' hw => ?_⟩) hS ?_
  ·have h2:=(hw.cell (p:=⟨g,6+k,none⟩) LU).trans c6
   clear hw hc hci
   go_simp
  refine wpAnyH_take (i:=6) (v := .int .i64 ((k:Int)+1)) rfl (by kernel_rfl) (by kernel_rfl) (by kernel_rfl) (fun _ _ _ h=>h) (.inl ⟨by rfl,fun w' hw => ?_⟩) hS ?_
  ·have h2:=(hw.cell (p:=⟨hi,0,none⟩) Hf).trans hci
   clear hw hc hci
   go_simp
  refine wpAnyH_take (i:=7) (v := .int .i64 (k:Int)) rfl (by kernel_rfl) (by kernel_rfl) (by kernel_rfl) (fun _ _ _ h=>h) (.inl ⟨by rfl,fun w' hw => ?_⟩) hS ?_
  ·clear hw hc hci
   go_simp
   exact IntWalk.i64_in _ (by omega)
  refine wpAnyH_take (i:=8) (v := .pointer (some ⟨g,12,none⟩)) rfl (by kernel_rfl) (by kernel_rfl) (by kernel_rfl) (fun _ _ _ h=>h) (.inl ⟨by rfl,fun w' hw => ?_⟩) hS ?_
  ·clear hw hc hci
   go_simp
  refine wpAnyH_take (i:=9) (v := .pointer (some ⟨g,12+k,none⟩)) rfl (by kernel_rfl) (by kernel_rfl) (by kernel_rfl) (fun _ _ _ h=>h) (.inl ⟨by rfl,fun w' hw => ?_⟩) hS ?_
  ·have X6:(k:Int)<6:=by omega
   clear hw hc hci
   go_simp
  refine wpAnyH_take (i:=10) (v := .int .i64 f) rfl (by kernel_rfl) (by kernel_rfl) (by kernel_rfl) (fun _ _ _ h=>h) (.inl ⟨by rfl,fun w' hw => ?_⟩) hS ?_
  ·have h2:=(hw.cell (p:=⟨g,12+k,none⟩) LU).trans c12
   clear hw hc hci
   go_simp
  refine wpAnyH_take (i:=11) (v := .int .i64 (c-f)) rfl (by kernel_rfl) (by kernel_rfl) (by kernel_rfl) (fun _ _ _ h=>h) (.inl ⟨by rfl,fun w' hw => ?_⟩) hS ?_
  ·clear hw hc hci
   go_simp
   exact IntWalk.i64_in _ (by omega)
  refine wpAnyH_take (i:=12) (v := .bool true) rfl (by kernel_rfl) (by kernel_rfl) (by kernel_rfl) (fun _ _ _ h=>h) (.inl ⟨by rfl,fun w' hw => ?_⟩) hS ?_
  ·clear hw hc hci
   go_simp
  refine wpAnyH_all (rs := [13]) (by kernel_rfl) (by decide) ?_
  intro j hj
  obtain rfl:j=13:=by simpa using hj
  refine wpOp_step rfl (fun K hK => ?_)
  clear hj
  go_simp
  refine(mW _ _ _).mono ?_
  rintro e w2 ⟨rfl,rfl⟩
  refine hK _ _ ⟨hS,?_⟩
  clear hK K
  refine wpAnyH_take (i:=14) (v := .int .i64 12) rfl (by kernel_rfl) (by kernel_rfl) (by kernel_rfl) (fun _ _ _ h=>h) (.inl ⟨by rfl,fun w' hw => ?_⟩) hS ?_
  ·clear hw hc hci
   go_simp
  refine wpAnyH_done (by kernel_rfl) ?_ _
  refine Bh _ _ ?_
  go_wp2
  go_ret
  rw[HE.out]
  exact⟨rfl,hS⟩
 rw[decide_eq_false hd,if_neg (by decide)]at HE
 go_enter Tryd.func175,Tryd.ntmps175
 go_upto_region 1 with (fail)
 rename_i K0 Bh
 refine wp_region_noPanic (wp_region_held_drew (S:=Below w.heap.size w) (by kernel_rfl) hB0 fun hS => ?_)
 refine wpAnyH_take (i:=0) (v := .int .i64 n) rfl (by kernel_rfl) (by kernel_rfl) (by kernel_rfl) (fun _ _ _ h=>h) (.inl ⟨by rfl,fun w' hw => ?_⟩) hS ?_
 ·have h2:=(hw.cell (p:=⟨h,0,none⟩) hlh).trans hc
  clear hw hc hci
  go_simp
 refine wpAnyH_take (i:=1) (v := .int .i64 ((k:Int)+1)) rfl (by kernel_rfl) (by kernel_rfl) (by kernel_rfl) (fun _ _ _ h=>h) (.inl ⟨by rfl,fun w' hw => ?_⟩) hS ?_
 ·have h2:=(hw.cell (p:=⟨hi,0,none⟩) Hf).trans hci
  clear hw hc hci
  go_simp
 refine wpAnyH_take (i:=2) (v := .int .i64 (k:Int)) rfl (by kernel_rfl) (by kernel_rfl) (by kernel_rfl) (fun _ _ _ h=>h) (.inl ⟨by rfl,fun w' hw => ?_⟩) hS ?_
 ·clear hw hc hci
  go_simp
  exact IntWalk.i64_in _ (by omega)
 refine wpAnyH_take (i:=3) (v := .pointer (some ⟨g,6,none⟩)) rfl (by kernel_rfl) (by kernel_rfl) (by kernel_rfl) (fun _ _ _ h=>h) (.inl ⟨by rfl,fun w' hw => ?_⟩) hS ?_
 ·clear hw hc hci
  go_simp
 refine wpAnyH_take (i:=4) (v := .pointer (some ⟨g,6+k,none⟩)) rfl (by kernel_rfl) (by kernel_rfl) (by kernel_rfl) (fun _ _ _ h=>h) (.inl ⟨by rfl,fun w' hw => ?_⟩) hS ?_
 ·have X6:(k:Int)<6:=by omega
  clear hw hc hci
  go_simp
 refine wpAnyH_take (i:=5) (v := .int .i64 c) rfl (by kernel_rfl) (by kernel_rfl) (by kernel_rfl) (fun _ _ _ h=>h) (.inl ⟨by rfl,fun w' hw => ?_⟩) hS ?_
 ·have h2:=(hw.cell (p:=⟨g,6+k,none⟩) LU).trans c6
  clear hw hc hci
  go_simp
 refine wpAnyH_take (i:=6) (v := .int .i64 ((k:Int)+1)) rfl (by kernel_rfl) (by kernel_rfl) (by kernel_rfl) (fun _ _ _ h=>h) (.inl ⟨by rfl,fun w' hw => ?_⟩) hS ?_
 ·have h2:=(hw.cell (p:=⟨hi,0,none⟩) Hf).trans hci
  clear hw hc hci
  go_simp
 refine wpAnyH_take (i:=7) (v := .int .i64 (k:Int)) rfl (by kernel_rfl) (by kernel_rfl) (by kernel_rfl) (fun _ _ _ h=>h) (.inl ⟨by rfl,fun w' hw => ?_⟩) hS ?_
 ·clear hw hc hci
  go_simp
  exact IntWalk.i64_in _ (by omega)
 refine wpAnyH_take (i:=8) (v := .pointer (some ⟨g,12,none⟩)) rfl (by kernel_rfl) (by kernel_rfl) (by kernel_rfl) (fun _ _ _ h=>h) (.inl ⟨by rfl,fun w' hw => ?_⟩) hS ?_
 ·clear hw hc hci
  go_simp
 refine wpAnyH_take (i:=9) (v := .pointer (some ⟨g,12+k,none⟩)) rfl (by kernel_rfl) (by kernel_rfl) (by kernel_rfl) (fun _ _ _ h=>h) (.inl ⟨by rfl,fun w' hw => ?_⟩) hS ?_
 ·have X6:(k:Int)<6:=by omega
  clear hw hc hci
  go_simp
 refine wpAnyH_take (i:=10) (v := .int .i64 f) rfl (by kernel_rfl) (by kernel_rfl) (by kernel_rfl) (fun _ _ _ h=>h) (.inl ⟨by rfl,fun w' hw => ?_⟩) hS ?_
 ·have h2:=(hw.cell (p:=⟨g,12+k,none⟩) LU).trans c12
  clear hw hc hci
  go_simp
 refine wpAnyH_take (i:=11) (v := .int .i64 (c-f)) rfl (by kernel_rfl) (by kernel_rfl) (by kernel_rfl) (fun _ _ _ h=>h) (.inl ⟨by rfl,fun w' hw => ?_⟩) hS ?_
 ·clear hw hc hci
  go_simp
  exact IntWalk.i64_in _ (by omega)
 refine wpAnyH_take (i:=12) (v := .bool false) rfl (by kernel_rfl) (by kernel_rfl) (by kernel_rfl) (fun _ _ _ h=>h) (.inl ⟨by rfl,fun w' hw => ?_⟩) hS ?_
 ·clear hw hc hci
  go_simp
 refine wpAnyH_all (rs := [13]) (by kernel_rfl) (by decide) ?_
 intro j hj
 obtain rfl:j=13:=by simpa using hj
 refine wpOp_step rfl (fun K hK => ?_)
 clear hj
 go_simp
 refine(mW _ _ _).mono ?_
 rintro e w2 ⟨rfl,rfl⟩
 refine hK _ _ ⟨hS,?_⟩
 clear hK K
 refine wpAnyH_take (i:=14) (v := .int .i64 0) rfl (by kernel_rfl) (by kernel_rfl) (by kernel_rfl) (fun _ _ _ h=>h) (.inl ⟨by rfl,fun w' hw => ?_⟩) hS ?_
 ·clear hw hc hci
  go_simp
 refine wpAnyH_done (by kernel_rfl) ?_ _
 refine Bh _ _ ?_
 go_wp2
 go_ret
 rw[HE.out]
 exact⟨rfl,hS⟩
attribute [local irreducible] Oper.wp wpList Code.wp
set_option maxHeartbeats 400000 in
theorem Ho(g h:Nat)(i:Int)(w:World)(hi:1<=i/\i<=6)(hc:w.cell? ⟨h,0,none⟩=some (.int .i64 i)) :
 Calls Tryd.prog 176 #[.pointer (some ⟨g,0,none⟩),.pointer (some ⟨h,0,none⟩)] w fun e w'=>e = .returned (.pointer (some ⟨g,12+(i.toNat-1),none⟩))/\Below w.heap.size w w':=by
 obtain⟨k,hk⟩:=Int.eq_ofNat_of_zero_le (show 0<=i-1 by omega)
 obtain rfl:i=(k:Int)+1:=by omega
 have Tz:(k:Int)<6:=by omega
 have HE:Hid (((k:Int)+1).toNat-1=k):=by unfold Hid; omega
 clear hk
 go_enter Tryd.func176,Tryd.ntmps176
 go_wp2_with fail
 go_quiet (fail)
 go_wp2
 go_ret
 rw[HE.out]
 exact⟨rfl,bN (Below.refl _ _) _⟩
theorem JO(args:Array Value)(w:World):(callFunc 175 args).run Tryd.prog w = .ok (.enter 175 args) w:=gP Tryd.func175 rfl rfl args w
theorem JQ(args:Array Value)(w:World):(callFunc 176 args).run Tryd.prog w = .ok (.enter 176 args) w:=gP Tryd.func176 rfl rfl args w
set_option maxRecDepth 100000 in
set_option maxHeartbeats 1000000 in
theorem JR(x:Nat->Int)(i n:Int)(w:World)(hi : -9223372036854775808<=i/\i<=9223372036854775807) :
 Calls Tryd.prog 162 #[.agg (aF .i64 54 x),.int .i64 i,.int .i64 n] w (FE (bA x i n) w):=by
 have hmf : ∀(fn:Fn) (first cap:Array Value) (w:World),(Instr.makeFunc fn first cap).run Tryd.prog w = .ok (.func fn first cap) w:=fun _ _ _ _=>rfl
 go_enter Tryd.func162,Tryd.ntmps162
 go_upto_region 1 with (fail)
 rename_i K0 Bh
 rw[<- jQ]
 have ha:=IJ w (.cells (aF .i64 54 x) 82) (.cells #[.int .i64 i] 3) (.cells #[.int .i64 n] 2) (.cells (aF .i64 54 zero) 82)
 generalize (((w.alloc (.cells (aF .i64 54 x) 82)).alloc (.cells #[.int .i64 i] 3)).alloc (.cells #[.int .i64 n] 2)).alloc (.cells (aF .i64 54 zero) 82)=W at *
 obtain⟨hx,hI,hN,hz,hs,hB⟩:=ha
 have cI:=kQ hI
 have cN:=kQ hN
 have Hx:Hid _:=hx
 have Hz:Hid _:=hz
 have HI:Hid _:=hI
 have HN:Hid _:=hN
 have Hs:Hid _:=hs
 clear hx hz hI hN hs
 refine wp_region_noPanic (wp_region_held_drew (S:=TA x w.heap.size i n) (by kernel_rfl) ⟨Hx.out,cI,cN⟩ fun hS => ?_)
 refine wpAnyH_take (i:=0) (v := .agg (aF .i64 54 x)) rfl (by kernel_rfl) (by kernel_rfl) (by kernel_rfl) (fun _ _ _ h=>h) (.inl ⟨by rfl,fun w' hw => ?_⟩) hS ?_
 ·exact fH 82 (.tmp 3) (by rfl) w.heap.size (by rfl) 82 (aF .i64 54 x) (0,0) _ hw.1 Tryd.underlying82 (by rfl) (by rw[aM]; exact fB)
 refine wpAnyH_take (i:=1) (v := .int .i64 n) rfl (by kernel_rfl) (by kernel_rfl) (by kernel_rfl) (fun _ _ _ h=>h) (.inl ⟨by rfl,fun w' hw => ?_⟩) hS ?_
 ·have h2:=hw.2.2
  go_simp
 refine wpAnyH_take (i:=2) (v := .int .i64 i) rfl (by kernel_rfl) (by kernel_rfl) (by kernel_rfl) (fun _ _ _ h=>h) (.inl ⟨by rfl,fun w' hw => ?_⟩) hS ?_
 ·have h2:=hw.2.1
  have h3:=hw.2.2
  clear hw
  go_simp
 refine wpAnyH_take (i:=4) (v := .func (.func 175) #[] #[.pointer (some ⟨w.heap.size+1+1,0,none⟩),.pointer (some ⟨w.heap.size,0,none⟩),.pointer (some ⟨w.heap.size+1,0,none⟩)]) rfl (by kernel_rfl) (by kernel_rfl) (by kernel_rfl) (fun _ _ _ h=>h) (.inl ⟨by rfl,fun w' hw => ?_⟩) hS ?_
 ·have h2:=hw.2.1
  have h3:=hw.2.2
  clear hw
  go_simp
 refine wpAnyH_take (i:=5) (v := .func (.func 176) #[] #[.pointer (some ⟨w.heap.size+1,0,none⟩)]) rfl (by kernel_rfl) (by kernel_rfl) (by kernel_rfl) (fun _ _ _ h=>h) (.inl ⟨by rfl,fun w' hw => ?_⟩) hS ?_
 ·have h2:=hw.2.1
  have h3:=hw.2.2
  clear hw
  go_simp
 refine wpAnyH_all (rs := [3]) (by kernel_rfl) (by decide) ?_
 intro j hj
 obtain rfl:j=3:=by simpa using hj
 refine wpOp_step rfl (fun K hK => ?_)
 clear hj
 go_simp
 refine(kW i _ hi).mono ?_
 rintro e w' ⟨rfl,rfl⟩
 refine hK _ _ ⟨hS,?_⟩
 clear hK K
 refine wpAnyH_all (rs := [6]) (by kernel_rfl) (by decide) ?_
 intro j hj
 obtain rfl:j=6:=by simpa using hj
 refine wpOp_step rfl (fun K hK => ?_)
 clear hj
 go_simp
 have hlx:w.heap.size<W.drew.heap.size:=(Array.getElem?_eq_some_iff.1 hS.1).1
 have MN:=block_lt_of_cell hS.2.1
 have Rx:=block_lt_of_cell hS.2.2
 dsimp only at MN Rx
 refine(nU x n (gN i) 175 176 _ _ (oq x i n) (12+(i.toNat-1)) W.drew ?o1 ?o2 JO JQ ?o3 ?o4).mono ?_
 case o1=>intro h; have:=(jl i).1 h; omega
 case o2=>intro h hm; have:=(jl i).1 h; exact(nS hm (i.toNat-1) (by omega)).f
 case o3 =>
  intro hm h1 h2 h3 w' hb
  exact Hl x i n _ _ _ w' ⟨h1,h2⟩ ((jl i).1 h3) hm ((hb.block _ hlx).trans hS.1) ((hb.cell (p:=⟨w.heap.size+1+1,0,none⟩) Rx).trans hS.2.2) ((hb.cell (p:=⟨w.heap.size+1,0,none⟩) MN).trans hS.2.1)
 case o4 =>
  intro h w' g hb
  exact Ho g _ i w' ((jl i).1 h) ((hb.cell (p:=⟨w.heap.size+1,0,none⟩) MN).trans hS.2.1)
 rintro e w2 ⟨rfl,hb2⟩
 have X5:Hid (bA x i n=bJ x n (gN i) (oq x i n) (12+(i.toNat-1))):=rfl
 generalize bJ x n (gN i) (oq x i n) (12+(i.toNat-1))=r at *
 have hS2:TA x w.heap.size i n w2:=⟨(hb2.block _ hlx).trans hS.1,(hb2.cell (p:=⟨w.heap.size+1,0,none⟩) MN).trans hS.2.1,(hb2.cell (p:=⟨w.heap.size+1+1,0,none⟩) Rx).trans hS.2.2⟩
 have hz2:Hid (w2.heap[w.heap.size+1+1+1]? = some (.cells (aF .i64 54 zero) 82 (0,0))):=(hb2.block _ (by show _<W.heap.size; have:=Hs.out; omega)).trans Hz.out
 have hB2:Below w.heap.size w w2:=hB.trans ((VX hb2).mono hB.size)
 refine hK _ _ ⟨hS2,?_⟩
 clear hK K hS hb2
 refine wpAnyH_take (i:=7) (v := .agg (aF .i64 54 r.1)) rfl (by kernel_rfl) (by kernel_rfl) (by kernel_rfl) (fun _ _ _ h=>h) (.inl ⟨by rfl,fun w' hw => ?_⟩) hS2 ?_
 ·clear hw
  go_simp
 refine wpAnyH_take (i:=8) (v := .int .i64 r.2) rfl (by kernel_rfl) (by kernel_rfl) (by kernel_rfl) (fun _ _ _ h=>h) (.inl ⟨by rfl,fun w' hw => ?_⟩) hS2 ?_
 ·clear hw
  go_simp
 refine wpAnyH_all (rs := [9]) (by kernel_rfl) (by decide) ?_
 intro j hj
 obtain rfl:j=9:=by simpa using hj
 clear hj
 refine nA (by rfl) (by rfl) (fun K hK => ?_)
 refine wp_store_row 82 (.tmp 6) (.tmp 15) (by rfl) (w.heap.size+1+1+1) (aF .i64 54 r.1) (by rfl) (by rfl) 82 (aF .i64 54 zero) hz2.out (by rw[aM]; exact fB) (by rw[aM,aM]) (iw _ _ _) ?_
 have hend:=fu hB2 (by omega) hz2.out r.1
 have PD:TA x w.heap.size i n (w2.setRow (w.heap.size+1+1+1) (aF .i64 54 r.1)):=⟨(setRow_other _ _ _ _ (by omega)).trans hS2.1,(World.cell?_of_block (setRow_other _ _ _ _ (by show w.heap.size+1≠_; omega))).trans hS2.2.1,(World.cell?_of_block (setRow_other _ _ _ _ (by show w.heap.size+1+1≠_; omega))).trans hS2.2.2⟩
 refine hK _ _ ⟨PD,?_⟩
 clear hK K hz2 hB2 hS2
 generalize w2.setRow (w.heap.size+1+1+1) (aF .i64 54 r.1)=w3 at *
 refine wpAnyH_take (i:=10) (v := .int .i64 r.2) rfl (by kernel_rfl) (by kernel_rfl) (by kernel_rfl) (fun _ _ _ h=>h) (.inl ⟨by rfl,fun w' hw => ?_⟩) PD ?_
 ·clear hw
  go_simp
 refine wpAnyH_done (by kernel_rfl) ?_ _
 refine Bh _ _ (wp_ret ?_)
 rw[X5.out]
 exact lQ (p:=6) (q:=7) (by kernel_rfl) (by kernel_rfl) (by kernel_rfl) (by kernel_rfl) hend.1 hend.2
end
namespace Rt
def lS(x:Nat->Int)(i j n:Int):Int:=if i=j then 1 else if decide (dM x i<n)then 11 else 0
def iO(i j:Int):Nat:=18+(i.toNat-1)*6+(j.toNat-1)
def fA(x:Nat->Int)(i j n:Int):(Nat->Int) × Int:=bJ x n (gN i&&gN j) (lS x i j n) (iO i j)
end Rt
attribute [local irreducible] Oper.wp wpList Code.wp in
set_option maxRecDepth 100000 in
set_option maxHeartbeats 1000000 in
theorem zy(x:Nat->Int)(i j0 n:Int)(g h hi hj:Nat)(w:World)(hn:1<=n/\n<=1125899906842624)(hib : -9223372036854775808<=i/\i<=9223372036854775807)(hjb : -9223372036854775808<=j0/\j0<=9223372036854775807)(hx:Hid (w.heap[g]? = some (.cells (aF .i64 54 x) 82 (0,0))))(hc:w.cell? ⟨h,0,none⟩=some (.int .i64 n))(hci:w.cell? ⟨hi,0,none⟩=some (.int .i64 i))(hcj:w.cell? ⟨hj,0,none⟩=some (.int .i64 j0)) :
 Calls Tryd.prog 177 #[.pointer (some ⟨hi,0,none⟩),.pointer (some ⟨hj,0,none⟩),.pointer (some ⟨h,0,none⟩),.pointer (some ⟨g,0,none⟩)] w fun e w'=>e = .returned (.int .i64 (lS x i j0 n))/\Below w.heap.size w w':=by
 have HE:Hid (lS x i j0 n=if i=j0 then 1 else if decide (dM x i<n)then 11 else 0):=rfl
 have hb:=zx x i
 have hlh:=block_lt_of_cell hc
 have Hf:=block_lt_of_cell hci
 have LU:g<w.heap.size:=(Array.getElem?_eq_some_iff.1 hx.out).1
 dsimp only at hlh Hf
 have hB0:Below w.heap.size w w.drew:=Bn w 1
 have hs:Hid (∀ w',Calls Tryd.prog 30 #[.agg (aF .i64 54 x),.int .i64 i] w' fun e w''=>e = .returned (.int .i64 (dM x i))/\Below w'.heap.size w' w''):=fun w'=>nT x i w' hib
 generalize dM x i=s1 at *
 by_cases he:i=j0
 ·rw[if_pos he]at HE
  subst he
  go_enter Tryd.func177,Tryd.ntmps177
  go_wp2
  go_ret
  rw[HE.out]
  exact⟨rfl,Below.refl _ _⟩
 rw[if_neg he]at HE
 have hne:(i==j0)=false:=by simpa using he
 clear he
 by_cases hd:s1<n
 ·rw[decide_eq_true hd,if_pos rfl]at HE
  go_enter Tryd.func177,Tryd.ntmps177
  go_upto_region 3 with (fail)
  rename_i K0 Bh
  refine wp_region_noPanic (wp_region_held_drew (S:=Below w.heap.size w) (by kernel_rfl) hB0 fun hS => ?_)
  refine wpAnyH_take (i:=0) (v := .int .i64 n) rfl (by kernel_rfl) (by kernel_rfl) (by kernel_rfl) (fun _ _ _ h=>h) (.inl ⟨by rfl,fun w' hw => ?_⟩) hS ?_
  ·have h2:=(hw.cell (p:=⟨h,0,none⟩) hlh).trans hc
   clear hw hc hci
   go_simp
  refine wpAnyH_take (i:=1) (v := .agg (aF .i64 54 x)) rfl (by kernel_rfl) (by kernel_rfl) (by kernel_rfl) (fun _ _ _ h=>h) (.inl ⟨by rfl,fun w' hw => ?_⟩) hS ?_
  ·exact fH 82 (.tmp 3) (by rfl) g (by rfl) 82 (aF .i64 54 x) (0,0) _ ((hw.block _ LU).trans hx.out) Tryd.underlying82 (by rfl) (by rw[aM]; exact fB)
  refine wpAnyH_take (i:=2) (v := .int .i64 i) rfl (by kernel_rfl) (by kernel_rfl) (by kernel_rfl) (fun _ _ _ h=>h) (.inl ⟨by rfl,fun w' hw => ?_⟩) hS ?_
  ·have h2:=(hw.cell (p:=⟨hi,0,none⟩) Hf).trans hci
   clear hw hc hci
   go_simp
  refine wpAnyH_all (rs := [3]) (by kernel_rfl) (by decide) ?_
  intro j hj
  obtain rfl:j=3:=by simpa using hj
  refine wpOp_step rfl (fun K hK => ?_)
  clear hj
  go_simp
  refine(hs.out _).mono ?_
  rintro e w1 ⟨rfl,hb1⟩
  have hS:=yS hS hb1
  refine hK _ _ ⟨hS,?_⟩
  clear hK K
  refine wpAnyH_take (i:=4) (v := .bool true) rfl (by kernel_rfl) (by kernel_rfl) (by kernel_rfl) (fun _ _ _ h=>h) (.inl ⟨by rfl,fun w' hw => ?_⟩) hS ?_
  ·clear hw hc hci
   go_simp
  refine wpAnyH_all (rs := [5]) (by kernel_rfl) (by decide) ?_
  intro j hj
  obtain rfl:j=5:=by simpa using hj
  refine wpOp_step rfl (fun K hK => ?_)
  clear hj
  go_simp
  refine(mW _ _ _).mono ?_
  rintro e w2 ⟨rfl,rfl⟩
  refine hK _ _ ⟨hS,?_⟩
  clear hK K
  refine wpAnyH_take (i:=6) (v := .int .i64 11) rfl (by kernel_rfl) (by kernel_rfl) (by kernel_rfl) (fun _ _ _ h=>h) (.inl ⟨by rfl,fun w' hw => ?_⟩) hS ?_
  ·clear hw hc hci
   go_simp
  refine wpAnyH_done (by kernel_rfl) ?_ _
  refine Bh _ _ ?_
  go_wp2
  go_ret
  rw[HE.out]
  exact⟨rfl,hS⟩
 rw[decide_eq_false hd,if_neg (by decide)]at HE
 go_enter Tryd.func177,Tryd.ntmps177
 go_upto_region 3 with (fail)
 rename_i K0 Bh
 refine wp_region_noPanic (wp_region_held_drew (S:=Below w.heap.size w) (by kernel_rfl) hB0 fun hS => ?_)
 refine wpAnyH_take (i:=0) (v := .int .i64 n) rfl (by kernel_rfl) (by kernel_rfl) (by kernel_rfl) (fun _ _ _ h=>h) (.inl ⟨by rfl,fun w' hw => ?_⟩) hS ?_
 ·have h2:=(hw.cell (p:=⟨h,0,none⟩) hlh).trans hc
  clear hw hc hci
  go_simp
 refine wpAnyH_take (i:=1) (v := .agg (aF .i64 54 x)) rfl (by kernel_rfl) (by kernel_rfl) (by kernel_rfl) (fun _ _ _ h=>h) (.inl ⟨by rfl,fun w' hw => ?_⟩) hS ?_
 ·exact fH 82 (.tmp 3) (by rfl) g (by rfl) 82 (aF .i64 54 x) (0,0) _ ((hw.block _ LU).trans hx.out) Tryd.underlying82 (by rfl) (by rw[aM]; exact fB)
 refine wpAnyH_take (i:=2) (v := .int .i64 i) rfl (by kernel_rfl) (by kernel_rfl) (by kernel_rfl) (fun _ _ _ h=>h) (.inl ⟨by rfl,fun w' hw => ?_⟩) hS ?_
 ·have h2:=(hw.cell (p:=⟨hi,0,none⟩) Hf).trans hci
  clear hw hc hci
  go_simp
 refine wpAnyH_all (rs := [3]) (by kernel_rfl) (by decide) ?_
 intro j hj
 obtain rfl:j=3:=by simpa using hj
 refine wpOp_step rfl (fun K hK => ?_)
 clear hj
 go_simp
 refine(hs.out _).mono ?_
 rintro e w1 ⟨rfl,hb1⟩
 have hS:=yS hS hb1
 refine hK _ _ ⟨hS,?_⟩
 clear hK K
 refine wpAnyH_take (i:=4) (v := .bool false) rfl (by kernel_rfl) (by kernel_rfl) (by kernel_rfl) (fun _ _ _ h=>h) (.inl ⟨by rfl,fun w' hw => ?_⟩) hS ?_
 ·clear hw hc hci
  go_simp
 refine wpAnyH_all (rs := [5]) (by kernel_rfl) (by decide) ?_
 intro j hj
 obtain rfl:j=5:=by simpa using hj
 refine wpOp_step rfl (fun K hK => ?_)
 clear hj
 go_simp
 refine(mW _ _ _).mono ?_
 rintro e w2 ⟨rfl,rfl⟩
 refine hK _ _ ⟨hS,?_⟩
 clear hK K
 refine wpAnyH_take (i:=6) (v := .int .i64 0) rfl (by kernel_rfl) (by kernel_rfl) (by kernel_rfl) (fun _ _ _ h=>h) (.inl ⟨by rfl,fun w' hw => ?_⟩) hS ?_
 ·clear hw hc hci
  go_simp
 refine wpAnyH_done (by kernel_rfl) ?_ _
 refine Bh _ _ ?_
 go_wp2
 go_ret
 rw[HE.out]
 exact⟨rfl,hS⟩
set_option maxHeartbeats 400000 in
theorem zA(g h1 h2:Nat)(i j:Int)(w:World)(hi:1<=i/\i<=6)(hj:1<=j/\j<=6)(hci:w.cell? ⟨h1,0,none⟩=some (.int .i64 i))(hcj:w.cell? ⟨h2,0,none⟩=some (.int .i64 j)) :
 Calls Tryd.prog 178 #[.pointer (some ⟨g,0,none⟩),.pointer (some ⟨h1,0,none⟩),.pointer (some ⟨h2,0,none⟩)] w fun e w'=>e = .returned (.pointer (some ⟨g,iO i j,none⟩))/\Below w.heap.size w w':=by
 obtain⟨k,hk⟩:=Int.eq_ofNat_of_zero_le (show 0<=i-1 by omega)
 obtain rfl:i=(k:Int)+1:=by omega
 obtain⟨l,hl⟩:=Int.eq_ofNat_of_zero_le (show 0<=j-1 by omega)
 obtain rfl:j=(l:Int)+1:=by omega
 have Tz:(k:Int)<6:=by omega
 have hl6:(l:Int)<6:=by omega
 have HE:Hid (iO ((k:Int)+1) ((l:Int)+1)=18+k*6+l):=by unfold Hid iO; omega
 clear hk hl
 go_enter Tryd.func178,Tryd.ntmps178
 go_wp2_with fail
 go_quiet (fail)
 go_wp2
 go_ret
 rw[HE.out]
 exact⟨rfl,bN (Below.refl _ _) _⟩
theorem Cr(args:Array Value)(w:World):(callFunc 177 args).run Tryd.prog w = .ok (.enter 177 args) w:=gP Tryd.func177 rfl rfl args w
theorem Ct(args:Array Value)(w:World):(callFunc 178 args).run Tryd.prog w = .ok (.enter 178 args) w:=gP Tryd.func178 rfl rfl args w
section
def FH(x:Nat->Int)(g:Nat)(i j n:Int)(w':World):Prop:=w'.heap[g]? = some (.cells (aF .i64 54 x) 82 (0,0))/\w'.cell? ⟨g+1,0,none⟩=some (.int .i64 i)/\w'.cell? ⟨g+1+1,0,none⟩=some (.int .i64 j)/\w'.cell? ⟨g+1+1+1,0,none⟩=some (.int .i64 n)
theorem FH.up{x:Nat->Int}{g:Nat}{i j n:Int}{w w':World}(h:FH x g i j n w)(hb:Below w.heap.size w w'):FH x g i j n w':=by
 obtain⟨a,b,c,d⟩:=h
 exact⟨(hb.block _ (Array.getElem?_eq_some_iff.1 a).1).trans a,(hb.cell (p:=⟨g+1,0,none⟩) (block_lt_of_cell b)).trans b,(hb.cell (p:=⟨g+1+1,0,none⟩) (block_lt_of_cell c)).trans c,(hb.cell (p:=⟨g+1+1+1,0,none⟩) (block_lt_of_cell d)).trans d⟩
theorem FH.row{x:Nat->Int}{g:Nat}{i j n:Int}{w:World}(h:FH x g i j n w)(cs:Array Value):FH x g i j n (w.setRow (g+1+1+1+1) cs):=by
 obtain⟨a,b,c,d⟩:=h
 exact⟨(setRow_other _ _ _ _ (by omega)).trans a,(World.cell?_of_block (setRow_other _ _ _ _ (by show g+1≠_; omega))).trans b,(World.cell?_of_block (setRow_other _ _ _ _ (by show g+1+1≠_; omega))).trans c,(World.cell?_of_block (setRow_other _ _ _ _ (by show g+1+1+1≠_; omega))).trans d⟩
attribute [local irreducible] Oper.wp wpList Code.wp
set_option maxRecDepth 100000 in
set_option maxHeartbeats 2000000 in
theorem JU(x:Nat->Int)(i j n:Int)(w:World)(hi : -9223372036854775808<=i/\i<=9223372036854775807)(hj0 : -9223372036854775808<=j/\j<=9223372036854775807) :
 Calls Tryd.prog 164 #[.agg (aF .i64 54 x),.int .i64 i,.int .i64 j,.int .i64 n] w (FE (fA x i j n) w):=by
 have HM:Hid (fA x i j n=bJ x n (gN i&&gN j) (lS x i j n) (iO i j)):=rfl
 have hri:=jl i
 have hrj:=jl j
 have JK:Hid (∀ w',Calls Tryd.prog 47 #[.int .i64 i] w' fun e w''=>e = .returned (.bool (gN i))/\w''=w'):=fun w'=>kW i w' hi
 have UN:Hid (∀ w',Calls Tryd.prog 47 #[.int .i64 j] w' fun e w''=>e = .returned (.bool (gN j))/\w''=w'):=fun w'=>kW j w' hj0
 generalize gN i=bi at *
 generalize gN j=bj at *
 have Hri:Hid _:=hri
 have Hrj:Hid _:=hrj
 clear hri hrj
 have hmf : ∀(fn:Fn) (first cap:Array Value) (w:World),(Instr.makeFunc fn first cap).run Tryd.prog w = .ok (.func fn first cap) w:=fun _ _ _ _=>rfl
 cases bi
 all_goals
  go_enter Tryd.func164,Tryd.ntmps164
  go_upto_region 1 with (fail)
  rename_i K0 Bh
  rw[<- jQ]
  have ha:=Pt w (.cells (aF .i64 54 x) 82) (.cells #[.int .i64 i] 3) (.cells #[.int .i64 j] 3) (.cells #[.int .i64 n] 2) (.cells (aF .i64 54 zero) 82)
  generalize ((((w.alloc (.cells (aF .i64 54 x) 82)).alloc (.cells #[.int .i64 i] 3)).alloc (.cells #[.int .i64 j] 3)).alloc (.cells #[.int .i64 n] 2)).alloc (.cells (aF .i64 54 zero) 82)=W at *
  obtain⟨hx,hI,hJ,hN,hz,hs,hB⟩:=ha
  have hS0:FH x w.heap.size i j n W.drew:=⟨hx,kQ (w:=W) hI,kQ (w:=W) hJ,kQ (w:=W) hN⟩
  have Hz:Hid _:=hz
  have Hs:Hid _:=hs
  clear hx hz hI hJ hN hs
  refine wp_region_noPanic (wp_region_held_drew (S:=FH x w.heap.size i j n) (by kernel_rfl) hS0 fun hS => ?_)
  refine wpAnyH_take (i:=0) (v := .agg (aF .i64 54 x)) rfl (by kernel_rfl) (by kernel_rfl) (by kernel_rfl) (fun _ _ _ h=>h) (.inl ⟨by rfl,fun w' hw => ?_⟩) hS ?_
  ·exact fH 82 (.tmp 4) (by rfl) w.heap.size (by rfl) 82 (aF .i64 54 x) (0,0) _ hw.1 Tryd.underlying82 (by rfl) (by rw[aM]; exact fB)
  refine wpAnyH_take (i:=1) (v := .int .i64 n) rfl (by kernel_rfl) (by kernel_rfl) (by kernel_rfl) (fun _ _ _ h=>h) (.inl ⟨by rfl,fun w' hw => ?_⟩) hS ?_
  ·have h2:=hw.2.2.2
   clear hw
   go_simp
  refine wpAnyH_take (i:=2) (v := .int .i64 i) rfl (by kernel_rfl) (by kernel_rfl) (by kernel_rfl) (fun _ _ _ h=>h) (.inl ⟨by rfl,fun w' hw => ?_⟩) hS ?_
  ·have h2:=hw.2.1
   clear hw
   go_simp
  refine wpAnyH_take (i:=8) (v := .func (.func 177) #[] #[.pointer (some ⟨w.heap.size+1,0,none⟩),.pointer (some ⟨w.heap.size+1+1,0,none⟩),.pointer (some ⟨w.heap.size+1+1+1,0,none⟩),.pointer (some ⟨w.heap.size,0,none⟩)]) rfl (by kernel_rfl) (by kernel_rfl) (by kernel_rfl) (fun _ _ _ h=>h) (.inl ⟨by rfl,fun w' hw => ?_⟩) hS ?_
  ·clear hw
   go_simp
  refine wpAnyH_take (i:=9) (v := .func (.func 178) #[] #[.pointer (some ⟨w.heap.size+1,0,none⟩),.pointer (some ⟨w.heap.size+1+1,0,none⟩)]) rfl (by kernel_rfl) (by kernel_rfl) (by kernel_rfl) (fun _ _ _ h=>h) (.inl ⟨by rfl,fun w' hw => ?_⟩) hS ?_
  ·clear hw
   go_simp
  refine wpAnyH_all (rs := [3]) (by kernel_rfl) (by decide) ?_
  intro j hj
  obtain rfl:j=3:=by simpa using hj
  refine wpOp_step rfl (fun K hK => ?_)
  clear hj
  go_simp
  refine(JK.out _).mono ?_
  rintro e w' ⟨rfl,rfl⟩
  refine hK _ _ ⟨hS,?_⟩
  clear hK K
 ·have hoff:false=true->iO i j<54:=nofun
  have hcell:false=true->may x=true->0<=x (iO i j)/\x (iO i j)<=1125899906842624:=nofun
  have hbd:false=true->(1<=i/\i<=6)/\(1<=j/\j<=6):=nofun
  refine wpAnyH_take (i:=4) (v := .bool false) rfl (by kernel_rfl) (by kernel_rfl) (by kernel_rfl) (fun _ _ _ h=>h) (.inl ⟨by rfl,fun w' hw => ?_⟩) hS ?_
  ·clear hw
   go_simp
  refine wpAnyH_take (i:=5) (v:=undef) rfl (by kernel_rfl) (by kernel_rfl) (by kernel_rfl) (fun _ _ _ h=>h) (.inr ⟨by rfl,rfl⟩) hS ?_
  refine wpAnyH_take (i:=6) (v:=undef) rfl (by kernel_rfl) (by kernel_rfl) (by kernel_rfl) (fun _ _ _ h=>h) (.inr ⟨by rfl,rfl⟩) hS ?_
  refine wpAnyH_take (i:=7) (v := .bool false) rfl (by kernel_rfl) (by kernel_rfl) (by kernel_rfl) (fun _ _ _ h=>h) (.inl ⟨by rfl,fun w' hw => ?_⟩) hS ?_
  ·clear hw
   go_simp
  have HM:Hid (fA x i j n=bJ x n false (lS x i j n) (iO i j)):=HM
  refine wpAnyH_all (rs := [10]) (by kernel_rfl) (by decide) ?_
  intro j hj
  obtain rfl:j=10:=by simpa using hj
  refine wpOp_step rfl (fun K hK => ?_)
  clear hj
  go_simp
  have hlz:w.heap.size+1+1+1+1<W.drew.heap.size:=by show _<W.heap.size; have:=Hs.out; omega
  refine(nU x n false 177 178 _ _ (lS x i j n) (iO i j) W.drew ?o1 ?o2 Cr Ct ?o3 ?o4).mono ?_
  case o1=>exact hoff
  case o2=>exact hcell
  case o3=>exact fun hm h1 h2 h3 w' hb=>have hq:=FH.up hS hb; zy x i j n _ _ _ _ w' ⟨h1,h2⟩ hi hj0 hq.1 hq.2.2.2 hq.2.1 hq.2.2.1
  case o4=>exact fun h w' g hb=>have hq:=FH.up hS hb; zA g _ _ i j w' (hbd h).1 (hbd h).2 hq.2.1 hq.2.2.1
  rintro e w2 ⟨rfl,hb2⟩
  generalize bJ x n false (lS x i j n) (iO i j)=r at *
  have hz2:Hid (w2.heap[w.heap.size+1+1+1+1]? = some (.cells (aF .i64 54 zero) 82 (0,0))):=(hb2.block _ hlz).trans Hz.out
  have hB2:Below w.heap.size w w2:=hB.trans ((VX hb2).mono hB.size)
  have hS:=FH.up hS hb2
  refine hK _ _ ⟨hS,?_⟩
  clear hK K
  clear hb2
  refine wpAnyH_take (i:=11) (v := .agg (aF .i64 54 r.1)) rfl (by kernel_rfl) (by kernel_rfl) (by kernel_rfl) (fun _ _ _ h=>h) (.inl ⟨by rfl,fun w' hw => ?_⟩) hS ?_
  ·clear hw
   go_simp
  refine wpAnyH_take (i:=12) (v := .int .i64 r.2) rfl (by kernel_rfl) (by kernel_rfl) (by kernel_rfl) (fun _ _ _ h=>h) (.inl ⟨by rfl,fun w' hw => ?_⟩) hS ?_
  ·clear hw
   go_simp
  refine wpAnyH_all (rs := [13]) (by kernel_rfl) (by decide) ?_
  intro j' hj'
  obtain rfl:j'=13:=by simpa using hj'
  clear hj'
  refine nA (by rfl) (by rfl) (fun K hK => ?_)
  refine wp_store_row 82 (.tmp 8) (.tmp 21) (by rfl) (w.heap.size+1+1+1+1) (aF .i64 54 r.1) (by rfl) (by rfl) 82 (aF .i64 54 zero) hz2.out (by rw[aM]; exact fB) (by rw[aM,aM]) (iw _ _ _) ?_
  have hend:=fu hB2 (by omega) hz2.out r.1
  have hS:=hS.row (aF .i64 54 r.1)
  refine hK _ _ ⟨hS,?_⟩
  clear hK K hz2 hB2
  generalize w2.setRow (w.heap.size+1+1+1+1) (aF .i64 54 r.1)=w3 at *
  refine wpAnyH_take (i:=14) (v := .int .i64 r.2) rfl (by kernel_rfl) (by kernel_rfl) (by kernel_rfl) (fun _ _ _ h=>h) (.inl ⟨by rfl,fun w' hw => ?_⟩) hS ?_
  ·clear hw
   go_simp
  refine wpAnyH_done (by kernel_rfl) ?_ _
  refine Bh _ _ (wp_ret ?_)
  rw[HM.out]
  exact lQ (p:=8) (q:=9) (by kernel_rfl) (by kernel_rfl) (by kernel_rfl) (by kernel_rfl) hend.1 hend.2
 have hi6:=Hri.out.1 rfl
 have hbd:bj=true->(1<=i/\i<=6)/\(1<=j/\j<=6):=fun h=>⟨hi6,Hrj.out.1 h⟩
 have hoff:bj=true->iO i j<54:=fun h=>by have:=hbd h; unfold iO; omega
 have hcell:bj=true->may x=true->0<=x (iO i j)/\x (iO i j)<=1125899906842624:=fun h hm=>by
  have:=hbd h
  exact(nS hm (i.toNat-1) (by omega)).r (j.toNat-1) (by omega)
 refine wpAnyH_take (i:=4) (v := .bool true) rfl (by kernel_rfl) (by kernel_rfl) (by kernel_rfl) (fun _ _ _ h=>h) (.inl ⟨by rfl,fun w' hw => ?_⟩) hS ?_
 ·clear hw
  go_simp
 refine wpAnyH_take (i:=5) (v := .int .i64 j) rfl (by kernel_rfl) (by kernel_rfl) (by kernel_rfl) (fun _ _ _ h=>h) (.inl ⟨by rfl,fun w' hw => ?_⟩) hS ?_
 ·have h2:=hw.2.2.1
  clear hw
  go_simp
 refine wpAnyH_all (rs := [6]) (by kernel_rfl) (by decide) ?_
 intro j hj
 obtain rfl:j=6:=by simpa using hj
 refine wpOp_step rfl (fun K hK => ?_)
 clear hj
 go_simp
 refine(UN.out _).mono ?_
 rintro e w' ⟨rfl,rfl⟩
 refine hK _ _ ⟨hS,?_⟩
 clear hK K
 refine wpAnyH_take (i:=7) (v := .bool bj) rfl (by kernel_rfl) (by kernel_rfl) (by kernel_rfl) (fun _ _ _ h=>h) (.inl ⟨by rfl,fun w' hw => ?_⟩) hS ?_
 ·clear hw
  go_simp
 have HM:Hid (fA x i j n=bJ x n bj (lS x i j n) (iO i j)):=HM
 refine wpAnyH_all (rs := [10]) (by kernel_rfl) (by decide) ?_
 intro j hj
 obtain rfl:j=10:=by simpa using hj
 refine wpOp_step rfl (fun K hK => ?_)
 clear hj
 go_simp
 have hlz:w.heap.size+1+1+1+1<W.drew.heap.size:=by show _<W.heap.size; have:=Hs.out; omega
 refine(nU x n bj 177 178 _ _ (lS x i j n) (iO i j) W.drew ?o1 ?o2 Cr Ct ?o3 ?o4).mono ?_
 case o1=>exact hoff
 case o2=>exact hcell
 case o3=>exact fun hm h1 h2 h3 w' hb=>have hq:=FH.up hS hb; zy x i j n _ _ _ _ w' ⟨h1,h2⟩ hi hj0 hq.1 hq.2.2.2 hq.2.1 hq.2.2.1
 case o4=>exact fun h w' g hb=>have hq:=FH.up hS hb; zA g _ _ i j w' (hbd h).1 (hbd h).2 hq.2.1 hq.2.2.1
 rintro e w2 ⟨rfl,hb2⟩
 generalize bJ x n bj (lS x i j n) (iO i j)=r at *
 have hz2:Hid (w2.heap[w.heap.size+1+1+1+1]? = some (.cells (aF .i64 54 zero) 82 (0,0))):=(hb2.block _ hlz).trans Hz.out
 have hB2:Below w.heap.size w w2:=hB.trans ((VX hb2).mono hB.size)
 have hS:=FH.up hS hb2
 refine hK _ _ ⟨hS,?_⟩
 clear hK K
 clear hb2
 refine wpAnyH_take (i:=11) (v := .agg (aF .i64 54 r.1)) rfl (by kernel_rfl) (by kernel_rfl) (by kernel_rfl) (fun _ _ _ h=>h) (.inl ⟨by rfl,fun w' hw => ?_⟩) hS ?_
 ·clear hw
  go_simp
 refine wpAnyH_take (i:=12) (v := .int .i64 r.2) rfl (by kernel_rfl) (by kernel_rfl) (by kernel_rfl) (fun _ _ _ h=>h) (.inl ⟨by rfl,fun w' hw => ?_⟩) hS ?_
 ·clear hw
  go_simp
 refine wpAnyH_all (rs := [13]) (by kernel_rfl) (by decide) ?_
 intro j' hj'
 obtain rfl:j'=13:=by simpa using hj'
 clear hj'
 refine nA (by rfl) (by rfl) (fun K hK => ?_)
 refine wp_store_row 82 (.tmp 8) (.tmp 21) (by rfl) (w.heap.size+1+1+1+1) (aF .i64 54 r.1) (by rfl) (by rfl) 82 (aF .i64 54 zero) hz2.out (by rw[aM]; exact fB) (by rw[aM,aM]) (iw _ _ _) ?_
 have hend:=fu hB2 (by omega) hz2.out r.1
 have hS:=hS.row (aF .i64 54 r.1)
 refine hK _ _ ⟨hS,?_⟩
 clear hK K hz2 hB2
 generalize w2.setRow (w.heap.size+1+1+1+1) (aF .i64 54 r.1)=w3 at *
 refine wpAnyH_take (i:=14) (v := .int .i64 r.2) rfl (by kernel_rfl) (by kernel_rfl) (by kernel_rfl) (fun _ _ _ h=>h) (.inl ⟨by rfl,fun w' hw => ?_⟩) hS ?_
 ·clear hw
  go_simp
 refine wpAnyH_done (by kernel_rfl) ?_ _
 refine Bh _ _ (wp_ret ?_)
 rw[HM.out]
 exact lQ (p:=8) (q:=9) (by kernel_rfl) (by kernel_rfl) (by kernel_rfl) (by kernel_rfl) hend.1 hend.2
end
end Go.Proofs.YtahbiajdgealnaaDoor
namespace Go.Proofs.YtahbiajdgealnaaDoor
open Go.RowKit
namespace Rt
def L(x:Nat->Int)(k:Nat):Int:=G x k+F x k+R x 0 k+R x 1 k+R x 2 k+R x 3 k+R x 4 k+R x 5 k-C x k-R x k 0-R x k 1-R x k 2-R x k 3-R x k 4-R x k 5
def LV(x:Nat->Int):Prop := ∀ p,p<54->0<=x p/\x p<=1125899906842624
def All(x:Nat->Int):Prop := ∀ k,k<6->0<=L x k/\F x k<=C x k/\R x k k=0
def mX(x:Nat->Int):Int:=G x 0+G x 1+G x 2+G x 3+G x 4+G x 5
theorem wB{l:List Int}(h:iM l=true):iV l=(l.sum,true):=by unfold iV; rw[if_pos h]
theorem LV.outs{x:Nat->Int}(h:LV x)(k:Nat)(hk:k<6):iM (outs x k 6)=true:=by
 have e:=fun j (hj:j<6)=>h (18+k*6+j) (by omega)
 have c:=h (6+k) (by omega)
 unfold iM
 rw[List.all_eq_true]
 intro n hn
 have:n=x (6+k)\/n=x (18+k*6+0)\/n=x (18+k*6+1)\/n=x (18+k*6+2)\/n=x (18+k*6+3)\/n=x (18+k*6+4)\/n=x (18+k*6+5):=by
  simpa [Rt.outs,C,R,or_assoc] using hn
 unfold DC
 rw[Bool.and_eq_true,decide_eq_true_eq,decide_eq_true_eq]
 rcases this with h|h|h|h|h|h|h <;> subst h
 ·exact c
 all_goals exact e _ (by omega)
theorem LV.ins{x:Nat->Int}(h:LV x)(k:Nat)(hk:k<6):iM (ins x k 6)=true:=by
 have e:=fun j (hj:j<6)=>h (18+j*6+k) (by omega)
 have c:=h k (by omega)
 have f:=h (12+k) (by omega)
 unfold iM
 rw[List.all_eq_true]
 intro n hn
 have:n=x k\/n=x (12+k)\/n=x (18+0*6+k)\/n=x (18+1*6+k)\/n=x (18+2*6+k)\/n=x (18+3*6+k)\/n=x (18+4*6+k)\/n=x (18+5*6+k):=by
  simpa [Rt.ins,G,F,R,or_assoc] using hn
 unfold DC
 rw[Bool.and_eq_true,decide_eq_true_eq,decide_eq_true_eq]
 rcases this with h|h|h|h|h|h|h|h <;> subst h
 ·exact c
 ·exact f
 all_goals exact e _ (by omega)
theorem JV(x:Nat->Int)(k:Nat):(Rt.outs x k 6).sum=C x k+R x k 0+R x k 1+R x k 2+R x k 3+R x k 4+R x k 5:=by simp[Rt.outs]; omega
theorem MO(x:Nat->Int)(k:Nat):(Rt.ins x k 6).sum=G x k+F x k+R x 0 k+R x 1 k+R x 2 k+R x 3 k+R x 4 k+R x 5 k:=by simp[Rt.ins]; omega
theorem qw{x:Nat->Int}(h:LV x)(k:Nat)(hk:k<6):localM x k=(L x k,true):=by
 unfold localM
 rw[wB (h.outs k hk),wB (h.ins k hk),JV,MO]
 unfold L
 refine Prod.ext ?_ rfl
 dsimp only
 omega
theorem sQ{x:Nat->Int}(h:may x=true):LV x:=by
 intro p hp
 by_cases h1:p<6
 ·exact(nS h p h1).g
 by_cases h2:p<12
 ·have:=(nS h (p-6) (by omega)).c
  unfold C at this; rwa [show 6+(p-6)=p by omega]at this
 by_cases h3:p<18
 ·have:=(nS h (p-12) (by omega)).f
  unfold F at this; rwa [show 12+(p-12)=p by omega]at this
 have:=(nS h ((p-18) / 6) (by omega)).r ((p-18) % 6) (by omega)
 unfold R at this; rwa [show 18+(p-18) / 6*6+(p-18) % 6=p by omega]at this
theorem O1{x:Nat->Int}(h:LV x):iM (gs x)=true:=by
 unfold iM
 rw[List.all_eq_true]
 intro n hn
 have:n=x 0\/n=x 1\/n=x 2\/n=x 3\/n=x 4\/n=x 5:=by simpa [gs,or_assoc] using hn
 unfold DC
 rw[Bool.and_eq_true,decide_eq_true_eq,decide_eq_true_eq]
 rcases this with e|e|e|e|e|e <;> subst e <;> exact h _ (by omega)
theorem JW(x:Nat->Int):(gs x).sum=mX x:=by simp[gs,mX,G]; omega
theorem kK(x:Nat->Int):may x=true<->LV x/\All x/\mX x<=1125899906842624:=by
 constructor
 ·intro h
  have he:=sQ h
  refine⟨he,fun k hk => ?_,?_⟩
  ·have o:=nS h k hk
   have:=o.l
   rw[qw he k hk]at this
   exact⟨this,o.fc,o.rkk⟩
  unfold may at h
  rw[Bool.and_eq_true,Bool.and_eq_true,wB (O1 he),JW]at h
  simpa using h.2.2
 rintro ⟨he,ha,hg⟩
 have hk : ∀ k,k<6->uy x k=true:=by
  intro k hk
  obtain⟨a,b,c⟩:=ha k hk
  unfold uy
  rw[qw he k hk]
  simp only[Bool.and_eq_true,decide_eq_true_eq,beq_iff_eq]
  exact⟨⟨⟨trivial,a⟩,b⟩,c⟩
 have hn : ∀ n,n<=6->vQ x n=true:=by
  intro n
  induction n with
  | zero=>intro _; rfl
  | succ n ih=>intro hn; rw[show vQ x (n+1)=(vQ x n&&uy x n)from rfl,ih (by omega),hk n (by omega)]; rfl
 unfold may
 rw[hn 6 (by omega),wB (O1 he),JW,decide_eq_true hg]
 rfl
theorem Cu{x:Nat->Int}(h:may x=true)(k:Nat)(hk:k<6):dM x ((k:Int)+1)=L x k:=by
 unfold dM
 rw[h,Bool.and_true,if_pos (by unfold gN; simp; omega),show((k:Int)+1).toNat-1=k by omega,qw (sQ h) k hk]
def jm(x:Nat->Int):Int:=(C x 0-F x 0)+(C x 1-F x 1)+(C x 2-F x 2)+(C x 3-F x 3)+(C x 4-F x 4)+(C x 5-F x 5)
theorem ou(x:Nat->Int)(i j:Nat)(hi:i<6)(hj:j<6)(d:Int)(a b:Nat)(ha:a<6)(hb:b<6) :
 R (upd x (18+i*6+j) (x (18+i*6+j)+d)) a b=R x a b+(if a=i then if b=j then d else 0 else 0):=by
 unfold R upd
 by_cases h1:a=i
 ·by_cases h2:b=j
  ·subst h1 h2; simp
  rw[if_neg (by omega),if_pos h1,if_neg h2]; omega
 rw[if_neg (by omega),if_neg h1]; omega
theorem Ry(x:Nat->Int)(i j:Nat)(hi:i<6)(hj:j<6)(d:Int)(k:Nat)(hk:k<6) :
 L (upd x (18+i*6+j) (x (18+i*6+j)+d)) k=L x k+(if k=j then d else 0)-(if k=i then d else 0):=by
 have hG:G (upd x (18+i*6+j) (x (18+i*6+j)+d)) k=G x k:=dU _ _ _ _ (by omega)
 have hC:C (upd x (18+i*6+j) (x (18+i*6+j)+d)) k=C x k:=dU _ _ _ _ (by omega)
 have hF:F (upd x (18+i*6+j) (x (18+i*6+j)+d)) k=F x k:=dU _ _ _ _ (by omega)
 unfold L
 rw[hG,hC,hF,ou x i j hi hj d 0 k (by omega) hk,ou x i j hi hj d 1 k (by omega) hk,ou x i j hi hj d 2 k (by omega) hk,ou x i j hi hj d 3 k (by omega) hk,ou x i j hi hj d 4 k (by omega) hk,ou x i j hi hj d 5 k (by omega) hk,
  ou x i j hi hj d k 0 hk (by omega),ou x i j hi hj d k 1 hk (by omega),ou x i j hi hj d k 2 hk (by omega),ou x i j hi hj d k 3 hk (by omega),ou x i j hi hj d k 4 hk (by omega),ou x i j hi hj d k 5 hk (by omega)]
 have e1:(if 0=i then if k=j then d else 0 else 0)+(if 1=i then if k=j then d else 0 else 0)+(if 2=i then if k=j then d else 0 else 0)+(if 3=i then if k=j then d else 0 else 0)+(if 4=i then if k=j then d else 0 else 0)+(if 5=i then if k=j then d else 0 else 0)=(if k=j then d else 0):=by
  have:i=0\/i=1\/i=2\/i=3\/i=4\/i=5:=by omega
  rcases this with h|h|h|h|h|h <;> subst h <;> simp
 have e2:(if k=i then if 0=j then d else 0 else 0)+(if k=i then if 1=j then d else 0 else 0)+(if k=i then if 2=j then d else 0 else 0)+(if k=i then if 3=j then d else 0 else 0)+(if k=i then if 4=j then d else 0 else 0)+(if k=i then if 5=j then d else 0 else 0)=(if k=i then d else 0):=by
  have:j=0\/j=1\/j=2\/j=3\/j=4\/j=5:=by omega
  rcases this with h|h|h|h|h|h <;> subst h <;> simp
 generalize (if 0=i then if k=j then d else 0 else 0)=a0 at *
 generalize (if 1=i then if k=j then d else 0 else 0)=a1 at *
 generalize (if 2=i then if k=j then d else 0 else 0)=a2 at *
 generalize (if 3=i then if k=j then d else 0 else 0)=a3 at *
 generalize (if 4=i then if k=j then d else 0 else 0)=a4 at *
 generalize (if 5=i then if k=j then d else 0 else 0)=a5 at *
 generalize (if k=i then if 0=j then d else 0 else 0)=b0 at *
 generalize (if k=i then if 1=j then d else 0 else 0)=b1 at *
 generalize (if k=i then if 2=j then d else 0 else 0)=b2 at *
 generalize (if k=i then if 3=j then d else 0 else 0)=b3 at *
 generalize (if k=i then if 4=j then d else 0 else 0)=b4 at *
 generalize (if k=i then if 5=j then d else 0 else 0)=b5 at *
 rw[<- e1,<- e2]
 omega
end Rt
end Go.Proofs.YtahbiajdgealnaaDoor
namespace Go.Proofs.YtahbiajdgealnaaDoor
open Go.RowKit Rt
open Fx (ah aj au ak aJ aA aO eZ av bF dI aK x_len dw bX dn bG Lv sN Ln Ws Qv Wl Rp Wc Qs Wr Sb Lk Wk rC rV sR)
structure yM where
 inn:Nat->Bool
 left:Nat->Bool
 known:Nat->Int
 na:Option Addr
 nn:Nat
 nc:Nat
 ga:Option Addr
 gn:Nat
 gc:Nat
def iR(s:yM):Nat->Value:=fun p=>if p<6 then .bool (s.inn p)else if p<12 then .bool (s.left (p-6))else if p<18 then .int .u64 (s.known (p-12))else if p=18 then .slice s.na s.nn s.nc else .slice s.ga s.gn s.gc
theorem JX(s:yM){p:Nat}(h:p<6):iR s p = .bool (s.inn p):=by unfold iR; rw[if_pos h]
theorem Cv(s:yM){p q:Nat}(h:p<6)(e:q=p+6):iR s q = .bool (s.left p):=by subst e; unfold iR; rw[if_neg (by omega),if_pos (by omega),Nat.add_sub_cancel]
theorem zB(s:yM){p q:Nat}(h:p<6)(e:q=p+12):iR s q = .int .u64 (s.known p):=by subst e; unfold iR; rw[if_neg (by omega),if_neg (by omega),if_pos (by omega),Nat.add_sub_cancel]
def JY(id par:Int)(R:Nat->Int):Nat->Value:=fun p=>if p=0 then .int .u64 id else if p=1 then .int .u64 par else .int .i64 (R (p-2))
def V8(w:World)(a:Option Addr)(n:Nat)(id par:Nat->Int)(R:Nat->Nat->Int):Prop := ∀ k,k<n -> ∃ b off,a=some ⟨b,off,none⟩/\Fx.jT w b (off+56*k) 56 (JY (id k) (par k) (R k))
theorem V8.below{w w':World}{a:Option Addr}{n:Nat}{id par:Nat->Int}{R:Nat->Nat->Int}(h:V8 w a n id par R)(hb:Below w.heap.size w w'):V8 w' a n id par R:=fun k hk=>by
 obtain⟨b,off,e,hc⟩:=h k hk
 exact⟨b,off,e,hc.below hb (hc.lt (by omega))⟩
section
structure rU where
 s:yM
 id:Nat->Int
 par:Nat->Int
 R:Nat->Nat->Int
 g:Nat->Nat->Int
 tb:Nat
 ta:Option Addr
 tn:Nat
 tc:Nat
 t:Nat->Nat->Int
 ra:Nat->Option Addr
 rn:Nat->Nat
 rc:Nat->Nat
 rq:Nat->Nat->Int
structure fO where
 inn:Nat->Bool
 left:Nat->Bool
 known:Nat->Int
 nn:Nat
 id:Nat->Int
 par:Nat->Int
 R:Nat->Nat->Int
 gn:Nat
 g:Nat->Nat->Int
 tn:Nat
 t:Nat->Nat->Int
 rn:Nat->Nat
 rq:Nat->Nat->Int
def rU.core(m:rU):fO:=⟨m.s.inn,m.s.left,m.s.known,m.s.nn,m.id,m.par,m.R,m.s.gn,m.g,m.tn,m.t,m.rn,m.rq⟩
def ldY(m:rU):Nat->Value:=fun p=>if p<20 then iR m.s p else if p=20 then .pointer (some ⟨m.tb,0,none⟩)else .slice (m.ra (p-21)) (m.rn (p-21)) (m.rc (p-21))
def iJ(x:Nat->Int):Nat->Value:=fun p=>if p=0 then .int .i64 (x 0)else if p=3 then .int .i64 (x 3)else .int .u64 (x p)
def ndX(m:rU):Nat->Value:=Fx.flat 56 fun k=>JY (m.id k) (m.par k) (m.R k)
def grX(m:rU):Nat->Value:=Fx.flat 5 fun k=>iJ (m.g k)
def trX(t:Nat->Nat->Int):Nat->Value:=Fx.flat 2 fun k=>Fx.rv .u64 (t k)
structure JZ(w:World)(p:Nat)(m:rU):Prop where
 c:Fx.jT w p 0 27 (ldY m)
 an:Fx.qB w m.s.na m.s.nn 56 (ndX m)
 ag:Fx.qB w m.s.ga m.s.gn 5 (grX m)
 tc:Fx.jT w m.tb 0 1 (fun _ => .slice m.ta m.tn m.tc)
 at2:Fx.qB w m.ta m.tn 2 (trX m.t)
 ar : ∀ i,i<6->Fx.qB w (m.ra i) (m.rn i) 1 (Fx.rv .u64 (m.rq i))
 bn:m.s.nn<=1000000
 bg:m.s.gn<=1000000
 bt:m.tn<=1000000
 br : ∀ i,i<6->m.rn i<=1000000
section
variable {w w':World} {p:Nat} {m:rU}
theorem JZ.n(h:JZ w p m):V8 w m.s.na m.s.nn m.id m.par m.R:=fun _ hk=>h.an.at hk
theorem JZ.g(h:JZ w p m) : ∀ k,k<m.s.gn -> ∃ b off,m.s.ga=some ⟨b,off,none⟩/\Fx.jT w b (off+5*k) 5 (iJ (m.g k)):=fun _ hk=>h.ag.at hk
theorem JZ.t(h:JZ w p m) : ∀ k,k<m.tn -> ∃ b off,m.ta=some ⟨b,off,none⟩/\Fx.jT w b (off+2*k) 2 (Fx.rv .u64 (m.t k)):=fun _ hk=>h.at2.at hk
theorem JZ.r(h:JZ w p m) : ∀ i,i<6 -> ∀ k,k<m.rn i -> ∃ b off,m.ra i=some ⟨b,off,none⟩/\Fx.jT w b (off+k) 1 (fun _ => .int .u64 (m.rq i k)):=fun i hi k hk=>by
 obtain⟨b,off,e,hc⟩:=h.ar i hi (by omega)
 refine⟨b,off,e,fun j hj => ?_⟩
 obtain rfl:j=0:=by omega
 exact hc k (by omega)
theorem JZ.below(h:JZ w p m)(hb:Below w.heap.size w w'):JZ w' p m where
 c:=h.c.below hb (h.c.lt (by omega))
 an:=h.an.up hb rfl
 ag:=h.ag.up hb rfl
 tc:=h.tc.below hb (h.tc.lt (by omega))
 at2:=h.at2.up hb rfl
 ar:=fun i hi=>(h.ar i hi).up hb rfl
 bn:=h.bn
 bg:=h.bg
 bt:=h.bt
 br:=h.br
end
def gX(P:Nat->Bool):Nat->Int
 | 0 => -1
 | n+1=>if 0<=gX P n then gX P n else if P n then(n:Int)else -1
theorem iZ(P:Nat->Bool) : ∀ n:Nat,(∃ k:Nat,k<n/\gX P n=(k:Int)/\P k=true)\/(gX P n = -1 /\ ∀ i,i<n->P i=false)
 | 0 => .inr ⟨rfl,fun i h=>absurd h (by omega)⟩
 | n+1=>by
   rcases iZ P n with ⟨k,hk,e,hp⟩|⟨e,hp⟩
   ·exact .inl ⟨k,by omega,by simp only[gX]; rw[e,if_pos (by omega)],hp⟩
   ·by_cases h:P n=true
    ·exact .inl ⟨n,by omega,by simp only[gX]; rw[e,if_neg (by omega),h]; rfl,h⟩
    ·rw[Bool.not_eq_true]at h
     refine .inr ⟨by simp only[gX]; rw[e,if_neg (by omega),h]; rfl,fun i hi => ?_⟩
     by_cases e2:i=n
     ·subst e2; exact h
     ·exact hp i (by omega)
def rU.node(m:rU)(id:Int):Int:=gX (fun i=>decide (m.id i=id)) m.s.nn
def rU.grant(m:rU)(o r:Int):Int:=gX (fun i=>decide (m.g i 0=o)&&decide (m.g i 1=r)) m.s.gn
def rU.uz(m:rU)(a:Nat)(r:Int):Int:=gX (fun i=>decide (m.rq a i=r)) (m.rn a)
structure J2(w:World)(tb:Nat)(ta:Option Addr)(tn tc:Nat)(t:Nat->Nat->Int):Prop where
 tc:Fx.jT w tb 0 1 (fun _ => .slice ta tn tc)
 t : ∀ k,k<tn -> ∃ b off,ta=some ⟨b,off,none⟩/\Fx.jT w b (off+2*k) 2 (Fx.rv .u64 (t k))
 bt:tn<=1000000
theorem J2.below{w w':World}{tb:Nat}{ta:Option Addr}{tn tc:Nat}{t:Nat->Nat->Int}(h:J2 w tb ta tn tc t)(hb:Below w.heap.size w w'):J2 w' tb ta tn tc t where
 tc:=h.tc.below hb (h.tc.lt (by omega))
 t:=fun k hk=>by obtain⟨b,off,e,hc⟩:=h.t k hk; exact⟨b,off,e,hc.below hb (hc.lt (by omega))⟩
 bt:=h.bt
def aR(t:Nat->Nat->Int)(tn:Nat)(x:Int):Int:=gX (fun i=>decide (t i 0=x)) tn
def bE(t:Nat->Nat->Int)(tn:Nat):Nat->Int->Int
 | 0,x=>x
 | k+1,x=>t (aR t tn (bE t tn k x)).toNat 1
end
namespace Rt
theorem pF{t:Nat->Nat->Int}{tn:Nat}{x:Int}(h:0<=aR t tn x) : ∃ j:Nat,j<tn/\aR t tn x=(j:Int)/\t j 0=x:=by
 rcases iZ (fun i=>decide (t i 0=x)) tn with ⟨k,hk,e,hp⟩|⟨e,_⟩
 ·exact⟨k,hk,e,of_decide_eq_true hp⟩
 unfold aR at h; rw[e]at h; omega
end Rt
namespace Rt
def qG(k tb:Nat):rU := { s:=⟨fun i=>decide (i<k),fun _=>false,fun _=>0,none,0,0,none,0,0⟩,id:=fun _=>0,par:=fun _=>0,R:=fun _ _=>0,g:=fun _ _=>0,tb:=tb,ta:=none,tn:=0,tc:=0,t:=fun _ _=>0,ra:=fun _=>none,rn:=fun _=>0,rc:=fun _=>0,rq:=fun _ _=>0 }
end Rt
-- (*TD.Ledger).Node is not in this seat
namespace Rt
def sS(t:Nat->Nat->Int)(k:Nat)(id par:Int):Nat->Nat->Int:=fun i=>if i<k then t i else if i=k then(fun j=>if j=0 then id else par)else t (i-1)
def zC(t:Nat->Nat->Int)(tn:Nat)(x:Int):Prop := ∀ i,i<4->0<=aR t tn (bE t tn i x)
open Classical in
noncomputable def J3(t:Nat->Nat->Int)(tn:Nat)(id par:Int):Int:=if id=0 then 1 else if 0<=aR t tn id then 14 else if par≠0/\aR t tn par<0 then 9 else if 32<=tn\/zC t tn par then 6 else 0
end Rt
namespace Rt
def tY(o seq:Int):Int:=if 1<=o/\o<=6/\1<=seq/\seq<1099511627776 then 1099511627776*o+seq else 0
end Rt
section
theorem J4(id par:Int)(R:Nat->Int)(j:Nat):(JY id par R j).oneCell'=true:=by unfold JY; split <;> (try split) <;> rfl
theorem Rz(id par:Int)(R:Nat->Int){q p:Nat}(h:q=p+2):JY id par R q = .int .i64 (R p):=by subst h; unfold JY; rw[if_neg (by omega),if_neg (by omega),Nat.add_sub_cancel]
theorem Az(x:Nat->Int)(j:Nat):(iJ x j).oneCell'=true:=by unfold iJ; split <;> (try split) <;> rfl
theorem MP(m:yM)(j:Nat):(iR m j).oneCell'=true:=by unfold iR; repeat (first|rfl|split)
def oJ(m:rU)(i:Nat):Value := .slice (m.ra i) (m.rn i) (m.rc i)
def El(w:World)(B k:Nat)(m:rU):Prop :=
 (∀ i,i<k->Fx.Own w B 22 1 (oJ m i) (m.rn i) (Fx.rv .u64 (m.rq i))) /\ ∀ i j,i<k->j<k->i≠j -> ∀ g,(oJ m i).ownBlock=some g->(oJ m j).ownBlock≠some g
section
variable {w w':World} {B k:Nat} {m:rU}
theorem El.up(h:El w B k m)(hb:Below w.heap.size w w'):El w' B k m:=⟨fun i hi=>(h.1 i hi).up hb,h.2⟩
theorem El.aU{Ts:List TypeId}(h:El w B k m)(hs:Fx.gD Ts w w')(ne:Ts.contains 22=false):El w' B k m:=⟨fun i hi=>(h.1 i hi).aU hs ne,h.2⟩
theorem El.zero(w:World)(B:Nat)(m:rU):El w B 0 m:=⟨fun _ h=>absurd h (Nat.not_lt_zero _),fun _ _ h=>absurd h (Nat.not_lt_zero _)⟩
theorem El.snoc{m':rU}(h:El w B k m)(hm : ∀ i,i<k->oJ m' i=oJ m i/\m'.rn i=m.rn i/\m'.rq i=m.rq i)(hO:Fx.Own w B 22 1 (oJ m' k) (m'.rn k) (Fx.rv .u64 (m'.rq k)))(hf : ∀ i,i<k -> ∀ g,(oJ m i).ownBlock=some g->(oJ m' k).ownBlock≠some g):El w B (k+1) m':=by
 refine⟨fun i hi => ?_,fun i j hi hj hne g hg => ?_⟩
 ·by_cases e:i=k
  ·subst e; exact hO
  obtain⟨h1,h2,h3⟩:=hm i (by omega)
  rw[h1,h2,h3]; exact h.1 i (by omega)
 by_cases ei:i=k
 ·subst ei
  by_cases ej:j=i
  ·exact absurd ej.symm hne
  intro e2
  rw[(hm j (by omega)).1]at e2
  exact hf j (by omega) g e2 hg
 rw[(hm i (by omega)).1]at hg
 by_cases ej:j=k
 ·subst ej; exact hf i (by omega) g hg
 rw[(hm j (by omega)).1]; exact h.2 i j (by omega) (by omega) hne g hg
end
structure Iy(w:World)(B p:Nat)(m:rU):Prop where
 c:Fx.aP w p 27 (ldY m) 56
 n:Fx.Own w B 84 56 (.slice m.s.na m.s.nn m.s.nc) m.s.nn (ndX m)
 g:Fx.Own w B 99 5 (.slice m.s.ga m.s.gn m.s.gc) m.s.gn (grX m)
 tc:Fx.aP w m.tb 1 (fun _ => .slice m.ta m.tn m.tc) 111
 t:Fx.Own w B 172 2 (.slice m.ta m.tn m.tc) m.tn (trX m.t)
 r:El w B 6 m
 pB:B<=p
 tB:B<=m.tb
 bn:m.s.nn<=1000
 bg:m.s.gn<=1000000
 bt:m.tn<=1000
 br : ∀ i,i<6->m.rn i<=1000000
section
variable {w w':World} {B p:Nat} {m:rU}
theorem Iy.up(h:Iy w B p m)(hb:Below w.heap.size w w'):Iy w' B p m := { h with c:=h.c.aC (Sb hb) (Nat.ne_of_lt h.c.lt),n:=h.n.up hb,g:=h.g.up hb,tc:=h.tc.aC (Sb hb) (Nat.ne_of_lt h.tc.lt),t:=h.t.up hb,r:=h.r.up hb }
def MQ:List Nat := [56,84,99,111,172,22]
theorem Iy.aU{Ts:List TypeId}(h:Iy w B p m)(hs:Fx.gD Ts w w')(ne:(MQ.all fun T => !Ts.contains T)=true):Iy w' B p m:=by
 have hq : ∀ T'∈MQ,Ts.contains T'=false:=fun T' hT=>by
  have:=List.all_eq_true.1 ne T' hT
  simpa using this
 exact { h with
  c:=h.c.aU hs (hq _ (by decide)),n:=h.n.aU hs (hq _ (by decide)),g:=h.g.aU hs (hq _ (by decide)),tc:=h.tc.aU hs (hq _ (by decide)),t:=h.t.aU hs (hq _ (by decide)),r:=h.r.aU hs (hq _ (by decide)) }
theorem Iy.mono{B':Nat}(h:Iy w B p m)(hB:B'<=B):Iy w B' p m := { h with n:=h.n.mono hB,g:=h.g.mono hB,t:=h.t.mono hB,r:=⟨fun i hi=>(h.r.1 i hi).mono hB,h.r.2⟩,pB:=Nat.le_trans hB h.pB,tB:=Nat.le_trans hB h.tB }
end
def aY{α:Type}(f:Nat->α)(k:Nat)(v:α):Nat->α:=fun i=>if i=k then v else f i
end
namespace Rt
def pG(id:Nat->Int)(o:Int):Nat->Nat
 | 0=>0
 | n+1=>pG id o n+if id n / 1099511627776=o then 1 else 0
noncomputable def pI(L:fO)(v:EvM):Int:=if 5<=pG L.id v.o L.nn\/140737488355328<v.bL then 6 else J3 L.t L.tn (tY v.o v.seq) v.node
def pJ(f:Nat->Int)(n:Nat)(x:Int):Nat:=Fx.down (fun i=>decide (x<f i)) n
def pK(L:fO)(v:EvM):fO :=
 { L with nn:=L.nn+1,id:=Fx.dB L.id (pJ L.id L.nn (tY v.o v.seq)) (tY v.o v.seq),par:=Fx.dB L.par (pJ L.id L.nn (tY v.o v.seq)) v.node,
          R:=Fx.dB L.R (pJ L.id L.nn (tY v.o v.seq)) (upd (fun _=>0) (v.o-1).toNat v.bL),
          tn:=L.tn+1,t:=sS L.t (Fx.down (fun i=>decide (tY v.o v.seq<L.t i 0)) L.tn) (tY v.o v.seq) v.node }
end Rt
end Go.Proofs.YtahbiajdgealnaaDoor
namespace Go.Proofs.YtahbiajdgealnaaDoor
open Go.RowKit
namespace Rt
theorem nV(x:Nat->Int)(n:Int)(is:Bool)(em:Int)(off:Nat) :
 ((bJ x n is em off).1=zero/\(bJ x n is em off).2≠0 /\ ¬ (may x=true/\1<=n/\n<=1125899906842624/\is=true/\em=0/\x off+n<=1125899906842624)) \/
 ((may x=true/\1<=n/\n<=1125899906842624/\is=true/\em=0/\x off+n<=1125899906842624)/\bJ x n is em off=(upd x off (x off+n),0)):=by
 unfold bJ
 by_cases h1:may x=true
 ·by_cases h2:1<=n
  ·by_cases h3:n<=1125899906842624
   ·rw[h1,decide_eq_true h2,decide_eq_true h3]
    simp only[Bool.and_self,if_true]
    cases is
    ·left; exact⟨rfl,(by show(10:Int)≠0; decide),fun h=>by cases h.2.2.2.1⟩
    by_cases h4:em=0
    ·by_cases h5:x off+n<=1125899906842624
     ·right; exact⟨⟨trivial,h2,h3,rfl,h4,h5⟩,by rw[if_pos rfl,if_pos h4,if_pos h5]⟩
     left; rw[if_pos rfl,if_pos h4,if_neg h5]; exact⟨rfl,by decide,fun h=>h5 h.2.2.2.2.2⟩
    left; rw[if_pos rfl,if_neg h4]; exact⟨rfl,h4,fun h=>h4 h.2.2.2.2.1⟩
   left; rw[decide_eq_false h3,Bool.and_false,if_neg (by decide)]; exact⟨rfl,by decide,fun h=>h3 h.2.2.1⟩
  left; rw[decide_eq_false h2,Bool.and_false,Bool.false_and,if_neg (by decide)]; exact⟨rfl,by decide,fun h=>h2 h.2.1⟩
 left; rw[show may x=false by simpa using h1,Bool.false_and,Bool.false_and,if_neg (by decide)]; exact⟨rfl,by decide,fun h=>by cases h.1⟩
theorem Em{x:Nat->Int}(h:LV x){off:Nat}{n:Int}(h1:1<=n)(h2:x off+n<=1125899906842624)(ho:off<54):LV (upd x off (x off+n)):=by
 intro p hp
 unfold upd
 split
 ·have:=h off ho; omega
 exact h p hp
theorem sU{i:Int}(h:gN i=true) : ∃ a:Nat,a<6/\i=(a:Int)+1/\i.toNat-1=a:=by
 have:1<=i/\i<=6:=by unfold gN at h; simpa using h
 exact⟨(i-1).toNat,by omega,by omega,by omega⟩
structure Moved(x y:Nat->Int)(a b:Nat)(n:Int):Prop where
 may:may y=true
 l : ∀ k,k<6->L y k=L x k+(if k=b then n else 0)-(if k=a then n else 0)
 g:mX y=mX x
 u:jm y=jm x
theorem FI{x:Nat->Int}{i j n:Int}(h:(fA x i j n).2=0) : ∃ a b:Nat,a<6/\b<6/\a≠b/\i=(a:Int)+1/\j=(b:Int)+1/\1<=n/\n<=1125899906842624/\n<=L x a/\Moved x (fA x i j n).1 a b n/\(fA x i j n).1=upd x (18+a*6+b) (x (18+a*6+b)+n):=by
 unfold fA at *
 rcases nV x n (gN i&&gN j) (lS x i j n) (iO i j)with ⟨_,h2,_⟩|⟨⟨hm,h1,h2,hr,he,hx⟩,heq⟩
 ·exact absurd h h2
 rw[Bool.and_eq_true]at hr
 obtain⟨a,ha,hia,O4⟩:=sU hr.1
 obtain⟨b,hb,hjb,htb⟩:=sU hr.2
 have ho:iO i j=18+a*6+b:=by unfold iO; rw[O4,htb]
 rw[ho]at heq hx
 rw[ho]
 have hne:a≠b:=by
  intro hab
  unfold lS at he
  rw[if_pos (by rw[hia,hjb,hab])]at he
  cases he
 have hL:n<=L x a:=by
  unfold lS at he
  rw[if_neg (by omega)]at he
  by_cases hl:dM x i<n
  ·rw[decide_eq_true hl]at he; cases he
  ·rw[hia,Cu hm a ha]at hl; omega
 obtain⟨e,al,gs⟩:=(kK x).1 hm
 have hl:=Ry x a b ha hb n
 have o1 : ∀ p,p<18->upd x (18+a*6+b) (x (18+a*6+b)+n) p=x p:=fun p hp=>dU _ _ _ _ (by omega)
 have hg:mX (upd x (18+a*6+b) (x (18+a*6+b)+n))=mX x:=by unfold mX G; rw[o1 0 (by omega),o1 1 (by omega),o1 2 (by omega),o1 3 (by omega),o1 4 (by omega),o1 5 (by omega)]
 have J5:(bJ x n (gN i&&gN j) (lS x i j n) (18+a*6+b)).1=upd x (18+a*6+b) (x (18+a*6+b)+n):=by rw[heq]
 rw[J5]
 refine⟨a,b,ha,hb,hne,hia,hjb,h1,h2,hL,⟨?_,hl,hg,?_⟩,rfl⟩
 ·rw[kK]
  refine⟨Em e h1 hx (by omega),fun k hk => ?_,by rw[hg]; exact gs⟩
  obtain⟨c1,c2,c3⟩:=al k hk
  refine⟨?_,?_,?_⟩
  ·rw[hl k hk]
   split
   ·split <;> omega
   split
   ·rename_i hka; subst hka; omega
   omega
  ·unfold F C at *; rw[o1 _ (by omega),o1 _ (by omega)]; exact c2
  unfold R at *; rw[dU _ _ _ _ (by omega)]; exact c3
 unfold jm C F; simp only[o1 _ (show 6+0<18 by omega),o1 _ (show 6+1<18 by omega),o1 _ (show 6+2<18 by omega),o1 _ (show 6+3<18 by omega),o1 _ (show 6+4<18 by omega),o1 _ (show 6+5<18 by omega),o1 _ (show 12+0<18 by omega),o1 _ (show 12+1<18 by omega),o1 _ (show 12+2<18 by omega),o1 _ (show 12+3<18 by omega),o1 _ (show 12+4<18 by omega),o1 _ (show 12+5<18 by omega)]
theorem xK(x:Nat->Int)(off:Nat)(ho:off<18)(v:Int)(a b:Nat):R (upd x off v) a b=R x a b:=dU _ _ _ _ (by omega)
theorem J6(x:Nat->Int)(off:Nat)(ho:off<18)(v:Int)(k:Nat):L (upd x off v) k=L x k+(G (upd x off v) k-G x k)+(F (upd x off v) k-F x k)-(C (upd x off v) k-C x k):=by
 unfold L
 simp only[xK x off ho v]
 omega
theorem UO(x:Nat->Int)(a:Nat)(n:Int)(k:Nat):C (upd x (6+a) (x (6+a)+n)) k=C x k+(if k=a then n else 0):=by
 unfold C upd
 by_cases h:k=a
 ·subst h; simp
 rw[if_neg (by omega),if_neg h]; omega
theorem UQ(x:Nat->Int)(a:Nat)(n:Int)(k:Nat):F (upd x (12+a) (x (12+a)+n)) k=F x k+(if k=a then n else 0):=by
 unfold F upd
 by_cases h:k=a
 ·subst h; simp
 rw[if_neg (by omega),if_neg h]; omega
theorem UR(x:Nat->Int)(a:Nat)(n:Int)(k:Nat):G (upd x a (x a+n)) k=G x k+(if k=a then n else 0):=by
 unfold G upd
 by_cases h:k=a
 ·subst h; simp
 rw[if_neg h,if_neg h]; omega
theorem six(a:Nat)(ha:a<6)(n:Int):(if 0=a then n else 0)+(if 1=a then n else 0)+(if 2=a then n else 0)+(if 3=a then n else 0)+(if 4=a then n else 0)+(if 5=a then n else 0)=n:=by
 have:a=0\/a=1\/a=2\/a=3\/a=4\/a=5:=by omega
 rcases this with h|h|h|h|h|h <;> subst h <;> simp
theorem FJ{x:Nat->Int}{i n:Int}(h:(bf x i n).2=0) : ∃ a:Nat,a<6/\i=(a:Int)+1/\1<=n/\n<=1125899906842624/\n<=L x a/\C x a+n<=1125899906842624/\may (bf x i n).1=true /\
 (∀ k,k<6->L (bf x i n).1 k=L x k-(if k=a then n else 0))/\mX (bf x i n).1=mX x/\jm (bf x i n).1=jm x+n/\(bf x i n).1=upd x (6+a) (x (6+a)+n):=by
 unfold bf at *
 rcases nV x n (gN i) (pE x i n) (6+(i.toNat-1))with ⟨_,h2,_⟩|⟨⟨hm,h1,h2,hr,he,hx⟩,heq⟩
 ·exact absurd h h2
 obtain⟨a,ha,hia,O4⟩:=sU hr
 rw[O4]at heq hx
 rw[O4]
 have hL:n<=L x a:=by
  unfold pE at he
  by_cases hl:dM x i<n
  ·rw[decide_eq_true hl]at he; cases he
  ·rw[hia,Cu hm a ha]at hl; omega
 obtain⟨e,al,gs⟩:=(kK x).1 hm
 have J5:(bJ x n (gN i) (pE x i n) (6+a)).1=upd x (6+a) (x (6+a)+n):=by rw[heq]
 rw[J5]
 have hC:=UO x a n
 have hG : ∀ k,k<6->G (upd x (6+a) (x (6+a)+n)) k=G x k:=fun k hk=>dU _ _ _ _ (by omega)
 have hF : ∀ k,k<6->F (upd x (6+a) (x (6+a)+n)) k=F x k:=fun k hk=>dU _ _ _ _ (by omega)
 have hl : ∀ k,k<6->L (upd x (6+a) (x (6+a)+n)) k=L x k-(if k=a then n else 0):=by
  intro k hk
  rw[J6 x (6+a) (by omega),hG k hk,hF k hk,hC k]; omega
 have hg:mX (upd x (6+a) (x (6+a)+n))=mX x:=by unfold mX; rw[hG 0 (by omega),hG 1 (by omega),hG 2 (by omega),hG 3 (by omega),hG 4 (by omega),hG 5 (by omega)]
 refine⟨a,ha,hia,h1,h2,hL,hx,?_,hl,hg,?_,rfl⟩
 ·rw[kK]
  refine⟨Em e h1 hx (by omega),fun k hk => ?_,by rw[hg]; exact gs⟩
  obtain⟨c1,c2,c3⟩:=al k hk
  refine⟨?_,?_,?_⟩
  ·rw[hl k hk]
   split
   ·rename_i hka; subst hka; omega
   omega
  ·rw[hF k hk,hC k]; split <;> omega
  rw[xK x (6+a) (by omega)]; exact c3
 unfold jm
 rw[hF 0 (by omega),hF 1 (by omega),hF 2 (by omega),hF 3 (by omega),hF 4 (by omega),hF 5 (by omega),hC 0,hC 1,hC 2,hC 3,hC 4,hC 5]
 have:=six a ha n
 omega
theorem FK{x:Nat->Int}{i n:Int}(h:(bA x i n).2=0) : ∃ a:Nat,a<6/\i=(a:Int)+1/\1<=n/\n<=1125899906842624/\n<=C x a-F x a/\may (bA x i n).1=true /\
 (∀ k,k<6->L (bA x i n).1 k=L x k+(if k=a then n else 0))/\mX (bA x i n).1=mX x/\jm (bA x i n).1=jm x-n/\(bA x i n).1=upd x (12+a) (x (12+a)+n):=by
 unfold bA at *
 rcases nV x n (gN i) (oq x i n) (12+(i.toNat-1))with ⟨_,h2,_⟩|⟨⟨hm,h1,h2,hr,he,hx⟩,heq⟩
 ·exact absurd h h2
 obtain⟨a,ha,hia,O4⟩:=sU hr
 rw[O4]at heq hx
 rw[O4]
 have hL:n<=C x a-F x a:=by
  unfold oq at he
  rw[O4]at he
  by_cases hl:C x a-F x a<n
  ·rw[decide_eq_true hl]at he; cases he
  ·omega
 obtain⟨e,al,gs⟩:=(kK x).1 hm
 have J5:(bJ x n (gN i) (oq x i n) (12+a)).1=upd x (12+a) (x (12+a)+n):=by rw[heq]
 rw[J5]
 have hF:=UQ x a n
 have hG : ∀ k,k<6->G (upd x (12+a) (x (12+a)+n)) k=G x k:=fun k hk=>dU _ _ _ _ (by omega)
 have hC : ∀ k,k<6->C (upd x (12+a) (x (12+a)+n)) k=C x k:=fun k hk=>dU _ _ _ _ (by omega)
 have hl : ∀ k,k<6->L (upd x (12+a) (x (12+a)+n)) k=L x k+(if k=a then n else 0):=by
  intro k hk
  rw[J6 x (12+a) (by omega),hG k hk,hF k,hC k hk]; omega
 have hg:mX (upd x (12+a) (x (12+a)+n))=mX x:=by unfold mX; rw[hG 0 (by omega),hG 1 (by omega),hG 2 (by omega),hG 3 (by omega),hG 4 (by omega),hG 5 (by omega)]
 refine⟨a,ha,hia,h1,h2,hL,?_,hl,hg,?_,rfl⟩
 ·rw[kK]
  refine⟨Em e h1 hx (by omega),fun k hk => ?_,by rw[hg]; exact gs⟩
  obtain⟨c1,c2,c3⟩:=al k hk
  refine⟨?_,?_,?_⟩
  ·rw[hl k hk]; split <;> omega
  ·rw[hF k,hC k hk]
   split
   ·rename_i hka; subst hka; omega
   omega
  rw[xK x (12+a) (by omega)]; exact c3
 unfold jm
 rw[hC 0 (by omega),hC 1 (by omega),hC 2 (by omega),hC 3 (by omega),hC 4 (by omega),hC 5 (by omega),hF 0,hF 1,hF 2,hF 3,hF 4,hF 5]
 have:=six a ha n
 omega
end Rt
end Go.Proofs.YtahbiajdgealnaaDoor
namespace Go.Proofs.YtahbiajdgealnaaDoor
open Go.RowKit Rt
open Fx (ah aj au ak aJ aA aO eZ av bF dI aK x_len dw bX dn bG Lv sN Ln Ws Qv Wl Rp Wc Qs Wr Sb Lk Wk rC rV sR)
namespace Rt
def dG(f:(Nat->Int)->(Nat->Int) × Int)(idx:Nat->Nat)(R:Nat->Nat->Int):Nat->(Nat->Nat->Int) × Int
 | 0=>(R,0)
 | j+1=>if(dG f idx R j).2=0 then(if(f ((dG f idx R j).1 (idx j))).2=0 then(aY (dG f idx R j).1 (idx j) (f ((dG f idx R j).1 (idx j))).1,0)else((dG f idx R j).1,(f ((dG f idx R j).1 (idx j))).2))else dG f idx R j
def lead(P:Nat->Bool):Nat->Nat
 | 0=>0
 | n+1=>if lead P n=n/\P n=true then n+1 else lead P n
theorem Cw{P:Nat->Bool} : ∀ {n:Nat},(∀ i,i<n->P i=true)->lead P n=n
 | 0,_=>rfl
 | n+1,h=>by unfold lead; rw[if_pos ⟨Cw fun i hi=>h i (by omega),h n (by omega)⟩]
theorem FL{P:Nat->Bool}{K:Nat}(h1 : ∀ i,i<K->P i=true)(h2:P K=false) : ∀ {n:Nat},K<=n->lead P n=K
 | 0,h=>by unfold lead; omega
 | n+1,h=>by
   unfold lead
   by_cases e:K=n+1
   ·rw[if_pos ⟨Cw fun i hi=>h1 i (by omega),h1 n (by omega)⟩]; exact e.symm
   ·rw[FL h1 h2 (n:=n) (by omega),if_neg]
    rintro ⟨h3,h4⟩
    subst h3; rw[h2]at h4; cases h4
def fF(t:Nat->Nat->Int)(tn:Nat)(x:Int):Nat:=lead (fun i=>decide (0<=aR t tn (bE t tn i x))) 1000
theorem sV{t:Nat->Nat->Int}{tn K D:Nat}{x:Int}(h1 : ∀ i,i<K->0<=aR t tn (bE t tn i x))(h2:aR t tn (bE t tn K x)<0)(hD:aR t tn (bE t tn D x)<0)(hD2:D<=1000):K=fF t tn x:=by
 have hK:K<=1000:=by
  rcases Nat.lt_or_ge D K with h|h
  ·have:=h1 D h; omega
  ·omega
 exact(FL (fun i hi=>decide_eq_true (h1 i hi)) (decide_eq_false (by omega)) hK).symm
end Rt
def fO.node(L:fO)(x:Int):Int:=gX (fun i=>decide (L.id i=x)) L.nn
def fO.grant(L:fO)(o r:Int):Int:=gX (fun i=>decide (L.g i 0=o)&&decide (L.g i 1=r)) L.gn
def fO.uz(L:fO)(a:Nat)(r:Int):Int:=gX (fun i=>decide (L.rq a i=r)) (L.rn a)
namespace Rt
def qH(L:fO)(x:Int)(i:Nat):Nat:=(L.node (bE L.t L.tn i x)).toNat
def wC(v:EvM):Nat->Int:=fun j=>if j=0 then v.o else if j=1 then v.req else if j=2 then v.node else if j=3 then v.bL else 0
def DI(v:EvM)(x:Nat->Int):Bool:=decide (v.o<x 0) || (decide (x 0=v.o)&&decide (v.req<x 1))
def bC(v:EvM):Nat:=(v.o-1).toNat
def ru(L:fO)(v:EvM):(Nat->Nat->Int) × Int:=dG (fun x=>bf x v.o v.bL) (qH L v.node) L.R (fF L.t L.tn v.node)
def nW(L:fO)(v:EvM):Int:=if 0<=L.uz (bC v) v.req then 14 else if fF L.t L.tn v.node=0 then 9 else(ru L v).2
def pO(L:fO)(a:Nat)(r:Int):fO := { L with rn:=aY L.rn a (L.rn a+1),rq:=aY L.rq a (aY (L.rq a) (L.rn a) r) }
def ku(L:fO)(v:EvM):fO :=
 pO { L with R:=(ru L v).1,gn:=L.gn+1,g:=Fx.dB L.g (Fx.down (fun i=>DI v (L.g i)) L.gn) (wC v) } (bC v) v.req
theorem El.app{w w':World}{B a g cap:Nat}{r:Int}{m m':rU}(h:El w B 6 m)(_ha:a<6)(h1:m'.ra=aY m.ra a (some ⟨g,0,none⟩))(h2:m'.rn=aY m.rn a (m.rn a+1))(h3:m'.rc=aY m.rc a cap)(h4:m'.rq=aY m.rq a (aY (m.rq a) (m.rn a) r))
 (hO:Fx.Own w' B 22 1 (.slice (some ⟨g,0,none⟩) (m.rn a+1) cap) (m.rn a+1) (Fx.rv .u64 (aY (m.rq a) (m.rn a) r))) (hg:w.grownBy w' (oJ m a).ownBlock) (hgv:(oJ m a).ownBlock=some g\/g=w.heap.size):El w' B 6 m':=by
 have e1 : ∀ i,i≠a->oJ m' i=oJ m i:=fun i hi=>by unfold oJ; rw[h1,h2,h3]; simp[aY,hi]
 have e2:oJ m' a = .slice (some ⟨g,0,none⟩) (m.rn a+1) cap:=by unfold oJ; rw[h1,h2,h3]; simp[aY]
 have hne : ∀ i,i<6->i≠a -> ∀ q,(oJ m i).ownBlock=some q->q≠g:=fun i hi hia q hq e=>by
  subst e
  rcases hgv with e3|e3
  ·exact h.2 i a hi _ha hia q hq e3
  ·have:=((h.1 i hi).ge hq).2; omega
 refine⟨fun i hi => ?_,fun i j hi hj hij q hq => ?_⟩
 ·by_cases e:i=a
  ·subst e; rw[e2,h2,h4]; simp only[aY,if_true]; exact hO
  rw[e1 i e,h2,h4]
  simp only[aY,if_neg e]
  refine World.ownsRow.kept (h.1 i hi) hg ?_
  by_cases hn:(oJ m i).ownBlock=none
  ·exact .inl hn
  right
  intro e3
  cases hq:(oJ m i).ownBlock with
  | none=>exact hn hq
  | some q=>rw[hq]at e3; exact h.2 i a hi _ha e q hq e3.symm
 by_cases e:i=a
 ·subst e
  rw[e2]at hq
  rw[e1 j (fun e=>hij e.symm)]
  intro h5
  exact hne j hj (fun e=>hij e.symm) q h5 (Option.some.inj hq).symm
 rw[e1 i e]at hq
 by_cases e4:j=a
 ·subst e4; rw[e2]; intro h5; exact hne i hi e q hq (Option.some.inj h5).symm
 rw[e1 j e4]; exact h.2 i j hi hj hij q hq
end Rt
end Go.Proofs.YtahbiajdgealnaaDoor
namespace Go.Proofs.YtahbiajdgealnaaDoor
open Go.RowKit
def DJ(w0:World)(l:List (Nat × (Nat->Int)))(w':World):Prop:=(∀ p∈l,w'.heap[p.1]? = some (.cells (aF .i64 54 p.2) 82 (0,0)))/\Below w0.heap.size w0 w'
theorem DJ.up{w0 w w':World}{l:List (Nat × (Nat->Int))}(h:DJ w0 l w)(hb:Below w.heap.size w w'):DJ w0 l w':=⟨fun p hp=>IW (h.1 p hp) hb,yS h.2 hb⟩
theorem DJ.drew{w0 w:World}{l:List (Nat × (Nat->Int))}(h:DJ w0 l w):DJ w0 l w.drew:=⟨h.1,bN h.2 1⟩
theorem DJ.drop{w0 w:World}{p:Nat × (Nat->Int)}{l:List (Nat × (Nat->Int))}(h:DJ w0 (p::l) w):DJ w0 l w:=⟨fun q hq=>h.1 q (by simp[hq]),h.2⟩
theorem DJ.row{w0 w:World}{l:List (Nat × (Nat->Int))}(h:DJ w0 l w)(g:Nat)(x:Nat->Int)(hm:(g,x)∈l):w.heap[g]? = some (.cells (aF .i64 54 x) 82 (0,0)):=h.1 (g,x) hm
theorem DJ.add{w0 w:World}{l:List (Nat × (Nat->Int))}(h:DJ w0 l w){g:Nat}{x:Nat->Int}(c:w.heap[g]? = some (.cells (aF .i64 54 x) 82 (0,0))):DJ w0 ((g,x)::l) w :=
 ⟨fun p hp=>by
  rcases List.mem_cons.1 hp with rfl|hp
  ·exact c
  ·exact h.1 p hp,h.2⟩
theorem DJ.start(w:World)(x:Nat->Int):DJ w [(w.heap.size,x)] (w.alloc (.cells (aF .i64 54 x) 82)):=⟨fun p hp=>by
 obtain rfl:p=(w.heap.size,x):=by simpa using hp
 exact heap_alloc_new w _,(Below.refl _ _).alloc (Nat.le_refl _) _⟩
end Go.Proofs.YtahbiajdgealnaaDoor
namespace Go.Proofs.YtahbiajdgealnaaDoor
open Go.RowKit Rt
open Fx (ah aj au ak aJ aA aO eZ av bF dI aK x_len dw bX dn bG Lv sN Ln Ws Qv Wl Rp Wc Qs Wr Sb Lk Wk rC rV sR)
namespace Rt
theorem pl(k:Nat):((k:Int)+1).toNat-1=k:=by omega
end Rt
-- TF.Give is not in this seat
namespace Rt
def vk(L:fO)(v:EvM):Nat:=(L.grant v.o v.of).toNat
def pQ(L:fO)(v:EvM):(Nat->Nat->Int) × Int:=dG (fun x=>bA x v.o (L.g (vk L v) 3)) (qH L (L.g (vk L v) 2)) L.R (fF L.t L.tn (L.g (vk L v) 2))
def pR(L:fO)(v:EvM):Int:=if 0<=L.uz (bC v) v.req then 14 else if L.grant v.o v.of<0\/L.g (vk L v) 4≠0 then 12 else(pQ L v).2
def jo(L:fO)(v:EvM):fO:=pO { L with R:=(pQ L v).1,g:=aY L.g (vk L v) (aY (L.g (vk L v)) 4 v.req) } (bC v) v.req
end Rt
namespace Rt
def xL(L:fO)(v:EvM):Int:=if L.node v.node<0 then 9 else if 140737488355328<L.R (L.node v.node).toNat (bC v)+v.bL then 6 else 0
def AA(L:fO)(v:EvM):fO := { L with R:=aY L.R (L.node v.node).toNat (upd (L.R (L.node v.node).toNat) (bC v) (L.R (L.node v.node).toNat (bC v)+v.bL)) }
def Cx(L:fO)(v:EvM):(Nat->Int) × Int:=fA (L.R (L.node v.node).toNat) v.o v.dst v.bL
def uD(L:fO)(v:EvM):Int:=if L.node v.node<0 then 9 else if v.dst<1\/6<v.dst\/L.inn (v.dst-1).toNat=false then 10 else(Cx L v).2
def AB(L:fO)(v:EvM):fO := { L with R:=aY L.R (L.node v.node).toNat (Cx L v).1 }
noncomputable def ow(L:fO)(v:EvM):Int :=
 if v.kind=1 then pI L v else if v.kind=2 then xL L v else if v.kind=3 then nW L v else if v.kind=4 then pR L v else if v.kind=5 then uD L v else 0
def lU(L:fO)(v:EvM):fO :=
 if v.kind=1 then pK L v else if v.kind=2 then AA L v else if v.kind=3 then ku L v else if v.kind=4 then jo L v else if v.kind=5 then AB L v
 else if v.kind=6 then { L with inn:=aY L.inn (v.dst-1).toNat true } else { L with left:=aY L.left (bC v) true }
theorem lV{v:EvM}(h:bZ v=true):1<=v.kind/\v.kind<=7:=by
 unfold bZ at h
 simp only[Bool.and_eq_true]at h
 have hf:=h.2
 unfold iQ at hf
 split at hf; · omega
 split at hf; · omega
 split at hf; · omega
 split at hf; · omega
 split at hf; · omega
 split at hf; · omega
 have:=of_decide_eq_true hf; omega
theorem rz{v:EvM}(h:bZ v=true)(hk:v.kind=2\/v.kind=3\/v.kind=5):1<=v.bL/\v.bL<=1125899906842624:=by
 unfold bZ at h
 simp only[Bool.and_eq_true]at h
 have hf:=h.2
 unfold iQ at hf
 rw[if_neg (by omega)]at hf
 have key:someE v=true->1<=v.bL/\v.bL<=1125899906842624:=fun h=>by unfold someE at h; simpa using h
 split at hf; · exact key hf
 split at hf; · rw[Bool.and_eq_true]at hf; exact key hf.1
 rw[if_neg (by omega)]at hf
 split at hf; · rw[Bool.and_eq_true]at hf; exact key hf.1
 omega
theorem Hq{v:EvM}(h:bZ v=true)(hk:v.kind=6) : ∃ b:Nat,b<6/\v.dst=(b:Int)+1:=by
 unfold bZ at h
 simp only[Bool.and_eq_true]at h
 have hf:=h.2
 unfold iQ at hf
 rw[if_neg (by omega),if_neg (by omega),if_neg (by omega),if_neg (by omega),if_neg (by omega),if_pos hk]at hf
 unfold xH at hf
 rw[Bool.and_eq_true]at hf
 exact eF hf.1
end Rt
namespace Rt
structure X7(L:fO)(T:Nat):Prop where
 nn:L.nn<=33
 gn:L.gn<=T
 rn : ∀ i,i<6->L.rn i<=T
 tn : ∀ x,L.node x=aR L.t L.tn x
 dx : ∀ x,∃ D,D<=1000/\aR L.t L.tn (bE L.t L.tn D x)<0
 may : ∀ k,k<L.nn->may (L.R k)=true
 kn:JH L.known
open Classical in
noncomputable def eP(L:fO)(v:EvM):Int :=
 if bZ v=false then 1 else if vg L.known v=true then 14 else if fV L.known v=false then 13 else if L.inn (bC v)=false\/L.left (bC v)=true then 10 else ow L v
def J7(L:fO)(v:EvM):fO := { L with known:=aY L.known (bC v) (L.known (bC v)+1) }
open Classical in
noncomputable def dA(L:fO)(v:EvM):fO:=if eP L v=0 then J7 (lU L v) v else L
theorem vo(L:fO)(v:EvM):(lU L v).known=L.known:=by
 unfold lU
 split; · unfold pK; rfl
 split; · unfold AA; rfl
 split; · unfold ku pO; rfl
 split; · unfold jo pO; rfl
 split; · unfold AB; rfl
 split <;> rfl
end Rt
section
namespace Rt
structure Inv0(L:fO)(T:Nat):Prop where
 uE:L.tn=L.nn
 nn:L.nn<=32
 tid : ∀ i,i<L.nn->L.t i 0=L.id i/\L.t i 1=L.par i
 rise : ∀ i j,i<j->j<L.nn->L.id i<L.id j
 pos : ∀ i,i<L.nn->1<=L.id i
 top : ∀ i,i<L.nn->L.id i<7696581394432
 up : ∀ i,i<L.nn->L.par i=0 \/ ∃ j,j<L.nn/\L.id j=L.par i
 dep : ∀ x,∃ D,D<=4/\aR L.t L.tn (bE L.t L.tn D x)<0
 gn:L.gn<=T
 rn : ∀ i,i<6->L.rn i<=T
 may : ∀ k,k<L.nn->may (L.R k)=true
 g47 : ∀ k,k<L.nn -> ∀ a,a<6->L.R k a<=140737488355328
 kn:JH L.known
theorem O5(a:Int):a<0\/0<=a:=by omega
theorem eX{t:Nat->Nat->Int}{tn:Nat}{x:Int}:0<=aR t tn x <-> ∃ i,i<tn/\t i 0=x:=by
 constructor
 ·intro h
  obtain⟨j,hj,_,e⟩:=pF h
  exact⟨j,hj,e⟩
 rintro ⟨i,hi,e⟩
 rcases iZ (fun i=>decide (t i 0=x)) tn with ⟨k,_,e2,_⟩|⟨_,h2⟩
 ·unfold aR; rw[e2]; omega
 have:=h2 i hi; rw[decide_eq_true e]at this; cases this
theorem mY{t:Nat->Nat->Int}{tn:Nat}{x:Int}:aR t tn x<0 <-> ∀ i,i<tn->t i 0≠x:=by
 constructor
 ·intro h i hi e
  have:=eX.2 ⟨i,hi,e⟩; omega
 intro h
 rcases O5 (aR t tn x)with h1|h1
 ·exact h1
 obtain⟨i,hi,e⟩:=eX.1 h1
 exact absurd e (h i hi)
theorem mZ{t:Nat->Nat->Int}{tn i:Nat}(hu : ∀ i j,i<tn->j<tn->t i 0=t j 0->i=j)(hi:i<tn):aR t tn (t i 0)=(i:Int):=by
 obtain⟨j,hj,e,e2⟩:=pF (eX.2 ⟨i,hi,rfl⟩)
 rw[e,hu j i hj hi e2]
theorem xM{t:Nat->Nat->Int}{tn:Nat}{x:Int} : ∀ j,bE t tn (j+1) x=bE t tn j (bE t tn 1 x)
 | 0=>rfl
 | j+1=>by
   show t (aR t tn (bE t tn (j+1) x)).toNat 1=t (aR t tn (bE t tn j (bE t tn 1 x))).toNat 1
   rw[xM j]
section
variable {L:fO} {T:Nat}
theorem Inv0.inj(h:Inv0 L T) : ∀ i j,i<L.nn->j<L.nn->L.id i=L.id j->i=j:=fun i j hi hj e=>by
 rcases Nat.lt_trichotomy i j with h1|h1|h1
 ·have:=h.rise i j h1 hj; omega
 ·exact h1
 ·have:=h.rise j i h1 hi; omega
theorem Inv0.UU(h:Inv0 L T) : ∀ i j,i<L.tn->j<L.tn->L.t i 0=L.t j 0->i=j:=fun i j hi hj e=>by
 rw[h.uE]at hi hj
 rw[(h.tid i hi).1,(h.tid j hj).1]at e
 exact h.inj i j hi hj e
theorem vv{P Q:Nat->Bool} : ∀ {n:Nat},(∀ i,i<n->P i=Q i)->gX P n=gX Q n
 | 0,_=>rfl
 | n+1,h=>by
   simp only[gX]
   rw[vv (n:=n) fun i hi=>h i (by omega),h n (by omega)]
theorem Inv0.node(h:Inv0 L T)(x:Int):L.node x=aR L.t L.tn x:=by
 unfold fO.node aR
 rw[h.uE]
 exact vv fun i hi=>by rw[(h.tid i hi).1]
theorem Inv0.w(h:Inv0 L T):X7 L T where
 nn:=by have:=h.nn; omega
 gn:=h.gn
 rn:=h.rn
 tn:=h.node
 dx:=fun x=>by obtain⟨D,hD,hx⟩:=h.dep x; exact⟨D,by omega,hx⟩
 may:=h.may
 kn:=h.kn
theorem Inv0.mono{T':Nat}(h:Inv0 L T)(hT:T<=T'):Inv0 L T' := { h with gn:=Nat.le_trans h.gn hT,rn:=fun i hi=>Nat.le_trans (h.rn i hi) hT }
theorem wD{α:Type}{f:Nat->α}{k i:Nat}{v:α}(h:i<k):Fx.dB f k v i=f i:=by unfold Fx.dB; rw[if_pos h]
theorem bQ{α:Type}{f:Nat->α}{k:Nat}{v:α}:Fx.dB f k v k=v:=by unfold Fx.dB; rw[if_neg (by omega),if_pos rfl]
theorem wE{α:Type}{f:Nat->α}{k i:Nat}{v:α}(h:k<i):Fx.dB f k v i=f (i-1):=by unfold Fx.dB; rw[if_neg (by omega),if_neg (by omega)]
theorem cZ{k i n:Nat}(hk:k<=n)(hi:i<n+1):i=k \/ ∃ j,j<n/\(∀ {α:Type} (f:Nat->α) (v:α),Fx.dB f k v i=f j)/\(j<k->i=j)/\(k<=j->i=j+1):=by
 rcases Nat.lt_trichotomy i k with h|h|h
 ·exact .inr ⟨i,by omega,fun f v=>wD h,fun _=>rfl,fun h2=>by omega⟩
 ·exact .inl h
 exact .inr ⟨i-1,by omega,fun f v=>wE h,fun h2=>by omega,fun _=>by omega⟩
theorem sW{k j n:Nat}(hj:j<n) : ∃ i,i<n+1/\i≠k /\ ∀ {α:Type} (f:Nat->α) (v:α),Fx.dB f k v i=f j:=by
 by_cases h:j<k
 ·exact⟨j,by omega,by omega,fun f v=>wD h⟩
 exact⟨j+1,by omega,by omega,fun f v=>by rw[wE (by omega)]; rfl⟩
theorem qx(t:Nat->Nat->Int)(k:Nat)(id par:Int)(i:Nat):sS t k id par i=Fx.dB t k (fun j=>if j=0 then id else par) i:=rfl
theorem zD{P Q:Nat->Bool} : ∀ {n:Nat},(∀ i,i<n->P i=Q i)->Fx.down P n=Fx.down Q n
 | 0,_=>rfl
 | n+1,h=>by
   unfold Fx.down
   rw[zD (n:=n) fun i hi=>h i (by omega),h n (by omega)]
structure jM(t t':Nat->Nat->Int)(tn:Nat)(id par:Int):Prop where
 u : ∀ i j,i<tn->j<tn->t i 0=t j 0->i=j
 u' : ∀ i j,i<tn+1->j<tn+1->t' i 0=t' j 0->i=j
 no : ∀ i,i<tn->t i 0≠id
 old : ∀ i,i<tn -> ∃ j,j<tn+1/\t' j=t i
 new : ∃ j,j<tn+1/\t' j 0=id/\t' j 1=par
 back : ∀ j,j<tn+1->t' j 0=id \/ ∃ i,i<tn/\t' j=t i
variable {t t':Nat->Nat->Int} {tn:Nat} {id par:Int}
theorem jM.find(h:jM t t' tn id par){x:Int}:0<=aR t' (tn+1) x<->(0<=aR t tn x\/x=id):=by
 rw[eX,eX]
 constructor
 ·rintro ⟨j,hj,e⟩
  rcases h.back j hj with h1|⟨i,hi,h1⟩
  ·exact .inr (e.symm.trans h1)
  exact .inl ⟨i,hi,by rw[<- h1]; exact e⟩
 rintro (⟨i,hi,e⟩|e)
 ·obtain⟨j,hj,h1⟩:=h.old i hi
  exact⟨j,hj,by rw[h1]; exact e⟩
 obtain⟨j,hj,h1,_⟩:=h.new
 exact⟨j,hj,h1.trans e.symm⟩
theorem jM.MR(h:jM t t' tn id par){x:Int}(hx:0<=aR t tn x):t' (aR t' (tn+1) x).toNat 1=t (aR t tn x).toNat 1:=by
 obtain⟨i,hi,e⟩:=eX.1 hx
 obtain⟨j,hj,e2⟩:=h.old i hi
 have h1:aR t tn x=(i:Int):=by rw[<- e]; exact mZ h.u hi
 have h2:aR t' (tn+1) x=(j:Int):=by
  have:t' j 0=x:=by rw[e2]; exact e
  rw[<- this]; exact mZ h.u' hj
 rw[h1,h2]
 show t' j 1=t i 1
 rw[e2]
theorem jM.iter(h:jM t t' tn id par){x:Int} : ∀ K,(∀ i,i<K->0<=aR t tn (bE t tn i x))->bE t' (tn+1) K x=bE t tn K x
 | 0,_=>rfl
 | K+1,hk=>by
   have ih:=jM.iter h K fun i hi=>hk i (by omega)
   show t' (aR t' (tn+1) (bE t' (tn+1) K x)).toNat 1=t (aR t tn (bE t tn K x)).toNat 1
   rw[ih]; exact h.MR (hk K (by omega))
theorem ng{t:Nat->Nat->Int}{tn:Nat}{x:Int} : ∀ D,aR t tn (bE t tn D x)<0 -> ∃ K,K<=D/\aR t tn (bE t tn K x)<0 /\ ∀ i,i<K->0<=aR t tn (bE t tn i x)
 | 0,h=>⟨0,Nat.le_refl _,h,fun _ hi=>absurd hi (Nat.not_lt_zero _)⟩
 | D+1,h=>by
   by_cases hall : ∀ i,i<D+1->0<=aR t tn (bE t tn i x)
   ·exact⟨D+1,Nat.le_refl _,h,hall⟩
   ·obtain⟨i,hi⟩:=Classical.not_forall.1 hall
    obtain⟨hi,h2⟩:=Classical.not_imp.1 hi
    rcases Nat.lt_or_ge i D with h3|h3
    ·-- an earlier end
     have : ∀ n,n<=D->(∃ j,j<=n/\aR t tn (bE t tn j x)<0) -> ∃ K,K<=n/\aR t tn (bE t tn K x)<0 /\ ∀ i,i<K->0<=aR t tn (bE t tn i x):=by
      intro n
      induction n with
      | zero=>rintro _ ⟨j,hj,hn⟩; obtain rfl:j=0:=by omega
              exact⟨0,Nat.le_refl _,hn,fun _ hi=>absurd hi (Nat.not_lt_zero _)⟩
      | succ n ih =>
        rintro hn ⟨j,hj,hj2⟩
        by_cases h5 : ∃ j,j<=n/\aR t tn (bE t tn j x)<0
        ·obtain⟨K,hK,h6⟩:=ih (by omega) h5; exact⟨K,by omega,h6⟩
        ·refine⟨n+1,Nat.le_refl _,?_,fun i hi => ?_⟩
         ·by_cases e:j=n+1
          ·rw[<- e]; exact hj2
          ·exact absurd ⟨j,by omega,hj2⟩ h5
         ·rcases O5 (aR t tn (bE t tn i x))with h7|h7
          ·exact absurd ⟨i,by omega,h7⟩ h5
          ·exact h7
     obtain⟨K,hK,h4⟩:=this i (by omega) ⟨i,Nat.le_refl _,by omega⟩
     exact⟨K,by omega,h4⟩
    ·obtain rfl:i=D:=by omega
     obtain⟨K,hK,h4⟩:=ng (t:=t) (tn:=tn) (x:=x) i (by omega)
     exact⟨K,by omega,h4⟩
theorem jM.dep(h:jM t t' tn id par)(hid:1<=id)(hup : ∀ i,i<tn->t i 1=0\/0<=aR t tn (t i 1))(hpar:par=0\/0<=aR t tn par)(hz:aR t tn 0<0)(hd : ∀ x,∃ D,D<=4/\aR t tn (bE t tn D x)<0)(UW : ¬ zC t tn par) :
 ∀ x,∃ D,D<=4/\aR t' (tn+1) (bE t' (tn+1) D x)<0:=by
 -- an end of an old path is none of the new tree's nodes
 have aew:aR t tn id<0:=mY.2 h.no
 have key : ∀ x K,x≠id->aR t tn (bE t tn K x)<0->(∀ i,i<K->0<=aR t tn (bE t tn i x))->aR t' (tn+1) (bE t' (tn+1) K x)<0:=fun x K hx hK hall=>by
  rw[h.iter K hall]
  rcases O5 (aR t' (tn+1) (bE t tn K x))with h1|h1
  ·exact h1
  ·exfalso
   rcases h.find.1 h1 with h2|h2
   ·omega
   ·cases K with
    | zero=>exact hx h2
    | succ K =>
      have hf:=hall K (by omega)
      obtain⟨i,hi,e⟩:=eX.1 hf
      have e3:bE t tn (K+1) x=t i 1:=by
       show t (aR t tn (bE t tn K x)).toNat 1=t i 1
       rw[<- e,mZ h.u hi]; rfl
      rw[e3]at h2 hK
      rcases hup i hi with h4|h4
      ·omega
      ·omega
 intro x
 by_cases hx:x=id
 ·subst hx
  obtain⟨i,hi⟩:=Classical.not_forall.1 UW
  obtain⟨hi4,hi⟩:=Classical.not_imp.1 hi
  obtain⟨K,hK,hK2,hall⟩:=ng (t:=t) (tn:=tn) (x:=par) i (by omega)
  refine⟨K+1,by omega,?_⟩
  have e1:bE t' (tn+1) 1 x=par:=by
   obtain⟨j,hj,e2,e3⟩:=h.new
   show t' (aR t' (tn+1) x).toNat 1=par
   rw[<- e2,mZ h.u' hj]; exact e3
  rw[xM,e1]
  refine key par K ?_ hK2 hall
  rintro rfl
  rcases hpar with h1|h1 <;> omega
 obtain⟨D,hD,hD2⟩:=hd x
 obtain⟨K,hK,hK2,hall⟩:=ng D hD2
 exact⟨K,by omega,key x K hx hK2 hall⟩
end
end Rt
end
section
namespace Rt
section
variable {L:fO} {T:Nat} {v:EvM}
theorem MS{t:Nat->Nat->Int}{tn:Nat}{id par:Int}(h:J3 t tn id par=0):id≠0/\aR t tn id<0/\(par=0\/0<=aR t tn par)/\tn<32 /\ ¬ zC t tn par:=by
 unfold J3 at h
 split at h; · cases h
 rename_i h1
 split at h; · cases h
 rename_i h2
 split at h; · cases h
 rename_i h3
 split at h; · cases h
 rename_i h4
 refine⟨h1,by omega,?_,?_,fun hd=>h4 (.inr hd)⟩
 ·rcases O5 (aR t tn par)with h5|h5
  ·by_cases h6:par=0
   ·exact .inl h6
   exact absurd ⟨h6,h5⟩ h3
  exact .inr h5
 rcases Nat.lt_or_ge tn 32 with h5|h5
 ·exact h5
 exact absurd (Or.inl h5) h4
theorem kX(h:bZ v=true):1<=v.o/\v.o<=6/\1<=v.seq/\v.seq<1099511627776:=by
 have h1:=ig h
 have h2:=wu h
 unfold nR at h1
 simp only[Bool.and_eq_true,decide_eq_true_eq]at h1
 exact⟨h1.1,h1.2,h2.1,h2.2⟩
theorem wF(h:bZ v=true):tY v.o v.seq=1099511627776*v.o+v.seq:=by
 have:=kX h
 unfold tY; rw[if_pos (by omega)]
theorem qy(h:bZ v=true):bC v<6:=by
 have:=kX h; unfold bC; omega
theorem MU{a:Nat}{n:Int}(ha:a<6)(h0:0<=n)(h1:n<=1125899906842624):may (upd (fun _=>0) a n)=true:=by
 have e : ∀ p,upd (fun _=>0) a n p=if p=a then n else 0:=fun p=>rfl
 rw[kK]
 refine⟨fun p hp => ?_,fun k hk => ?_,?_⟩
 ·rw[e]; split <;> omega
 ·have hr : ∀ i j,R (upd (fun _=>0) a n) i j=0:=fun i j=>by unfold R; rw[e,if_neg (by omega)]
  refine⟨?_,?_,hr k k⟩
  ·unfold L
   simp only[hr]
   have hg:0<=G (upd (fun _=>0) a n) k:=by unfold G; rw[e]; split <;> omega
   have hf:F (upd (fun _=>0) a n) k=0:=by unfold F; rw[e,if_neg (by omega)]
   have hc:C (upd (fun _=>0) a n) k=0:=by unfold C; rw[e,if_neg (by omega)]
   omega
  have hf:F (upd (fun _=>0) a n) k=0:=by unfold F; rw[e,if_neg (by omega)]
  have hc:C (upd (fun _=>0) a n) k=0:=by unfold C; rw[e,if_neg (by omega)]
  omega
 unfold mX G
 simp only[e]
 have:(if 0=a then n else 0)+(if 1=a then n else 0)+(if 2=a then n else 0)+(if 3=a then n else 0)+(if 4=a then n else 0)+(if 5=a then n else 0)=n:=six a ha n
 omega
theorem rA(h:Inv0 L T)(hm:bZ v=true)(hk:v.kind=1)(hE:pI L v=0) : ∃ k,k<=L.nn/\1<=tY v.o v.seq/\L.nn<32/\(0<=v.bL/\v.bL<=140737488355328)/\(v.node=0\/0<=aR L.t L.tn v.node) /\ ¬ zC L.t L.tn v.node /\
 pK L v = { L with nn:=L.nn+1,id:=Fx.dB L.id k (tY v.o v.seq),par:=Fx.dB L.par k v.node,R:=Fx.dB L.R k (upd (fun _=>0) (bC v) v.bL),tn:=L.tn+1,t:=sS L.t k (tY v.o v.seq) v.node } /\
 (∀ i j,i<j->j<L.nn+1->Fx.dB L.id k (tY v.o v.seq) i<Fx.dB L.id k (tY v.o v.seq) j)/\(∀ i,i<L.nn+1->sS L.t k (tY v.o v.seq) v.node i 0=Fx.dB L.id k (tY v.o v.seq) i/\sS L.t k (tY v.o v.seq) v.node i 1=Fx.dB L.par k v.node i) /\
 jM L.t (sS L.t k (tY v.o v.seq) v.node) L.tn (tY v.o v.seq) v.node:=by
 unfold pI at hE
 split at hE
 ·cases hE
 rename_i h47
 obtain⟨a1,a2,a3,a4,a5⟩:=MS hE
 have hb:=kX hm
 have hid:=wF hm
 have hro:=qy hm
 have MV:0<=v.bL/\v.bL<=140737488355328:=by
  have h8 : ¬ 140737488355328<v.bL:=fun h=>h47 (.inr h)
  unfold bZ at hm
  simp only[Bool.and_eq_true]at hm
  have hf:=hm.2
  unfold iQ at hf
  rw[if_pos hk]at hf
  simp only[Bool.and_eq_true,decide_eq_true_eq]at hf
  omega
 generalize hx:tY v.o v.seq=x at *
 have hx1:1<=x:=by omega
 have ekt:Fx.down (fun i=>decide (x<L.t i 0)) L.tn=pJ L.id L.nn x:=by
  unfold pJ; rw[h.uE]; exact zD fun i hi=>by rw[(h.tid i hi).1]
 have eC:pK L v = { L with nn:=L.nn+1,id:=Fx.dB L.id (pJ L.id L.nn x) x,par:=Fx.dB L.par (pJ L.id L.nn x) v.node,R:=Fx.dB L.R (pJ L.id L.nn x) (upd (fun _=>0) (bC v) v.bL),tn:=L.tn+1,t:=sS L.t (pJ L.id L.nn x) x v.node }:=by
  unfold pK; rw[hx,ekt]; rfl
 generalize hkk:pJ L.id L.nn x=k at *
 have hkn:k<=L.nn:=by rw[<- hkk]; exact Fx.qg _ _
 have hno : ∀ i,i<L.nn->L.id i≠x:=fun i hi e=>mY.1 a2 i (by rw[h.uE]; exact hi) (by rw[(h.tid i hi).1]; exact e)
 have hB : ∀ q,k<=q->q<L.nn->x<L.id q:=fun q h1 h2=>by
  have:=Fx.Af (P:=fun i=>decide (x<L.id i)) (n:=L.nn) (i:=q) (by show pJ L.id L.nn x<=q; omega) h2
  exact of_decide_eq_true this
 have hA : ∀ q,q<k->L.id q<x:=fun q h1=>by
  obtain⟨j,rfl⟩ : ∃ j,k=j+1:=⟨k-1,by omega⟩
  have h2:=Fx.Ag (P:=fun i=>decide (x<L.id i)) (n:=L.nn) (j:=j) hkk
  have h3 : ¬ x<L.id j:=of_decide_eq_false h2
  have h4:=hno j (by omega)
  by_cases e:q=j
  ·subst e; omega
  ·have:=h.rise q j (by omega) (by omega); omega
 have hnt:L.nn<32:=by have:=h.uE; omega
 have hrise : ∀ i j,i<j->j<L.nn+1->Fx.dB L.id k x i<Fx.dB L.id k x j:=fun i j hij hj=>by
  rcases cZ hkn (show i<L.nn+1 by omega)with rfl|⟨q,hq,eq,q1,q2⟩
  ·rcases cZ hkn hj with rfl|⟨r,hr,er,r1,r2⟩
   ·omega
   ·rw[bQ,er]
    exact hB r (by omega) hr
  ·rcases cZ hkn hj with rfl|⟨r,hr,er,r1,r2⟩
   ·rw[bQ,eq]
    exact hA q (by omega)
   ·rw[eq,er]
    exact h.rise q r (by omega) hr
 have En : ∀ i,i<L.nn+1->sS L.t k x v.node i 0=Fx.dB L.id k x i/\sS L.t k x v.node i 1=Fx.dB L.par k v.node i:=fun i hi=>by
  rw[qx]
  rcases cZ hkn hi with rfl|⟨q,hq,eq,_,_⟩
  ·rw[bQ,bQ,bQ]; exact⟨rfl,rfl⟩
  ·rw[eq,eq,eq]; exact h.tid q hq
 have hinj : ∀ i j,i<L.nn+1->j<L.nn+1->Fx.dB L.id k x i=Fx.dB L.id k x j->i=j:=fun i j hi hj e=>by
  rcases Nat.lt_trichotomy i j with h1|h1|h1
  ·have:=hrise i j h1 hj; omega
  ·exact h1
  ·have:=hrise j i h1 hi; omega
 have hup:jM L.t (sS L.t k x v.node) L.tn x v.node := {
  u:=h.UU
  u':=fun i j hi hj e=>by
   rw[h.uE]at hi hj
   rw[(En i hi).1,(En j hj).1]at e
   exact hinj i j hi hj e
  no:=mY.1 a2
  old:=fun i hi=>by
   obtain⟨j,hj,_,e⟩:=sW (k:=k) hi
   exact⟨j,hj,by rw[qx]; exact e L.t _⟩
  new:=⟨k,by have:=h.uE; omega,by rw[qx,bQ]; rfl,by rw[qx,bQ]; rfl⟩
  back:=fun j hj=>by
   rw[h.uE]at hj
   rcases cZ hkn hj with rfl|⟨q,hq,eq,_,_⟩
   ·exact .inl (by rw[qx,bQ]; rfl)
   ·exact .inr ⟨q,by rw[h.uE]; exact hq,by rw[qx]; exact eq L.t _⟩ }
 exact⟨k,hkn,hx1,hnt,MV,a3,a5,eC,hrise,En,hup⟩
theorem Hr(h:Inv0 L T)(hm:bZ v=true)(hk:v.kind=1)(hE:pI L v=0):Inv0 (pK L v) (T+1):=by
 obtain⟨k,hkn,hx1,hnt,MV,a3,a5,eC,hrise,En,hup⟩:=rA h hm hk hE
 have hb:=kX hm
 have hid:=wF hm
 have hro:=qy hm
 rw[eC]
 generalize hx:tY v.o v.seq=x at *
 have hold : ∀ j,j<L.nn -> ∃ i,i<L.nn+1/\Fx.dB L.id k x i=L.id j:=fun j hj=>by
  obtain⟨i,hi,_,e⟩:=sW (k:=k) hj
  exact⟨i,hi,e L.id x⟩
 have hz:aR L.t L.tn 0<0:=mY.2 fun i hi e=>by
  rw[h.uE]at hi
  rw[(h.tid i hi).1]at e
  have:=h.pos i hi; omega
 have UY:v.node=0 \/ ∃ j,j<L.nn/\L.id j=v.node:=by
  rcases a3 with e|e
  ·exact .inl e
  ·obtain⟨i,hi,e2⟩:=eX.1 e
   rw[h.uE]at hi
   exact .inr ⟨i,hi,by rw[<- (h.tid i hi).1]; exact e2⟩
 exact {
  uE:=by show L.tn+1=L.nn+1; rw[h.uE]
  nn:=by show L.nn+1<=32; omega
  tid:=En
  rise:=hrise
  pos:=fun i hi=>by
   show 1<=Fx.dB L.id k x i
   rcases cZ hkn hi with rfl|⟨q,hq,eq,_,_⟩
   ·rw[bQ]; exact hx1
   ·rw[eq]; exact h.pos q hq
  top:=fun i hi=>by
   show Fx.dB L.id k x i<_
   rcases cZ hkn hi with rfl|⟨q,hq,eq,_,_⟩
   ·rw[bQ]; omega
   ·rw[eq]; exact h.top q hq
  up:=fun i hi=>by
   show Fx.dB L.par k v.node i=0 \/ ∃ j,j<L.nn+1/\Fx.dB L.id k x j=Fx.dB L.par k v.node i
   have hh : ∀ y,(y=0 \/ ∃ j,j<L.nn/\L.id j=y)->(y=0 \/ ∃ j,j<L.nn+1/\Fx.dB L.id k x j=y):=fun y hy=>hy.imp id fun⟨j,hj,e⟩=>by
    obtain⟨i,hi,e2⟩:=hold j hj
    exact⟨i,hi,e2.trans e⟩
   rcases cZ hkn hi with rfl|⟨q,hq,eq,_,_⟩
   ·rw[bQ]; exact hh _ UY
   ·rw[eq]; exact hh _ (h.up q hq)
  dep:=by
   show ∀ y,∃ D,D<=4/\aR (sS L.t k x v.node) (L.tn+1) (bE (sS L.t k x v.node) (L.tn+1) D y)<0
   refine hup.dep hx1 (fun i hi => ?_) a3 hz h.dep a5
   have hi':=hi
   rw[h.uE]at hi'
   rw[(h.tid i hi').2]
   rcases h.up i hi' with e|⟨j,hj,e⟩
   ·exact .inl e
   ·exact .inr (eX.2 ⟨j,by rw[h.uE]; exact hj,by rw[(h.tid j hj).1]; exact e⟩)
  gn:=Nat.le_succ_of_le h.gn
  rn:=fun i hi=>Nat.le_succ_of_le (h.rn i hi)
  may:=fun i hi=>by
   show may (Fx.dB L.R k _ i)=true
   rcases cZ hkn hi with rfl|⟨q,hq,eq,_,_⟩
   ·rw[bQ]; exact MU hro MV.1 (by omega)
   ·rw[eq]; exact h.may q hq
  g47:=fun i hi b hb'=>by
   show Fx.dB L.R k _ i b<=_
   rcases cZ hkn hi with rfl|⟨q,hq,eq,_,_⟩
   ·rw[bQ]
    show(if b=bC v then v.bL else 0)<=_
    split <;> omega
   ·rw[eq]; exact h.g47 q hq b hb'
  kn:=h.kn }
theorem zF{L':fO}{T':Nat}(h:Inv0 L T)(e1:L'.nn=L.nn)(e2:L'.id=L.id)(e3:L'.par=L.par)(e4:L'.tn=L.tn)(e5:L'.t=L.t)(e6:L'.known=L.known)(hg:L'.gn<=T')(hr : ∀ i,i<6->L'.rn i<=T')
 (hP : ∀ k,k<L.nn->may (L'.R k)=true /\ ∀ a,a<6->L'.R k a<=140737488355328):Inv0 L' T' where
 uE:=by rw[e1,e4]; exact h.uE
 nn:=by rw[e1]; exact h.nn
 tid:=by rw[e1,e2,e3,e5]; exact h.tid
 rise:=by rw[e1,e2]; exact h.rise
 pos:=by rw[e1,e2]; exact h.pos
 top:=by rw[e1,e2]; exact h.top
 up:=by rw[e1,e2,e3]; exact h.up
 dep:=by rw[e4,e5]; exact h.dep
 gn:=hg
 rn:=hr
 may:=by rw[e1]; exact fun k hk=>(hP k hk).1
 g47:=by rw[e1]; exact fun k hk=>(hP k hk).2
 kn:=by rw[e6]; exact h.kn
def mE(x:Nat->Int):Prop:=may x=true /\ ∀ a,a<6->x a<=140737488355328
theorem xO{f:(Nat->Int)->(Nat->Int) × Int}{idx:Nat->Nat}{R:Nat->Nat->Int}{n:Nat}(hs : ∀ x,mE x->(f x).2=0->mE (f x).1)(h0 : ∀ k,k<n->mE (R k)) : ∀ K k,k<n->mE ((dG f idx R K).1 k)
 | 0,k,hk=>h0 k hk
 | K+1,k,hk=>by
   have ih:=xO hs h0 (idx:=idx) K
   unfold dG
   by_cases h1:(dG f idx R K).2=0
   ·rw[if_pos h1]
    by_cases h2:(f ((dG f idx R K).1 (idx K))).2=0
    ·rw[if_pos h2]
     show mE (if k=idx K then _ else _)
     by_cases h3:k=idx K
     ·rw[if_pos h3]; exact hs _ (by rw[<- h3]; exact ih k hk) h2
     ·rw[if_neg h3]; exact ih k hk
    ·rw[if_neg h2]; exact ih k hk
   ·rw[if_neg h1]; exact ih k hk
theorem MW{x:Nat->Int}{i n:Int}(h:mE x)(h2:(bf x i n).2=0):mE (bf x i n).1:=by
 obtain⟨a,ha,_,_,_,_,_,hm,_,_,_,e⟩:=FJ h2
 exact⟨hm,fun b hb=>by rw[e,dU _ _ _ _ (by omega)]; exact h.2 b hb⟩
theorem MX{x:Nat->Int}{i n:Int}(h:mE x)(h2:(bA x i n).2=0):mE (bA x i n).1:=by
 obtain⟨a,ha,_,_,_,_,hm,_,_,_,e⟩:=FK h2
 exact⟨hm,fun b hb=>by rw[e,dU _ _ _ _ (by omega)]; exact h.2 b hb⟩
theorem MZ{x:Nat->Int}{i j n:Int}(h:mE x)(h2:(fA x i j n).2=0):mE (fA x i j n).1:=by
 obtain⟨a,b,ha,hb,_,_,_,_,_,_,hm,e⟩:=FI h2
 exact⟨hm.may,fun c hc=>by rw[e,dU _ _ _ _ (by omega)]; exact h.2 c hc⟩
theorem J8{x:Nat->Int}{a:Nat}{n:Int}(ha:a<6)(h:mE x)(hn:0<=n)(h2 : ¬ 140737488355328<x a+n):mE (upd x a (x a+n)):=by
 have hm:=(kK x).1 h.1
 have e : ∀ p,upd x a (x a+n) p=if p=a then x a+n else x p:=fun p=>rfl
 have hx:=hm.1 a (by omega)
 have hg : ∀ b,b<6->upd x a (x a+n) b<=140737488355328:=fun b hb=>by
  rw[e]; split
  ·omega
  ·exact h.2 b hb
 refine⟨(kK _).2 ⟨fun p hp => ?_,fun k hk => ?_,?_⟩,hg⟩
 ·have:=hm.1 p hp
  rw[e]; split <;> omega
 ·obtain⟨h3,h4,h5⟩:=hm.2.1 k hk
  have hc:C (upd x a (x a+n)) k=C x k:=by unfold C; rw[e,if_neg (by omega)]
  have hf:F (upd x a (x a+n)) k=F x k:=by unfold F; rw[e,if_neg (by omega)]
  refine⟨?_,?_,?_⟩
  ·rw[J6 x a (by omega),hc,hf,UR]; split <;> omega
  ·rw[hc,hf]; exact h4
  unfold R; rw[e,if_neg (by omega)]; exact h5
 unfold mX G
 have:=hg 0 (by omega); have:=hg 1 (by omega); have:=hg 2 (by omega); have:=hg 3 (by omega); have:=hg 4 (by omega); have:=hg 5 (by omega)
 omega
theorem Inv0.Cy(h:Inv0 L T) : ∀ k,k<L.nn->mE (L.R k):=fun k hk=>⟨h.may k hk,h.g47 k hk⟩
theorem FM(h:Inv0 L T)(a:Nat) : ∀ i,i<6->aY L.rn a (L.rn a+1) i<=T+1:=fun i hi=>by
 unfold aY
 by_cases e:i=a
 ·subst e; rw[if_pos rfl]; have:=h.rn i hi; omega
 ·rw[if_neg e]; have:=h.rn i hi; omega
theorem FN{q:Nat}{r:Nat->Int}(h : ∀ k,k<L.nn->mE (L.R k))(hr:mE r) : ∀ k,k<L.nn->mE (aY L.R q r k):=fun k hk=>by
 unfold aY; split
 ·exact hr
 ·exact h k hk
theorem Inv0.O6(h:Inv0 L T){x:Int}(hx : ¬ L.node x<0):(L.node x).toNat<L.nn:=by
 rw[h.node]at hx ⊢
 obtain⟨j,hj,e,_⟩:=pF (show 0<=aR L.t L.tn x by omega)
 rw[e]; have:=h.uE; simp; omega
theorem Ht(h:Inv0 L T)(hw : ∀ k,k<L.nn->mE ((ru L v).1 k)):Inv0 (ku L v) (T+1):=by
 unfold ku pO
 generalize ru L v=W at hw
 exact zF h rfl rfl rfl rfl rfl rfl (Nat.succ_le_succ h.gn) (FM h _) hw
theorem Hu(h:Inv0 L T)(hw : ∀ k,k<L.nn->mE ((pQ L v).1 k)):Inv0 (jo L v) (T+1):=by
 unfold jo pO
 generalize pQ L v=W at hw
 exact zF h rfl rfl rfl rfl rfl rfl (Nat.le_succ_of_le h.gn) (FM h _) hw
theorem J9(h:Inv0 L T)(hm:bZ v=true)(hE:ow L v=0):Inv0 (lU L v) (T+1):=by
 have hk:=lV hm
 have hro:=qy hm
 have hg:=h.gn
 have hT : ∀ i,i<6->L.rn i<=T+1:=fun i hi=>Nat.le_succ_of_le (h.rn i hi)
 unfold ow at hE
 unfold lU
 by_cases k1:v.kind=1
 ·rw[if_pos k1]at hE ⊢; exact Hr h hm k1 hE
 by_cases k2:v.kind=2
 ·rw[if_neg k1,if_pos k2]at hE ⊢
  unfold xL at hE
  split at hE; · cases hE
  rename_i n1
  split at hE; · cases hE
  rename_i n2
  have hb:=rz hm (.inl k2)
  exact zF h rfl rfl rfl rfl rfl rfl (Nat.le_succ_of_le hg) hT (FN h.Cy (J8 hro (h.Cy _ (h.O6 n1)) (by omega) n2))
 by_cases k3:v.kind=3
 ·rw[if_neg k1,if_neg k2,if_pos k3]at hE ⊢
  have hw : ∀ k,k<L.nn->mE ((ru L v).1 k):=by unfold ru; exact xO (fun x=>MW) h.Cy _
  exact Ht h hw
 by_cases k4:v.kind=4
 ·rw[if_neg k1,if_neg k2,if_neg k3,if_pos k4]at hE ⊢
  have hw : ∀ k,k<L.nn->mE ((pQ L v).1 k):=by unfold pQ; exact xO (fun x=>MX) h.Cy _
  exact Hu h hw
 by_cases k5:v.kind=5
 ·rw[if_neg k1,if_neg k2,if_neg k3,if_neg k4,if_pos k5]at hE ⊢
  unfold uD at hE
  split at hE; · cases hE
  rename_i n1
  split at hE; · cases hE
  exact zF h rfl rfl rfl rfl rfl rfl (Nat.le_succ_of_le hg) hT (FN h.Cy (MZ (h.Cy _ (h.O6 n1)) hE))
 rw[if_neg k1,if_neg k2,if_neg k3,if_neg k4,if_neg k5]
 split
 ·exact zF h rfl rfl rfl rfl rfl rfl (Nat.le_succ_of_le hg) hT h.Cy
 exact zF h rfl rfl rfl rfl rfl rfl (Nat.le_succ_of_le hg) hT h.Cy
theorem xP(h:Inv0 L T):Inv0 (dA L v) (T+1):=by
 unfold dA
 by_cases h0:eP L v=0
 ·rw[if_pos h0]
  unfold eP at h0
  split at h0; · cases h0
  rename_i h1
  split at h0; · cases h0
  split at h0; · cases h0
  rename_i h3
  split at h0; · cases h0
  have hm:bZ v=true:=by simpa using h1
  have hr:fV L.known v=true:=by simpa using h3
  have hd:=J9 h hm h0
  have hro:=qy hm
  have hs:=wu hm
  refine { hd with kn:=fun i hi => ?_ }
  have ek:(J7 (lU L v) v).known=aY L.known (bC v) (L.known (bC v)+1):=by unfold J7; simp only[vo]
  rw[ek]
  unfold fV at hr
  simp only[Bool.and_eq_true,decide_eq_true_eq]at hr
  have hk:=h.kn
  unfold aY
  split
  ·have h5:=hr.1.2
   have h6:v.seq=L.known (bC v)+1:=h5
   have:=hk (bC v) hro
   omega
  exact hk i hi
 rw[if_neg h0]; exact h.mono (Nat.le_succ T)
end
end Rt
end
section
namespace Rt
def AJ(t:Nat->Nat->Int)(tn:Nat)(x y:Int):Nat->Int
 | 0=>0
 | k+1=>AJ t tn x y k+if bE t tn k x=y then 1 else 0
def uF(t:Nat->Nat->Int)(tn:Nat)(x y:Int):Int:=AJ t tn x y (fF t tn x)
def jX(t:Nat->Nat->Int)(tn:Nat)(g:Nat->Int)(y:Int):Int:=if g 4=0 then g 3*uF t tn (g 2) y else 0
def jE(t:Nat->Nat->Int)(tn:Nat)(g:Nat->Nat->Int)(y:Int):Nat->Int
 | 0=>0
 | q+1=>jE t tn g y q+jX t tn (g q) y
structure rD(L:fO):Prop where
 us : ∀ k,k<L.nn->jm (L.R k)=jE L.t L.tn L.g (L.id k) L.gn
 gb : ∀ q,q<L.gn->0<=aR L.t L.tn (L.g q 2)/\1<=L.g q 0/\L.g q 0<=6/\0<=L.g q 3/\L.g q 3<=1125899906842624
structure X8(v:EvM):Prop where
 bL:v.bL<=65536
 req:v.req<=256
structure M0(L:fO)(T:Nat):Prop where
 kt : ∀ i,i<6->L.known i<=T
 rb : ∀ k,k<L.nn -> ∀ a,a<54->L.R k a<=2097152*T
 rq : ∀ i,i<6 -> ∀ j,j<L.rn i->L.rq i j<=256
structure Inv(L:fO)(T:Nat):Prop extends Inv0 L T where
 s:rD L
 b:M0 L T
section
variable {L:fO} {T:Nat} {v:EvM}
theorem AL{P:Nat->Bool} : ∀ {n i:Nat},i<lead P n->P i=true
 | 0,i,h=>absurd h (Nat.not_lt_zero _)
 | n+1,i,h=>by
   unfold lead at h
   by_cases e:lead P n=n/\P n=true
   ·rw[if_pos e]at h
    by_cases e2:i=n
    ·rw[e2]; exact e.2
    ·exact AL (n:=n) (by omega)
   ·rw[if_neg e]at h; exact AL h
theorem xQ{t:Nat->Nat->Int}{tn i:Nat}{x:Int}(h:i<fF t tn x):0<=aR t tn (bE t tn i x):=of_decide_eq_true (AL (P:=fun i=>decide (0<=aR t tn (bE t tn i x))) h)
theorem qz{t t':Nat->Nat->Int}{tn tn':Nat}{g g':Nat->Nat->Int}{y y':Int} : ∀ n,(∀ q,q<n->jX t' tn' (g' q) y'=jX t tn (g q) y)->jE t' tn' g' y' n=jE t tn g y n
 | 0,_=>rfl
 | n+1,h=>by unfold jE; rw[qz n fun q hq=>h q (by omega),h n (by omega)]
theorem zG{t:Nat->Nat->Int}{tn:Nat}{g:Nat->Nat->Int}{y:Int} : ∀ n,(∀ q,q<n->jX t tn (g q) y=0)->jE t tn g y n=0
 | 0,_=>rfl
 | n+1,h=>by unfold jE; rw[zG n fun q hq=>h q (by omega),h n (by omega)]; rfl
theorem CB{t:Nat->Nat->Int}{tn k:Nat}{g:Nat->Nat->Int}{x:Nat->Int}{y:Int} : ∀ n,k<n->jE t tn (aY g k x) y n=jE t tn g y n-jX t tn (g k) y+jX t tn x y
 | 0,h=>absurd h (Nat.not_lt_zero _)
 | n+1,h=>by
   unfold jE
   by_cases e:k=n
   ·subst e
    rw[qz (t:=t) (tn:=tn) (g:=g) (y:=y) k fun q hq=>by unfold aY; rw[if_neg (by omega)]]
    unfold aY; rw[if_pos rfl]; omega
   ·rw[CB n (by omega)]
    have:aY g k x n=g n:=if_neg (fun h=>e h.symm)
    rw[this]; omega
theorem CF{t:Nat->Nat->Int}{tn k:Nat}{g:Nat->Nat->Int}{x:Nat->Int}{y:Int} : ∀ n,k<=n->jE t tn (Fx.dB g k x) y (n+1)=jE t tn g y n+jX t tn x y
 | 0,h=>by
   obtain rfl:k=0:=by omega
   show(0:Int)+jX t tn (Fx.dB g 0 x 0) y=0+_
   rw[bQ]
 | n+1,h=>by
   by_cases e:k=n+1
   ·subst e
    show jE t tn (Fx.dB g (n+1) x) y (n+1)+jX t tn (Fx.dB g (n+1) x (n+1)) y=_
    rw[bQ,qz (t:=t) (tn:=tn) (g:=g) (y:=y) (n+1) fun q hq=>by rw[wD hq]]
   ·show jE t tn (Fx.dB g k x) y (n+1)+jX t tn (Fx.dB g k x (n+1)) y=jE t tn g y n+jX t tn (g n) y+_
    rw[CF n (by omega),wE (by omega),Nat.add_sub_cancel]; omega
def Ka(idx:Nat->Nat)(k:Nat):Nat->Int
 | 0=>0
 | j+1=>Ka idx k j+if idx j=k then 1 else 0
theorem uG{f:(Nat->Int)->(Nat->Int) × Int}{idx:Nat->Nat}{R:Nat->Nat->Int}{d:Int}(hf : ∀ x,(f x).2=0->jm (f x).1=jm x+d) : ∀ K,(dG f idx R K).2=0 -> ∀ k,jm ((dG f idx R K).1 k)=jm (R k)+d*Ka idx k K
 | 0,_,k=>by show jm (R k)=jm (R k)+d*0; omega
 | K+1,h,k=>by
   unfold dG at h ⊢
   by_cases h1:(dG f idx R K).2=0
   ·have ih:=uG hf K h1 k
    rw[if_pos h1]at h ⊢
    by_cases h2:(f ((dG f idx R K).1 (idx K))).2=0
    ·rw[if_pos h2]
     show jm (aY _ (idx K) _ k)=_
     unfold aY Ka
     rw[Int.mul_add]
     by_cases h3:k=idx K
     ·subst h3
      rw[if_pos rfl,if_pos rfl,hf _ h2,ih]; omega
     ·rw[if_neg h3,if_neg (fun h=>h3 h.symm),ih]; omega
    ·rw[if_neg h2]at h; exact absurd h h2
   ·rw[if_neg h1]at h; exact absurd h h1
theorem Eo{t:Nat->Nat->Int}{tn k:Nat}{x y:Int}{idx:Nat->Nat} : ∀ K,(∀ i,i<K->(idx i=k<->bE t tn i x=y))->Ka idx k K=AJ t tn x y K
 | 0,_=>rfl
 | K+1,h=>by
   unfold Ka AJ
   rw[Eo K fun i hi=>h i (by omega)]
   by_cases e:idx K=k
   ·rw[if_pos e,if_pos ((h K (by omega)).1 e)]
   ·rw[if_neg e,if_neg (fun h2=>e ((h K (by omega)).2 h2))]
theorem wG(h:Inv0 L T){x:Int}{i k:Nat}(hk:k<L.nn)(hi:i<fF L.t L.tn x):qH L x i=k<->bE L.t L.tn i x=L.id k:=by
 obtain⟨j,hj,e,e2⟩:=pF (xQ hi)
 have hj':j<L.nn:=by rw[<- h.uE]; exact hj
 have hx:qH L x i=j:=by unfold qH; rw[h.node,e]; rfl
 rw[hx]
 have e3:L.id j=bE L.t L.tn i x:=by rw[<- (h.tid j hj').1]; exact e2
 constructor
 ·rintro rfl; exact e3.symm
 intro e4; exact h.inj j k hj' hk (e3.trans e4)
theorem CG{x:Nat->Int}{a:Nat}{n:Int}(ha:a<6):jm (upd x a n)=jm x:=by
 have hc : ∀ k,C (upd x a n) k=C x k:=fun k=>dU _ _ _ _ (by omega)
 have hf : ∀ k,F (upd x a n) k=F x k:=fun k=>dU _ _ _ _ (by omega)
 unfold jm; simp only[hc,hf]
theorem Kc(h:bZ v=true)(hk:v.kind=4):1<=v.req:=by
 unfold bZ at h
 simp only[Bool.and_eq_true]at h
 have hf:=h.2
 unfold iQ at hf
 rw[if_neg (by omega),if_neg (by omega),if_neg (by omega),if_pos hk]at hf
 simp only[Bool.and_eq_true,decide_eq_true_eq]at hf
 exact hf.1.1
theorem RA{n k:Nat}{g:Nat->Nat->Int}{x:Nat->Int}(hk:k<=n)(P:(Nat->Int)->Prop)(h : ∀ q,q<n->P (g q))(hx:P x) : ∀ q,q<n+1->P (Fx.dB g k x q):=fun q hq=>by
 rcases cZ hk hq with rfl|⟨j,hj,e,_,_⟩
 ·rw[bQ]; exact hx
 ·rw[e]; exact h j hj
attribute [local irreducible] fF in
theorem Ep(h0:Inv0 L T)(h:rD L)(hm:bZ v=true)(hk:v.kind=3)(hE:nW L v=0):rD (ku L v):=by
 unfold nW at hE
 split at hE; · cases hE
 split at hE; · cases hE
 rename_i hp
 have hb:=kX hm
 have ha:=rz hm (.inr (.inl hk))
 unfold ku pO
 have hsum:=uG (f:=fun x=>bf x v.o v.bL) (idx:=qH L v.node) (R:=L.R) (d:=v.bL) (fun x hx=>by obtain⟨_,_,_,_,_,_,_,_,_,_,hu,_⟩:=FJ hx; exact hu) _ hE
 refine⟨fun k hk => ?_,fun q hq => ?_⟩
 ·show jm ((ru L v).1 k)=jE L.t L.tn (Fx.dB L.g (Fx.down (fun i=>DI v (L.g i)) L.gn) (wC v)) (L.id k) (L.gn+1)
  rw[CF _ (Fx.qg _ _)]
  have:=hsum k
  rw[show jX L.t L.tn (wC v) (L.id k)=v.bL*uF L.t L.tn v.node (L.id k)from rfl,<- h.us k hk]
  unfold uF
  rw[<- Eo (idx:=qH L v.node) (k:=k) _ fun i hi=>wG h0 hk hi]
  exact this
 exact RA (Fx.qg _ _) (fun y=>0<=aR L.t L.tn (y 2)/\1<=y 0/\y 0<=6/\0<=y 3/\y 3<=1125899906842624) h.gb
  ⟨xQ (i:=0) (x:=v.node) (by omega),hb.1,hb.2.1,by show 0<=v.bL; omega,ha.2⟩ q hq
attribute [local irreducible] fF in
theorem Er(h0:Inv0 L T)(h:rD L)(hm:bZ v=true)(hk:v.kind=4)(hE:pR L v=0):rD (jo L v):=by
 unfold pR at hE
 split at hE; · cases hE
 split at hE; · cases hE
 rename_i hp
 have hr:=Kc hm hk
 have hg:0<=L.grant v.o v.of:=by rcases O5 (L.grant v.o v.of)with h|h; · exact absurd (.inl h) hp
                                 ·exact h
 have hz:L.g (vk L v) 4=0:=by
  by_cases e:L.g (vk L v) 4=0
  ·exact e
  ·exact absurd (.inr e) hp
 have hkg:vk L v<L.gn:=by
  rcases iZ (fun i=>decide (L.g i 0=v.o)&&decide (L.g i 1=v.of)) L.gn with ⟨k,hk,e,_⟩|⟨e,_⟩
  ·have e':L.grant v.o v.of=(k:Int):=e
   unfold vk; rw[e']; exact hk
  ·have e':L.grant v.o v.of = -1:=e
   omega
 unfold jo pO pQ
 unfold pQ at hE
 generalize vk L v=q at *
 have hsum:=uG (f:=fun x=>bA x v.o (L.g q 3)) (idx:=qH L (L.g q 2)) (R:=L.R) (d := -(L.g q 3)) (fun x hx=>by obtain⟨_,_,_,_,_,_,_,_,_,hu,_⟩:=FK hx; rw[hu]; omega) _ hE
 have hb:=h.gb q hkg
 refine⟨fun k hk => ?_,fun p hp => ?_⟩
 ·show jm ((dG _ _ _ _).1 k)=jE L.t L.tn (aY L.g q (aY (L.g q) 4 v.req)) (L.id k) L.gn
  rw[CB _ hkg,<- h.us k hk,hsum k]
  have e1:jX L.t L.tn (aY (L.g q) 4 v.req) (L.id k)=0:=by
   unfold jX; rw[if_neg]; show ¬ v.req=0; omega
  have e2:jX L.t L.tn (L.g q) (L.id k)=L.g q 3*uF L.t L.tn (L.g q 2) (L.id k):=if_pos hz
  rw[e1,e2]
  unfold uF
  rw[<- Eo (idx:=qH L (L.g q 2)) (k:=k) _ fun i hi=>wG h0 hk hi,Int.neg_mul]
  omega
 show 0<=aR L.t L.tn (aY L.g q (aY (L.g q) 4 v.req) p 2)/\1<=aY L.g q (aY (L.g q) 4 v.req) p 0/\aY L.g q (aY (L.g q) 4 v.req) p 0<=6/\0<=aY L.g q (aY (L.g q) 4 v.req) p 3/\aY L.g q (aY (L.g q) 4 v.req) p 3<=1125899906842624
 by_cases e:p=q
 ·subst e
  have e1 : ∀ j,j≠4->aY L.g p (aY (L.g p) 4 v.req) p j=L.g p j:=fun j hj=>by
   show(if p=p then aY (L.g p) 4 v.req else L.g p) j=_
   rw[if_pos rfl]; exact if_neg hj
  rw[e1 2 (by omega),e1 0 (by omega),e1 3 (by omega)]; exact hb
 have e1:aY L.g q (aY (L.g q) 4 v.req) p=L.g p:=if_neg e
 rw[e1]; exact h.gb p hp
theorem AO{L':fO}(h:rD L)(e1:L'.nn=L.nn)(e2:L'.id=L.id)(e3:L'.tn=L.tn)(e4:L'.t=L.t)(e5:L'.gn=L.gn)(e6:L'.g=L.g)(hR : ∀ k,k<L.nn->jm (L'.R k)=jm (L.R k)):rD L':=by
 refine⟨fun k hk => ?_,fun q hq => ?_⟩
 ·rw[e1]at hk; rw[e2,e3,e4,e5,e6,hR k hk]; exact h.us k hk
 rw[e5]at hq; rw[e3,e4,e6]; exact h.gb q hq
theorem Ke{q:Nat}{r:Nat->Int}{R:Nat->Nat->Int}(hr:jm r=jm (R q))(k:Nat):jm (aY R q r k)=jm (R k):=by
 unfold aY; split
 ·rename_i e; rw[e]; exact hr
 rfl
theorem jM.path{t t':Nat->Nat->Int}{tn:Nat}{id par z y:Int}(h:jM t t' tn id par)(hid:1<=id)(hup : ∀ i,i<tn->t i 1=0\/0<=aR t tn (t i 1))(hd : ∃ D,D<=4/\aR t tn (bE t tn D z)<0)(hz:0<=aR t tn z) :
 uF t' (tn+1) z y=uF t tn z y/\(y=id->uF t tn z y=0):=by
 obtain⟨D,hD,hD2⟩:=hd
 obtain⟨K,hK,hK2,hall⟩:=ng D hD2
 have eK:K=fF t tn z:=sV hall hK2 hD2 (by omega)
 have hit : ∀ i,i<=K->bE t' (tn+1) i z=bE t tn i z:=fun i hi=>h.iter i fun j hj=>hall j (by omega)
 have hend:aR t' (tn+1) (bE t' (tn+1) K z)<0:=by
  rw[hit K (Nat.le_refl _)]
  rcases O5 (aR t' (tn+1) (bE t tn K z))with h1|h1
  ·exact h1
  ·exfalso
   rcases h.find.1 h1 with h2|h2
   ·omega
   ·cases K with
    | zero=>have:aR t tn z<0:=hK2; omega
    | succ K =>
      obtain⟨i,hi,e⟩:=eX.1 (hall K (by omega))
      have e3:bE t tn (K+1) z=t i 1:=by
       show t (aR t tn (bE t tn K z)).toNat 1=t i 1
       rw[<- e,mZ h.u hi]; rfl
      rw[e3]at h2 hK2
      rcases hup i hi with h4|h4
      ·omega
      ·omega
 have eK':K=fF t' (tn+1) z:=sV (fun i hi=>by rw[hit i (by omega)]; exact h.find.2 (.inl (hall i hi))) hend hend (by omega)
 have hc : ∀ n,n<=K->AJ t' (tn+1) z y n=AJ t tn z y n:=by
  intro n
  induction n with
  | zero=>intro _; rfl
  | succ n ih=>intro hn; unfold AJ; rw[ih (by omega),hit n (by omega)]
 refine⟨?_,fun hy => ?_⟩
 ·unfold uF; rw[<- eK,<- eK']; exact hc K (Nat.le_refl _)
 subst hy
 have : ∀ n,n<=K->AJ t tn z y n=0:=by
  intro n
  induction n with
  | zero=>intro _; rfl
  | succ n ih =>
    intro hn; unfold AJ
    rw[ih (by omega),if_neg]
    ·rfl
    ·intro e
     have:=hall n (by omega)
     rw[e]at this
     have h5:=mY.2 h.no
     omega
 unfold uF; rw[<- eK]; exact this K (Nat.le_refl _)
attribute [local irreducible] fF in
theorem Es(h0:Inv0 L T)(h:rD L)(hm:bZ v=true)(hk:v.kind=1)(hE:pI L v=0):rD (pK L v):=by
 obtain⟨k,hkn,hx1,hnt,MV,a3,a5,eC,hrise,En,hup⟩:=rA h0 hm hk hE
 have hro:=qy hm
 rw[eC]
 generalize tY v.o v.seq=x at *
 have hpar : ∀ i,i<L.tn->L.t i 1=0\/0<=aR L.t L.tn (L.t i 1):=fun i hi=>by
  have hi':=hi
  rw[h0.uE]at hi'
  rw[(h0.tid i hi').2]
  rcases h0.up i hi' with e|⟨j,hj,e⟩
  ·exact .inl e
  ·exact .inr (eX.2 ⟨j,by rw[h0.uE]; exact hj,by rw[(h0.tid j hj).1]; exact e⟩)
 have hp : ∀ q,q<L.gn -> ∀ y,uF (sS L.t k x v.node) (L.tn+1) (L.g q 2) y=uF L.t L.tn (L.g q 2) y/\(y=x->uF L.t L.tn (L.g q 2) y=0):=fun q hq y=>hup.path hx1 hpar (h0.dep _) (h.gb q hq).1
 refine⟨fun i hi => ?_,fun q hq => ?_⟩
 ·show jm (Fx.dB L.R k (upd (fun _=>0) (bC v) v.bL) i)=jE (sS L.t k x v.node) (L.tn+1) L.g (Fx.dB L.id k x i) L.gn
  rw[qz (t:=L.t) (tn:=L.tn) (g:=L.g) (y:=Fx.dB L.id k x i) L.gn fun q hq=>by unfold jX; rw[(hp q hq _).1]]
  rcases cZ hkn hi with rfl|⟨j,hj,e,_,_⟩
  ·rw[bQ,bQ,CG hro,zG L.gn fun q hq=>by unfold jX; rw[(hp q hq _).2 rfl,Int.mul_zero]; exact ite_self _]
   rfl
  rw[e,e]; exact h.us j hj
 have hg:=h.gb q hq
 exact⟨hup.find.2 (.inl hg.1),hg.2⟩
theorem Hw(h0:Inv0 L T)(h:rD L)(hm:bZ v=true)(hE:ow L v=0):rD (lU L v):=by
 have hk:=lV hm
 have hro:=qy hm
 unfold ow at hE
 unfold lU
 by_cases k1:v.kind=1
 ·rw[if_pos k1]at hE ⊢; exact Es h0 h hm k1 hE
 by_cases k2:v.kind=2
 ·rw[if_neg k1,if_pos k2]at hE ⊢
  exact AO h rfl rfl rfl rfl rfl rfl fun k _=>Ke (CG hro) k
 by_cases k3:v.kind=3
 ·rw[if_neg k1,if_neg k2,if_pos k3]at hE ⊢; exact Ep h0 h hm k3 hE
 by_cases k4:v.kind=4
 ·rw[if_neg k1,if_neg k2,if_neg k3,if_pos k4]at hE ⊢; exact Er h0 h hm k4 hE
 by_cases k5:v.kind=5
 ·rw[if_neg k1,if_neg k2,if_neg k3,if_neg k4,if_pos k5]at hE ⊢
  unfold uD at hE
  split at hE; · cases hE
  split at hE; · cases hE
  obtain⟨_,_,_,_,_,_,_,_,_,_,hM,_⟩:=FI hE
  exact AO h rfl rfl rfl rfl rfl rfl fun k _=>Ke hM.u k
 rw[if_neg k1,if_neg k2,if_neg k3,if_neg k4,if_neg k5]
 split
 ·exact AO h rfl rfl rfl rfl rfl rfl fun _ _=>rfl
 exact AO h rfl rfl rfl rfl rfl rfl fun _ _=>rfl
theorem M0.mono{T':Nat}(h:M0 L T)(hT:T<=T'):M0 L T' where
 kt:=fun i hi=>by have:=h.kt i hi; omega
 rb:=fun k hk a ha=>by have:=h.rb k hk a ha; omega
 rq:=h.rq
theorem Inv.mono{T':Nat}(h:Inv L T)(hT:T<=T'):Inv L T':=⟨h.toInv0.mono hT,h.s,h.b.mono hT⟩
end
end Rt
end
namespace Rt
def evX(e:Nat->EvM):Nat->Value:=Fx.flat 14 fun k=>aW (e k)
theorem JH.kd{K:Nat->Int}(h:JH K):Fx.Kd (List.replicate 6 (some .u64)) (Fx.rv .u64 K):=Fx.wR fun i hi=>Fx.kD (by have:=h i hi; omega)
end Rt
section
namespace Rt
def oK(ev:Nat->EvM):Nat->Nat->Int
 | 0,_=>0
 | k+1,i=>oK ev k i+if bC (ev k)=i then 1 else 0
structure V9(ev:Nat->EvM)(an:Nat)(K:Nat->Int):Prop where
 le : ∀ i,i<6->K i<=oK ev an i
 cl : ∀ k,k<an->(ev k).seq<=K (bC (ev k)) -> ∀ i,i<6->(ev k).deps i<=K i
structure Cz(n an:Nat)(ev:Nat->EvM)(kn:Nat->Nat->Int):Prop where
 rd : ∀ k,k<an->fV (oK ev k) (ev k)=true
 reg : ∀ k,k<an->bC (ev k)<n
 own : ∀ o,o<n->kn o o=oK ev an o
 kc : ∀ o,o<n->V9 ev an (kn o)
section
variable {ev:Nat->EvM} {an n j k i:Nat} {K:Nat->Int} {kn kn':Nat->Nat->Int} {v:EvM} {L:fO}
theorem Kg : ∀ d k i,oK ev k i<=oK ev (k+d) i
 | 0,_,_=>Int.le_refl _
 | d+1,k,i=>by have:=Kg d k i; show _<=oK ev (k+d) i+_; split <;> omega
theorem cnt_mono(h:j<=k):oK ev j i<=oK ev k i:=by have:=Kg (ev:=ev) (k-j) j i; rwa [show j+(k-j)=k by omega]at this
theorem AP(h:j<k):oK ev j (bC (ev j))+1<=oK ev k (bC (ev j)):=by
 have h1:oK ev (j+1) (bC (ev j))<=oK ev k (bC (ev j)):=cnt_mono (by omega)
 have h2:oK ev (j+1) (bC (ev j))=oK ev j (bC (ev j))+1:=by show _+(if _ then _ else _)=_; rw[if_pos rfl]
 omega
theorem TG(h:fV K v=true):bZ v=true/\v.seq=K (bC v)+1 /\ ∀ i,i<6->v.deps i<=K i:=by
 unfold fV at h
 simp only[Bool.and_eq_true,decide_eq_true_eq]at h
 refine⟨h.1.1,h.1.2,fun i hi => ?_⟩
 have:=h.2
 unfold zo at this
 rw[List.all_eq_true]at this
 exact of_decide_eq_true (this i (List.mem_range.2 hi))
theorem Cz.seq(h:Cz n an ev kn)(hk:k<an):(ev k).seq=oK ev k (bC (ev k))+1:=(TG (h.rd k hk)).2.1
theorem Cz.Kh(h:Cz n an ev kn)(hk:k<an):(ev k).seq<=oK ev an (bC (ev k)):=by rw[h.seq hk]; exact AP hk
theorem Cz.uniq(h:Cz n an ev kn)(hj:j<an)(hk:k<an)(e1:bC (ev j)=bC (ev k))(e2:(ev j).seq=(ev k).seq):j=k:=by
 rw[h.seq hj,h.seq hk]at e2
 rcases Nat.lt_trichotomy j k with h1|h1|h1
 ·have:=AP (ev:=ev) h1; rw[e1]at this e2; omega
 ·exact h1
 have:=AP (ev:=ev) h1; rw[<- e1]at this e2; omega
theorem Cz.step(h:Cz n an ev kn)(hc:V9 ev an K)(hj:j<an)(hr:fV K (ev j)=true):V9 ev an (aY K (bC (ev j)) (K (bC (ev j))+1)):=by
 obtain⟨_,r2,r3⟩:=TG hr
 have up : ∀ i,K i<=aY K (bC (ev j)) (K (bC (ev j))+1) i:=fun i=>by unfold aY; split <;> (try subst_vars) <;> omega
 refine⟨fun i hi => ?_,fun k hk hs i hi => ?_⟩
 ·unfold aY; split
  ·rename_i e; rw[e,<- r2]; exact h.Kh hj
  exact hc.le i hi
 by_cases e:(ev k).seq<=K (bC (ev k))
 ·exact Int.le_trans (hc.cl k hk e i hi) (up i)
 unfold aY at hs
 split at hs
 ·rename_i e2
  rw[e2]at e
  have:k=j:=h.uniq hk hj e2 (by omega)
  subst this
  exact Int.le_trans (r3 i hi) (up i)
 exact absurd hs e
theorem lW(h:eP L v=0):fV L.known v=true:=by
 unfold eP at h
 split at h; · cases h
 split at h; · cases h
 split at h; · cases h
 rename_i h3
 cases e:fV L.known v with
 | true=>rfl
 | false=>exact absurd e h3
theorem AQ(L:fO)(v:EvM):(eP L v=0/\(dA L v).known=aY L.known (bC v) (L.known (bC v)+1))\/(eP L v≠0/\dA L v=L):=by
 by_cases h:eP L v=0
 ·refine .inl ⟨h,?_⟩
  unfold dA; rw[if_pos h]
  show aY (lU L v).known _ _=_
  rw[vo]
 refine .inr ⟨h,?_⟩
 unfold dA; rw[if_neg h]
def KnO(ev:Nat->EvM)(an o:Nat)(K:Nat->Int):Prop:=V9 ev an K/\K o=oK ev an o
theorem Cz.apply(h:Cz n an ev kn){o:Nat}(hL:KnO ev an o L.known)(hj:j<an):KnO ev an o (dA L (ev j)).known:=by
 rcases AQ L (ev j)with ⟨h1,h2⟩|⟨_,h2⟩
 ·have hr:=lW h1
  rw[h2]
  refine⟨h.step hL.1 hj hr,?_⟩
  unfold aY
  split
  ·rename_i e
   have:=(TG hr).2.1
   have h3:=h.Kh hj
   rw[<- e]at this h3
   have:=hL.2
   omega
  exact hL.2
 rw[h2]; exact hL
theorem Cz.zero(n:Nat)(h : ∀ o,o<n->kn o=fun _=>0):Cz n 0 ev kn:=⟨fun _ h=>absurd h (Nat.not_lt_zero _),fun _ h=>absurd h (Nat.not_lt_zero _),fun o ho=>by rw[h o ho]; rfl,fun o ho=>⟨fun i _=>by rw[h o ho]; exact Int.le_refl _,fun _ h=>absurd h (Nat.not_lt_zero _)⟩⟩
end
end Rt
end
end Go.Proofs.YtahbiajdgealnaaDoor
namespace Go.Proofs.YtahbiajdgealnaaDoor
open Go.RowKit
namespace Fx
section
variable {S S':Nat->Prop}
theorem jB.trans(w w' w2:World)(h:jB S w w')(k:jB S w' w2):jB S w w2:=⟨k.os.trans h.os,k.tape.trans h.tape,k.output.trans h.output,Nat.le_trans h.size k.size,fun i hi hS=>(k.block i (Nat.lt_of_lt_of_le hi h.size) hS).trans (h.block i hi hS)⟩
theorem jB.mono{w w':World}(h:jB S w w')(hS : ∀ k,S k->S' k):jB S' w w':=⟨h.os,h.tape,h.output,h.size,fun i hi hn=>h.block i hi fun hs=>hn (hS i hs)⟩
theorem jB.bP{g:Nat}{w w':World}(h:Stp g w w'):jB (fun k=>k=g) w w':=(jB.refl _ w).then h (.inl rfl)
end
end Fx
end Go.Proofs.YtahbiajdgealnaaDoor
namespace Go.Proofs.YtahbiajdgealnaaDoor
open Go.RowKit Rt
open Fx (ah aj au ak aJ aA aO eZ av bF dI aK x_len dw bX dn bG Lv sN Ln Ws Qv Wl Rp Wc Qs Wr Sb Lk Wk rC rV sR)
section
set_option linter.unusedVariables false
set_option maxRecDepth 20000
structure dD where
 inn:Nat->Bool
 left:Nat->Bool
 known:Nat->Int
 own:Nat->Int
 T:cu
 R:Nat->Nat->Int
 gn:Nat
 g:Nat->Nat->Int
 an:Nat
 ao:Nat->Int
 ar:Nat->Int
 tp:Nat
 mb:Nat
 pb:Nat
 rb:Nat
 gb:Nat
 ab:Nat
def fM(m:dD):Nat->Value:=fun p=>if p<6 then .bool (m.inn p)else if p<12 then .bool (m.left (p-6))else if p<18 then .int .u64 (m.known (p-12))else if p=18 then .pointer (some ⟨m.tp,0,none⟩)else if p=19 then .map (some m.pb)else if p=20 then .map (some m.rb)else if p<27 then .int .i64 (m.own (p-21))else if p=27 then .map (some m.gb)else .map (some m.ab)
section
variable {m:dD} {p q:Nat}
theorem uH(h:p<6):fM m p = .bool (m.inn p):=by unfold fM; rw[if_pos h]
theorem sZ(h:p<6)(e:q=p+6):fM m q = .bool (m.left p):=by subst e; unfold fM; rw[if_neg (by omega),if_pos (by omega),Nat.add_sub_cancel]
theorem ni(h:p<6)(e:q=p+12):fM m q = .int .u64 (m.known p):=by subst e; unfold fM; rw[if_neg (by omega),if_neg (by omega),if_pos (by omega),Nat.add_sub_cancel]
theorem AU(h:p<6)(e:q=p+21):fM m q = .int .i64 (m.own p):=by subst e; unfold fM; rw[if_neg (by omega),if_neg (by omega),if_neg (by omega),if_neg (by omega),if_neg (by omega),if_neg (by omega),if_pos (by omega),Nat.add_sub_cancel]
theorem Ki{i:Nat}(hi:i<6)(b:Bool):Fx.eB (fM m) i (.bool b)=fM { m with inn:=aY m.inn i b }:=by
 funext p
 unfold Fx.eB
 by_cases e:p=i
 ·subst e; rw[if_pos rfl,uH hi]; simp[aY]
 rw[if_neg e]; unfold fM
 by_cases h:p<6
 ·rw[if_pos h,if_pos h]; simp[aY,e]
 rw[if_neg h,if_neg h]
theorem Kj{i:Nat}(hi:i<6)(e0:q=i+6)(b:Bool):Fx.eB (fM m) q (.bool b)=fM { m with left:=aY m.left i b }:=by
 subst e0
 funext p
 unfold Fx.eB
 by_cases e:p=i+6
 ·subst e; rw[if_pos rfl,sZ hi rfl]; simp[aY]
 rw[if_neg e]; unfold fM
 by_cases h:p<6
 ·rw[if_pos h,if_pos h]
 rw[if_neg h,if_neg h]
 by_cases h2:p<12
 ·rw[if_pos h2,if_pos h2]; simp[aY,show ¬ p-6=i by omega]
 rw[if_neg h2,if_neg h2]
theorem Hy{i:Nat}(hi:i<6)(e0:q=i+12)(x:Int):Fx.eB (fM m) q (.int .u64 x)=fM { m with known:=aY m.known i x }:=by
 subst e0
 funext p
 unfold Fx.eB
 by_cases e:p=i+12
 ·subst e; rw[if_pos rfl,ni hi rfl]; simp[aY]
 rw[if_neg e]; unfold fM
 by_cases h:p<6
 ·rw[if_pos h,if_pos h]
 rw[if_neg h,if_neg h]
 by_cases h2:p<12
 ·rw[if_pos h2,if_pos h2]
 rw[if_neg h2,if_neg h2]
 by_cases h3:p<18
 ·rw[if_pos h3,if_pos h3]; simp[aY,show ¬ p-12=i by omega]
 rw[if_neg h3,if_neg h3]
theorem M4{i:Nat}(hi:i<6)(e0:q=i+21)(x:Int):Fx.eB (fM m) q (.int .i64 x)=fM { m with own:=aY m.own i x }:=by
 subst e0
 funext p
 unfold Fx.eB
 by_cases e:p=i+21
 ·subst e; rw[if_pos rfl,AU hi rfl]; simp[aY]
 rw[if_neg e]; unfold fM
 by_cases h:p<6
 ·rw[if_pos h,if_pos h]
 rw[if_neg h,if_neg h]
 by_cases h2:p<12
 ·rw[if_pos h2,if_pos h2]
 rw[if_neg h2,if_neg h2]
 by_cases h3:p<18
 ·rw[if_pos h3,if_pos h3]
 rw[if_neg h3,if_neg h3]
 by_cases h4:p=18
 ·rw[if_pos h4,if_pos h4]
 rw[if_neg h4,if_neg h4]
 by_cases h5:p=19
 ·rw[if_pos h5,if_pos h5]
 rw[if_neg h5,if_neg h5]
 by_cases h6:p=20
 ·rw[if_pos h6,if_pos h6]
 rw[if_neg h6,if_neg h6]
 by_cases h7:p<27
 ·rw[if_pos h7,if_pos h7]; simp[aY,show ¬ p-21=i by omega]
 rw[if_neg h7,if_neg h7]
end
def nX(R:Nat->Nat->Int):Nat->Value:=fun i => .agg (Fx.ay 54 (Fx.rv .i64 (R i)))
def vR(T:cu):Nat->Value:=fun j => .int .u64 (T.p j)
def mF(g:Nat->Nat->Int):Nat->Value:=fun i => .agg (Fx.ay 5 (iJ (g i)))
def vS:Nat->Value:=fun _ => .bool true
structure QlN(m:dD):Prop where
 mp:m.mb≠m.pb
 mr:m.mb≠m.rb
 mg:m.mb≠m.gb
 ma:m.mb≠m.ab
 pr:m.pb≠m.rb
 pg:m.pb≠m.gb
 pa:m.pb≠m.ab
 rg:m.rb≠m.gb
 ra:m.rb≠m.ab
 ga:m.gb≠m.ab
structure iT(w:World)(B lp:Nat)(m:dD):Prop where
 c:Fx.aP w lp 29 (fM m) 93
 t:mD w B m.tp m.mb m.T
 p:Fx.Mp w m.pb m.T.n m.T.x (vR m.T)
 r:Fx.Mp w m.rb m.T.n m.T.x (nX m.R)
 g:Fx.gH w m.gb m.gn (fun i=>m.g i 0) (fun i=>m.g i 1) (mF m.g)
 a:Fx.gH w m.ab m.an m.ao m.ar vS
 ne:QlN m
 lB:B<=lp
 pB:B<=m.pb
 rB:B<=m.rb
 gB:B<=m.gb
 aB:B<=m.ab
def xR(m:dD)(lp:Nat)(k:Nat):Prop:=k=lp\/k=m.mb\/k=m.pb\/k=m.rb\/k=m.gb\/k=m.ab
section
variable {w w':World} {B lp:Nat} {m:dD}
theorem iT.up(h:iT w B lp m)(hb:Below w.heap.size w w'):iT w' B lp m := { h with c:=h.c.aC (Sb hb) (Nat.ne_of_lt h.c.lt),t:=h.t.up hb,p:=h.p.up hb,r:=h.r.up hb,g:=h.g.up hb,a:=h.a.up hb }
theorem iT.aU{Ts:List TypeId}(h:iT w B lp m)(hs:Fx.gD Ts w w')(ne:(Ts.contains 93 || Ts.contains 116)=false):iT w' B lp m:=by
 rw[Bool.or_eq_false_iff]at ne
 exact { h with c:=h.c.aU hs ne.1,t:=h.t.aU hs ne.2,p:=h.p.aU hs trivial,r:=h.r.aU hs trivial,g:=h.g.aU hs trivial,a:=h.a.aU hs trivial }
theorem mD.keep{tp mb:Nat}{T:cu}(h:mD w B tp mb T)(e1:w'.heap[tp]? = w.heap[tp]?)(e2:w'.heap[mb]? = w.heap[mb]?):mD w' B tp mb T:=⟨e1.trans h.blk,h.map.keep e2,h.inv,h.gt,h.gm⟩
theorem iT.keep(h:iT w B lp m)(hk : ∀ k,k=lp\/k=m.tp\/k=m.mb\/k=m.pb\/k=m.rb\/k=m.gb\/k=m.ab->w'.heap[k]? = w.heap[k]?):iT w' B lp m := { h with
 c:=(hk _ (.inl rfl)).trans h.c,t:=mD.keep h.t (hk _ (.inr (.inl rfl))) (hk _ (.inr (.inr (.inl rfl)))),p:=h.p.keep (hk _ (.inr (.inr (.inr (.inl rfl))))),r:=h.r.keep (hk _ (.inr (.inr (.inr (.inr (.inl rfl)))))),
 g:=h.g.keep (hk _ (.inr (.inr (.inr (.inr (.inr (.inl rfl))))))),a:=h.a.keep (hk _ (.inr (.inr (.inr (.inr (.inr (.inr rfl))))))) }
theorem iT.VZ{S:Nat->Prop}(h:iT w B lp m)(hs:Fx.jB S w w')(ne : ∀ k,k=m.tp\/xR m lp k -> ¬ S k):iT w' B lp m:=by
 have hb : ∀ k,k<w.heap.size -> ¬ S k->w'.heap[k]? = w.heap[k]? := hs.block
 refine h.keep fun k hk => ?_
 rcases hk with rfl|rfl|rfl|rfl|rfl|rfl|rfl
 ·exact hb _ h.c.lt (ne _ (.inr (.inl rfl)))
 ·exact hb _ h.t.blk.lt (ne _ (.inl rfl))
 ·exact hb _ h.t.lt (ne _ (.inr (.inr (.inl rfl))))
 ·exact hb _ h.p.lt (ne _ (.inr (.inr (.inr (.inl rfl)))))
 ·exact hb _ h.r.lt (ne _ (.inr (.inr (.inr (.inr (.inl rfl))))))
 ·exact hb _ h.g.lt (ne _ (.inr (.inr (.inr (.inr (.inr (.inl rfl)))))))
 exact hb _ h.a.lt (ne _ (.inr (.inr (.inr (.inr (.inr (.inr rfl)))))))
theorem iT.weak{B':Nat}(h:iT w B lp m)(hB:B'<=B):iT w B' lp m := { h with t:=h.t.weak hB,lB:=Nat.le_trans hB h.lB,pB:=Nat.le_trans hB h.pB,rB:=Nat.le_trans hB h.rB,gB:=Nat.le_trans hB h.gB,aB:=Nat.le_trans hB h.aB }
theorem iT.lt(h:iT w B lp m):lp<w.heap.size:=h.c.lt
theorem iT.ltS(h:iT w B lp m){k:Nat}(hk:xR m lp k):B<=k/\k<w.heap.size:=by
 rcases hk with rfl|rfl|rfl|rfl|rfl|rfl
 ·exact⟨h.lB,h.c.lt⟩
 ·exact⟨h.t.gm,h.t.lt⟩
 ·exact⟨h.pB,h.p.lt⟩
 ·exact⟨h.rB,h.r.lt⟩
 ·exact⟨h.gB,h.g.lt⟩
 exact⟨h.aB,h.a.lt⟩
end
namespace Rt
def tu(x:Nat->Int):Nat->Int->Nat
 | 0,_=>0
 | n+1,k=>if x n=k then n else tu x n k
theorem iU{x:Nat->Int}{j:Nat}{k:Int} : ∀ {n:Nat},(∀ a b,a<n->b<n->x a=x b->a=b)->j<n->x j=k->tu x n k=j
 | 0,_,h,_=>absurd h (Nat.not_lt_zero _)
 | n+1,hi,hj,e=>by
   unfold tu
   by_cases c:x n=k
   ·rw[if_pos c]; exact hi n j (by omega) hj (c.trans e.symm)
   ·rw[if_neg c]
    refine iU (fun a b ha hb=>hi a b (by omega) (by omega)) ?_ e
    rcases Nat.lt_or_ge j n with h|h
    ·exact h
    ·obtain rfl:j=n:=by omega
     exact absurd e c
end Rt
def dD.idx(m:dD)(k:Int):Nat:=tu m.T.x m.T.n k
def Kk(m:dD)(lp b0:Nat)(k:Nat):Prop:=xR m lp k\/b0<=k
structure M5(w:World)(B lp:Nat)(m m':dD)(b0:Nat)(fv:Value)(fi:Nat)(cap:Array Value):Prop where
 e:fv = .func (.func fi) #[] cap
 f : ∃ fn c, Tryd.prog.funcs[fi]? = some fn ∧ (fn.name == "runtime.NumGoroutine") = false ∧ fn.body = some c
 s : ∀ w2,Below w.heap.size w w2->Calls Tryd.prog fi cap w2 fun e w3=>e = .returned (.tuple #[])/\iT w3 B lp m'/\Fx.jB (Kk m lp b0) w2 w3
def Iz(w:World)(B lp:Nat)(m m':dD)(err:Int)(e:Ending)(w':World):Prop :=
 (∃ fv fi cap,e = .returned (.tuple #[fv,.int .i64 err])/\fv.oneCell'=true/\(err=0->M5 w' B lp m m' w.heap.size fv fi cap))/\Below w.heap.size w w'
theorem iT.AV{w w':World}{B lp g n b0:Nat}{m:dD}{x:Nat->Value}{T:TypeId}(h:iT w B lp m)(hb:Fx.aP w g n x T)(hT:T≠93)(hs:Fx.jB (Kk m lp b0) w w')(hg:g<b0):Fx.aP w' g n x T:=hb.VZ hs fun hk=>by
 rcases hk with (rfl|rfl|rfl|rfl|rfl|rfl)|hk
 ·exact hT (Fx.Ty.only h.c.ty hb.ty)
 ·exact h.t.map.kU hb.ty
 ·exact h.p.kU hb.ty
 ·exact h.r.kU hb.ty
 ·exact h.g.kU hb.ty
 ·exact h.a.kU hb.ty
 ·omega
theorem Fx.FP{P:Program}{f:Nat->Value}{w:World}{o:Oper}{g:Nat}{t:Operand}{xs:List Operand}{args:List Value}{Ts:Array TypeId}{cap all:Array Value}(ho:o.op = .call { callee := .value t,args:=xs.toArray,argTypes:=Ts })(ht:Fx.ev f t = .func (.func g) #[] cap)(hx:xs.map (Fx.ev f)=args)(hall:args.toArray++cap=all)
 (hf : ∃ fn c, P.funcs[g]? = some fn ∧ (fn.name == "runtime.NumGoroutine") = false ∧ fn.body = some c) : (execOp (Fx.ev f) o).run P w = .ok (.enter g all) w := by
 obtain⟨fn,c,h1,h2,h3⟩:=hf
 exact Fx.yV ho ht hx (by rw[<- hall]; simp) h1 h2 h3
namespace Fx
theorem It.bY{w w':World}{r b n g:Nat}{S:Nat->Bool}(h:It w r b n S)(hc:GK g w w')(n1:b≠g)(n2:r≠g):It w' r b n S:=h.keep (hc.s.block b h.PV n1) (hc.s.block r h.lt n2)
theorem uW.bY{w w':World}{r b i g:Nat}(h:uW w r b i)(hc:GK g w w')(n1:b≠g)(n2:r≠g):uW w' r b i:=h.keep (hc.s.block b h.PV n1) (hc.s.block r h.lt n2)
end Fx
end
end Go.Proofs.YtahbiajdgealnaaDoor
namespace Go.Proofs.YtahbiajdgealnaaDoor.Fx
open Go.RowKit
section
variable {P:Program} {n0:Nat} {Q:Post} {f:Nat->Value} {w:World} {ops:Array Oper} {rest:List Oper} {o:Oper}
theorem Et{T E:TypeId}{x:Operand}{b off n s:Nat}(ho:o.op = .slice T x none none none)(hx:ev f x = .pointer (some ⟨b,off,none⟩))(hu:P.underlying T=some (.array n E))(hs:(P.info? E).map (·.size)=some s) :
 Runs P f o w (.slice (some ⟨b,off,none⟩) n n):=by
 obtain⟨i,hi',hs'⟩:=Option.map_eq_some_iff.1 hs
 unfold Runs execOp
 simp only[ho,hx,Option.map_none]
 by_cases h:n=0
 ·subst h; simp[Instr.sliceAt,Instr.sureAddr,underlying,hu,Instr.sliceBounds,sizeOf,typeInfo,hi']
 simp[Instr.sliceAt,Instr.sureAddr,underlying,hu,Instr.sliceBounds,sizeOf,typeInfo,hi',Addr.add,hs']
end
end Go.Proofs.YtahbiajdgealnaaDoor.Fx
namespace Go.Proofs.YtahbiajdgealnaaDoor
open Go.RowKit Rt
open Fx (ah aj au ak aJ aA aO eZ av bF dI aK x_len dw bX dn bG Lv sN Ln Ws Qv Wl Rp Wc Qs Wr Sb Lk Wk rC rV sR)
namespace Rt
def iB(v:EvM)(l:Int):Bool:=decide (l<=v.bL)&&decide (v.bL<=1125899906842624)
def kL(v:EvM):EvM:=⟨v.o,v.seq,v.deps,v.kind,0,v.dst,0,v.req,v.of⟩
def pU(v:EvM):Bool:=decide (0<v.req)
def Eu(v:EvM):EvM:=⟨v.o,v.seq,v.deps,v.kind,v.node,v.dst,v.bL,0,v.of⟩
def RB(v:EvM):EvM:=⟨v.o,v.seq,v.deps,v.kind,v.node,v.dst,v.bL,0,0⟩
def toB(v:EvM):Bool:=nR v.dst && !decide (v.dst=v.o)
def CJ(v:EvM):EvM:=⟨v.o,v.seq,v.deps,v.kind,v.node,0,v.bL,v.req,v.of⟩
end Rt
def Rt.vT(v:EvM):Bool:=decide (0<v.req)&&(decide (0<v.of) && !decide (v.of=v.req))
theorem tC(n:Int)(w:World) :
 Calls Tryd.prog 65 #[.int .i64 (n)] w fun e w'=>e = .returned (.bool (nR n))/\w'=w:=by
 refine Fx.enter Tryd.func65 rfl (n:=9) rfl (by rfl) ?_
 refine Ws (Wl (Lv (.bool false) (aj rfl rfl) (Ln (sN (Ws (Wl (Lv (.int .i64 (n)) (ah rfl rfl) ?_)))))))
 by_cases c4:1<=n
 ·refine Lv (.bool true) (Fx.gV rfl rfl rfl c4) (Lv (.bool true) (ah rfl rfl) (Lv (.int .i64 (n)) (ah rfl rfl) ?_))
  by_cases c7:n<=6
  ·refine Lv (.bool true) (Fx.gU rfl rfl rfl c7) (Lv (.bool true) (aA rfl rfl rfl) (Lv (.bool true) (aj rfl rfl) (Ln (sN (Wr (⟨.bool true,rV Tryd.results65 (by exact rfl),?_⟩))))))
   exact⟨congrArg (fun q=>Ending.returned (Value.bool q)) (by simp only[nR]; first|(symm; simp; omega)|(symm; simp; done)),rfl⟩
  refine Lv (.bool false) (dI rfl rfl rfl c7) (Lv (.bool false) (aA rfl rfl rfl) (Lv (.bool false) (aj rfl rfl) (Ln (sN (Wr (⟨.bool false,rV Tryd.results65 (by exact rfl),?_⟩))))))
  exact⟨congrArg (fun q=>Ending.returned (Value.bool q)) (by simp only[nR]; first|(symm; simp; omega)|(symm; simp; done)),rfl⟩
 refine Lv (.bool false) (Fx.eY rfl rfl rfl c4) (Lv (.bool false) (ah rfl rfl) (Lk (by rfl) rfl (Lk (by rfl) rfl (Lv (.bool false) (aJ rfl rfl rfl) (Lv (.bool false) (aj rfl rfl) (Ln (sN (Wr (⟨.bool false,rV Tryd.results65 (by exact rfl),?_⟩)))))))))
 exact⟨congrArg (fun q=>Ending.returned (Value.bool q)) (by simp only[nR]; first|(symm; simp; omega)|(symm; simp; done)),rfl⟩
theorem AX(l:Int)(v:EvM)(g:Nat)(w:World)(hp:Fx.aP w g 14 (aW v) 139) :
 Calls Tryd.prog 94 #[(pt g),.int .i64 (l)] w fun e w'=>e = .returned (.bool (iB v l))/\Fx.aP w' g 14 (aW (kL v)) 139/\Fx.Stp g w w':=by
 have lg:=hp.lt
 refine Fx.enter Tryd.func94 rfl (n:=30) rfl (by rfl) ?_
 refine Ws (Wl (Lv (.bool false) (aj rfl rfl) (Ln (sN (Ws (Wl (Lv ((pt g)) (ah rfl rfl) (Lv ((pt g)) (aO rfl rfl) (Lv ((pt g)) (au rfl rfl Tryd.underlying139 rfl (s:=14) (by kernel_rfl) rfl rfl) (Lv ((pf g 11)) (au rfl rfl Tryd.underlying28 rfl (s:=1) (by kernel_rfl) rfl (by show _+11=_; omega)) (Lv (.int .i64 (v.bL)) (ak (x:=aW v) rfl rfl (by kernel_rfl) hp.aL (i:=11) (by omega) (by omega) rfl) (Lv (.int .i64 (l)) (ah rfl rfl) ?_))))))))))))
 by_cases c12:l<=v.bL
 ·refine Lv (.bool true) (Fx.gV rfl rfl rfl c12) (Lv (.bool true) (ah rfl rfl) (Lv ((pt g)) (ah rfl rfl) (Lv ((pt g)) (aO rfl rfl) (Lv ((pt g)) (au rfl rfl Tryd.underlying139 rfl (s:=14) (by kernel_rfl) rfl rfl) (Lv ((pf g 11)) (au rfl rfl Tryd.underlying28 rfl (s:=1) (by kernel_rfl) rfl (by show _+11=_; omega)) (Lv (.int .i64 (v.bL)) (ak (x:=aW v) rfl rfl (by kernel_rfl) hp.aL (i:=11) (by omega) (by omega) rfl) ?_))))))
  by_cases c19:v.bL<=1125899906842624
  ·refine Lv (.bool true) (Fx.gU rfl rfl rfl c19) (Lv (.bool true) (aA rfl rfl rfl) (Lv (.bool true) (aj rfl rfl) (Ln (sN (Ws (Wl (Lv ((pt g)) (ah rfl rfl) (Lv ((pt g)) (ah rfl rfl) (Lv ((pt g)) (aO rfl rfl) (Lv ((pt g)) (au rfl rfl Tryd.underlying139 rfl (s:=14) (by kernel_rfl) rfl rfl) (Lv ((pf g 9)) (au rfl rfl Tryd.underlying28 rfl (s:=1) (by kernel_rfl) rfl (by show _+9=_; omega)) (Fx.L.bV (x:=aW v) (u := .int .u64 (0)) (by rfl) rfl rfl rfl rfl (by rfl) (by kernel_rfl) hp (i:=9) (by omega) fun w1 m1 s1 z1 => ?_))))))))))))
   have m2:Fx.aP w1 g 14 (aW (⟨v.o,v.seq,v.deps,v.kind,0,v.dst,v.bL,v.req,v.of⟩:EvM)) 139:=m1.congr (fun j hj=>by rcases j with _|_|_|_|_|_|_|_|_|_|_|_|_|_|j <;> first|rfl|omega)
   have b1:=(Fx.Stp.refl g w).then s1 (by omega)
   refine Lv ((pt g)) (aO rfl rfl) (Lv ((pt g)) (au rfl rfl Tryd.underlying139 rfl (s:=14) (by kernel_rfl) rfl rfl) (Lv ((pf g 11)) (au rfl rfl Tryd.underlying28 rfl (s:=1) (by kernel_rfl) rfl (by show _+11=_; omega)) (Fx.L.bV (x:=aW (⟨v.o,v.seq,v.deps,v.kind,0,v.dst,v.bL,v.req,v.of⟩:EvM)) (u := .int .i64 (0)) (by rfl) rfl rfl rfl rfl (by rfl) (by kernel_rfl) m2 (i:=11) (by omega) fun w2 m3 s2 z2 => ?_)))
   have m4:Fx.aP w2 g 14 (aW (⟨v.o,v.seq,v.deps,v.kind,0,v.dst,0,v.req,v.of⟩:EvM)) 139:=m3.congr (fun j hj=>by rcases j with _|_|_|_|_|_|_|_|_|_|_|_|_|_|j <;> first|rfl|omega)
   have b2:=b1.then s2 (by omega)
   refine Ln (sN (Ws (Wl (Lv (.bool true) (ah rfl rfl) (Lv (.bool true) (aj rfl rfl) (Ln (sN (Wr (⟨.bool true,rV Tryd.results94 (by exact rfl),?_⟩)))))))))
   exact⟨congrArg (fun q=>Ending.returned (Value.bool q)) (by simp only[iB]; first|(symm; simp; omega)|(symm; simp; done)),m4,b2⟩
  refine Lv (.bool false) (dI rfl rfl rfl c19) (Lv (.bool false) (aA rfl rfl rfl) (Lv (.bool false) (aj rfl rfl) (Ln (sN (Ws (Wl (Lv ((pt g)) (ah rfl rfl) (Lv ((pt g)) (ah rfl rfl) (Lv ((pt g)) (aO rfl rfl) (Lv ((pt g)) (au rfl rfl Tryd.underlying139 rfl (s:=14) (by kernel_rfl) rfl rfl) (Lv ((pf g 9)) (au rfl rfl Tryd.underlying28 rfl (s:=1) (by kernel_rfl) rfl (by show _+9=_; omega)) (Fx.L.bV (x:=aW v) (u := .int .u64 (0)) (by rfl) rfl rfl rfl rfl (by rfl) (by kernel_rfl) hp (i:=9) (by omega) fun w3 m5 s3 z3 => ?_))))))))))))
  have m6:Fx.aP w3 g 14 (aW (⟨v.o,v.seq,v.deps,v.kind,0,v.dst,v.bL,v.req,v.of⟩:EvM)) 139:=m5.congr (fun j hj=>by rcases j with _|_|_|_|_|_|_|_|_|_|_|_|_|_|j <;> first|rfl|omega)
  have b3:=(Fx.Stp.refl g w).then s3 (by omega)
  refine Lv ((pt g)) (aO rfl rfl) (Lv ((pt g)) (au rfl rfl Tryd.underlying139 rfl (s:=14) (by kernel_rfl) rfl rfl) (Lv ((pf g 11)) (au rfl rfl Tryd.underlying28 rfl (s:=1) (by kernel_rfl) rfl (by show _+11=_; omega)) (Fx.L.bV (x:=aW (⟨v.o,v.seq,v.deps,v.kind,0,v.dst,v.bL,v.req,v.of⟩:EvM)) (u := .int .i64 (0)) (by rfl) rfl rfl rfl rfl (by rfl) (by kernel_rfl) m6 (i:=11) (by omega) fun w4 m7 s4 z4 => ?_)))
  have m8:Fx.aP w4 g 14 (aW (⟨v.o,v.seq,v.deps,v.kind,0,v.dst,0,v.req,v.of⟩:EvM)) 139:=m7.congr (fun j hj=>by rcases j with _|_|_|_|_|_|_|_|_|_|_|_|_|_|j <;> first|rfl|omega)
  have b4:=b3.then s4 (by omega)
  refine Ln (sN (Ws (Wl (Lv (.bool false) (ah rfl rfl) (Lv (.bool false) (aj rfl rfl) (Ln (sN (Wr (⟨.bool false,rV Tryd.results94 (by exact rfl),?_⟩)))))))))
  exact⟨congrArg (fun q=>Ending.returned (Value.bool q)) (by simp only[iB]; first|(symm; simp; omega)|(symm; simp; done)),m8,b4⟩
 refine Lv (.bool false) (Fx.eY rfl rfl rfl c12) (Lv (.bool false) (ah rfl rfl) (Lk (by rfl) rfl (Lk (by rfl) rfl (Lk (by rfl) rfl (Lk (by rfl) rfl (Lk (by rfl) rfl (Lk (by rfl) rfl (Lv (.bool false) (aJ rfl rfl rfl) (Lv (.bool false) (aj rfl rfl) (Ln (sN (Ws (Wl (Lv ((pt g)) (ah rfl rfl) (Lv ((pt g)) (ah rfl rfl) (Lv ((pt g)) (aO rfl rfl) (Lv ((pt g)) (au rfl rfl Tryd.underlying139 rfl (s:=14) (by kernel_rfl) rfl rfl) (Lv ((pf g 9)) (au rfl rfl Tryd.underlying28 rfl (s:=1) (by kernel_rfl) rfl (by show _+9=_; omega)) (Fx.L.bV (x:=aW v) (u := .int .u64 (0)) (by rfl) rfl rfl rfl rfl (by rfl) (by kernel_rfl) hp (i:=9) (by omega) fun w5 m9 s5 z5 => ?_)))))))))))))))))))
 have m10:Fx.aP w5 g 14 (aW (⟨v.o,v.seq,v.deps,v.kind,0,v.dst,v.bL,v.req,v.of⟩:EvM)) 139:=m9.congr (fun j hj=>by rcases j with _|_|_|_|_|_|_|_|_|_|_|_|_|_|j <;> first|rfl|omega)
 have b5:=(Fx.Stp.refl g w).then s5 (by omega)
 refine Lv ((pt g)) (aO rfl rfl) (Lv ((pt g)) (au rfl rfl Tryd.underlying139 rfl (s:=14) (by kernel_rfl) rfl rfl) (Lv ((pf g 11)) (au rfl rfl Tryd.underlying28 rfl (s:=1) (by kernel_rfl) rfl (by show _+11=_; omega)) (Fx.L.bV (x:=aW (⟨v.o,v.seq,v.deps,v.kind,0,v.dst,v.bL,v.req,v.of⟩:EvM)) (u := .int .i64 (0)) (by rfl) rfl rfl rfl rfl (by rfl) (by kernel_rfl) m10 (i:=11) (by omega) fun w6 m11 s6 z6 => ?_)))
 have m12:Fx.aP w6 g 14 (aW (⟨v.o,v.seq,v.deps,v.kind,0,v.dst,0,v.req,v.of⟩:EvM)) 139:=m11.congr (fun j hj=>by rcases j with _|_|_|_|_|_|_|_|_|_|_|_|_|_|j <;> first|rfl|omega)
 have b6:=b5.then s6 (by omega)
 refine Ln (sN (Ws (Wl (Lv (.bool false) (ah rfl rfl) (Lv (.bool false) (aj rfl rfl) (Ln (sN (Wr (⟨.bool false,rV Tryd.results94 (by exact rfl),?_⟩)))))))))
 exact⟨congrArg (fun q=>Ending.returned (Value.bool q)) (by simp only[iB]; first|(symm; simp; omega)|(symm; simp; done)),m12,b6⟩
theorem FQ(v:EvM)(g:Nat)(w:World)(hp:Fx.aP w g 14 (aW v) 139) :
 Calls Tryd.prog 95 #[(pt g)] w fun e w'=>e = .returned (.bool (pU v))/\Fx.aP w' g 14 (aW (Eu v)) 139/\Fx.Stp g w w':=by
 have lg:=hp.lt
 refine Fx.enter Tryd.func95 rfl (n:=15) rfl (by rfl) ?_
 refine Ws (Wl (Lv (.bool false) (aj rfl rfl) (Ln (sN (Ws (Wl (Lv ((pt g)) (ah rfl rfl) (Lv ((pt g)) (aO rfl rfl) (Lv ((pt g)) (au rfl rfl Tryd.underlying139 rfl (s:=14) (by kernel_rfl) rfl rfl) (Lv ((pf g 12)) (au rfl rfl Tryd.underlying28 rfl (s:=1) (by kernel_rfl) rfl (by show _+12=_; omega)) (Lv (.int .u64 (v.req)) (ak (x:=aW v) rfl rfl (by kernel_rfl) hp.aL (i:=12) (by omega) (by omega) rfl) ?_)))))))))))
 by_cases c9:0<v.req
 ·refine Lv (.bool true) (Fx.iy rfl rfl rfl c9) (Lv (.bool true) (aj rfl rfl) (Ln (sN (Ws (Wl (Lv ((pt g)) (ah rfl rfl) (Lv ((pt g)) (aO rfl rfl) (Lv ((pt g)) (au rfl rfl Tryd.underlying139 rfl (s:=14) (by kernel_rfl) rfl rfl) (Lv ((pf g 12)) (au rfl rfl Tryd.underlying28 rfl (s:=1) (by kernel_rfl) rfl (by show _+12=_; omega)) (Fx.L.bV (x:=aW v) (u := .int .u64 (0)) (by rfl) rfl rfl rfl rfl (by rfl) (by kernel_rfl) hp (i:=12) (by omega) fun w1 m1 s1 z1 => ?_))))))))))
  have m2:Fx.aP w1 g 14 (aW (⟨v.o,v.seq,v.deps,v.kind,v.node,v.dst,v.bL,0,v.of⟩:EvM)) 139:=m1.congr (fun j hj=>by rcases j with _|_|_|_|_|_|_|_|_|_|_|_|_|_|j <;> first|rfl|omega)
  have b1:=(Fx.Stp.refl g w).then s1 (by omega)
  refine Ln (sN (Ws (Wl (Lv (.bool true) (ah rfl rfl) (Lv (.bool true) (aj rfl rfl) (Ln (sN (Wr (⟨.bool true,rV Tryd.results95 (by exact rfl),?_⟩)))))))))
  exact⟨congrArg (fun q=>Ending.returned (Value.bool q)) (by simp only[pU]; first|(symm; simp; omega)|(symm; simp; done)),m2,b1⟩
 refine Lv (.bool false) (dw rfl rfl rfl c9) (Lv (.bool false) (aj rfl rfl) (Ln (sN (Ws (Wl (Lv ((pt g)) (ah rfl rfl) (Lv ((pt g)) (aO rfl rfl) (Lv ((pt g)) (au rfl rfl Tryd.underlying139 rfl (s:=14) (by kernel_rfl) rfl rfl) (Lv ((pf g 12)) (au rfl rfl Tryd.underlying28 rfl (s:=1) (by kernel_rfl) rfl (by show _+12=_; omega)) (Fx.L.bV (x:=aW v) (u := .int .u64 (0)) (by rfl) rfl rfl rfl rfl (by rfl) (by kernel_rfl) hp (i:=12) (by omega) fun w2 m3 s2 z2 => ?_))))))))))
 have m4:Fx.aP w2 g 14 (aW (⟨v.o,v.seq,v.deps,v.kind,v.node,v.dst,v.bL,0,v.of⟩:EvM)) 139:=m3.congr (fun j hj=>by rcases j with _|_|_|_|_|_|_|_|_|_|_|_|_|_|j <;> first|rfl|omega)
 have b2:=(Fx.Stp.refl g w).then s2 (by omega)
 refine Ln (sN (Ws (Wl (Lv (.bool false) (ah rfl rfl) (Lv (.bool false) (aj rfl rfl) (Ln (sN (Wr (⟨.bool false,rV Tryd.results95 (by exact rfl),?_⟩)))))))))
 exact⟨congrArg (fun q=>Ending.returned (Value.bool q)) (by simp only[pU]; first|(symm; simp; omega)|(symm; simp; done)),m4,b2⟩
theorem X9(v:EvM)(g:Nat)(w:World)(hp:Fx.aP w g 14 (aW v) 139) :
 Calls Tryd.prog 96 #[(pt g)] w fun e w'=>e = .returned (.bool (vT v))/\Fx.aP w' g 14 (aW (RB v)) 139/\Fx.Stp g w w':=by
 have lg:=hp.lt
 refine Fx.enter Tryd.func96 rfl (n:=32) rfl (by rfl) ?_
 refine Ws (Wl (Lv (.bool false) (aj rfl rfl) (Ln (sN (Ws ?_)))))
 -- region 1 draws
 refine Fx.W.quiet (fun v1 => ∃ q,v1=World.drewN w q) (by kernel_rfl) (by kernel_rfl) ⟨1,rfl⟩ ?_
 refine Qv ((pt g)) (fun v1 hv1=>ah rfl rfl) (Qv ((pt g)) (fun v1 hv1=>aO rfl rfl) (Qv ((pt g)) (fun v1 hv1=>au rfl rfl Tryd.underlying139 rfl (s:=14) (by kernel_rfl) rfl rfl) (Qv ((pf g 13)) (fun v1 hv1=>au rfl rfl Tryd.underlying28 rfl (s:=1) (by kernel_rfl) rfl (by show _+13=_; omega)) (Qv (.int .u64 (v.of)) (fun v1 hv1=>ak (x:=aW v) rfl rfl (by kernel_rfl) (by obtain⟨qd,rfl⟩:=hv1; exact hp.aL) (i:=13) (by omega) (by omega) rfl) ?_))))
 by_cases c9:0<v.of
 ·refine Qv (.bool true) (fun v1 hv1=>Fx.iy rfl rfl rfl c9) (Qv (.bool true) (fun v1 hv1=>ah rfl rfl) (Qv ((pt g)) (fun v1 hv1=>ah rfl rfl) (Qv ((pt g)) (fun v1 hv1=>aO rfl rfl) (Qv ((pt g)) (fun v1 hv1=>au rfl rfl Tryd.underlying139 rfl (s:=14) (by kernel_rfl) rfl rfl) (Qv ((pf g 13)) (fun v1 hv1=>au rfl rfl Tryd.underlying28 rfl (s:=1) (by kernel_rfl) rfl (by show _+13=_; omega)) (Qv (.int .u64 (v.of)) (fun v1 hv1=>ak (x:=aW v) rfl rfl (by kernel_rfl) (by obtain⟨qd,rfl⟩:=hv1; exact hp.aL) (i:=13) (by omega) (by omega) rfl) (Qv ((pt g)) (fun v1 hv1=>ah rfl rfl) (Qv ((pt g)) (fun v1 hv1=>aO rfl rfl) (Qv ((pt g)) (fun v1 hv1=>au rfl rfl Tryd.underlying139 rfl (s:=14) (by kernel_rfl) rfl rfl) (Qv ((pf g 12)) (fun v1 hv1=>au rfl rfl Tryd.underlying28 rfl (s:=1) (by kernel_rfl) rfl (by show _+12=_; omega)) (Qv (.int .u64 (v.req)) (fun v1 hv1=>ak (x:=aW v) rfl rfl (by kernel_rfl) (by obtain⟨qd,rfl⟩:=hv1; exact hp.aL) (i:=12) (by omega) (by omega) rfl) ?_)))))))))))
  by_cases c21:v.of=v.req
  ·refine Qv (.bool false) (fun v1 hv1=>Fx.gu rfl rfl rfl c21) (Qv (.bool false) (fun v1 hv1=>aA rfl rfl rfl) (Qv (.bool false) (fun v1 hv1=>aj rfl rfl) (Fx.Qt.nil ?_)))
   rintro _ ⟨qd,rfl⟩
   obtain⟨TH,Ev⟩ : ∃ v1,v1=World.drewN w qd:=⟨_,rfl⟩
   rw[<- Ev]
   have s1:Fx.Stp w.heap.size w TH:=by rw[Ev]; exact Sb (Bn w qd)
   have m1:=hp.aC s1 hp.ne
   have b1:=(Fx.Stp.refl g w).then s1 (.inr (Fx.Stp.refl g w).size)
   clear Ev
   refine sN (Ws (Wl (Lv ((pt g)) (ah rfl rfl) (Lv ((pt g)) (aO rfl rfl) (Lv ((pt g)) (au rfl rfl Tryd.underlying139 rfl (s:=14) (by kernel_rfl) rfl rfl) (Lv ((pf g 13)) (au rfl rfl Tryd.underlying28 rfl (s:=1) (by kernel_rfl) rfl (by show _+13=_; omega)) (Fx.L.bV (x:=aW v) (u := .int .u64 (0)) (by rfl) rfl rfl rfl rfl (by rfl) (by kernel_rfl) m1 (i:=13) (by omega) fun w1 m2 s2 z1 => ?_)))))))
   have m3:Fx.aP w1 g 14 (aW (⟨v.o,v.seq,v.deps,v.kind,v.node,v.dst,v.bL,v.req,0⟩:EvM)) 139:=m2.congr (fun j hj=>by rcases j with _|_|_|_|_|_|_|_|_|_|_|_|_|_|j <;> first|rfl|omega)
   have b2:=b1.then s2 (by omega)
   refine Ln (sN (Ws (Wl (Lv ((pt g)) (ah rfl rfl) (Fx.L.call (by rfl) (rC (args := [(pt g)]) rfl rfl Tryd.func95 rfl rfl) rfl ((FQ (⟨v.o,v.seq,v.deps,v.kind,v.node,v.dst,v.bL,v.req,0⟩:EvM) g _ m3).mono ?_))))))
   rintro e w2 ⟨he,m4,s3⟩
   have b3:=b2.then s3 (by omega)
   by_cases c28:pU (⟨v.o,v.seq,v.deps,v.kind,v.node,v.dst,v.bL,v.req,0⟩:EvM)=true
   ·refine⟨.bool true,by rw[he,c28],?_⟩
    clear he
    refine Lv (.bool true) (ah rfl rfl) (Lv (.bool false) (ah rfl rfl) (Lv (.bool false) (aA rfl rfl rfl) (Lv (.bool false) (aj rfl rfl) (Ln (sN (Wr (⟨.bool false,rV Tryd.results96 (by exact rfl),?_⟩)))))))
    exact⟨congrArg (fun q=>Ending.returned (Value.bool q)) (by simp only[vT,pU]at *; first|(symm; simp; omega)|(symm; simp at *; omega)|(symm; simp at *; done)),m4,b3⟩
   rw[Bool.not_eq_true]at c28
   refine⟨.bool false,by rw[he,c28],?_⟩
   clear he
   refine Lv (.bool false) (ah rfl rfl) (Lk (by rfl) rfl (Lv (.bool false) (aJ rfl rfl rfl) (Lv (.bool false) (aj rfl rfl) (Ln (sN (Wr (⟨.bool false,rV Tryd.results96 (by exact rfl),?_⟩)))))))
   exact⟨congrArg (fun q=>Ending.returned (Value.bool q)) (by simp only[vT,pU]at *; first|(symm; simp; omega)|(symm; simp at *; omega)|(symm; simp at *; done)),m4,b3⟩
  refine Qv (.bool true) (fun v1 hv1=>Fx.jd rfl rfl rfl c21) (Qv (.bool true) (fun v1 hv1=>aA rfl rfl rfl) (Qv (.bool true) (fun v1 hv1=>aj rfl rfl) (Fx.Qt.nil ?_)))
  rintro _ ⟨qd,rfl⟩
  obtain⟨wq2,Ew⟩ : ∃ v1,v1=World.drewN w qd:=⟨_,rfl⟩
  rw[<- Ew]
  have s4:Fx.Stp w.heap.size w wq2:=by rw[Ew]; exact Sb (Bn w qd)
  have m5:=hp.aC s4 hp.ne
  have b4:=(Fx.Stp.refl g w).then s4 (.inr (Fx.Stp.refl g w).size)
  clear Ew
  refine sN (Ws (Wl (Lv ((pt g)) (ah rfl rfl) (Lv ((pt g)) (aO rfl rfl) (Lv ((pt g)) (au rfl rfl Tryd.underlying139 rfl (s:=14) (by kernel_rfl) rfl rfl) (Lv ((pf g 13)) (au rfl rfl Tryd.underlying28 rfl (s:=1) (by kernel_rfl) rfl (by show _+13=_; omega)) (Fx.L.bV (x:=aW v) (u := .int .u64 (0)) (by rfl) rfl rfl rfl rfl (by rfl) (by kernel_rfl) m5 (i:=13) (by omega) fun w3 m6 s5 z2 => ?_)))))))
  have m7:Fx.aP w3 g 14 (aW (⟨v.o,v.seq,v.deps,v.kind,v.node,v.dst,v.bL,v.req,0⟩:EvM)) 139:=m6.congr (fun j hj=>by rcases j with _|_|_|_|_|_|_|_|_|_|_|_|_|_|j <;> first|rfl|omega)
  have b5:=b4.then s5 (by omega)
  refine Ln (sN (Ws (Wl (Lv ((pt g)) (ah rfl rfl) (Fx.L.call (by rfl) (rC (args := [(pt g)]) rfl rfl Tryd.func95 rfl rfl) rfl ((FQ (⟨v.o,v.seq,v.deps,v.kind,v.node,v.dst,v.bL,v.req,0⟩:EvM) g _ m7).mono ?_))))))
  rintro e w4 ⟨he,m8,s6⟩
  have b6:=b5.then s6 (by omega)
  by_cases c28:pU (⟨v.o,v.seq,v.deps,v.kind,v.node,v.dst,v.bL,v.req,0⟩:EvM)=true
  ·refine⟨.bool true,by rw[he,c28],?_⟩
   clear he
   refine Lv (.bool true) (ah rfl rfl) (Lv (.bool true) (ah rfl rfl) (Lv (.bool true) (aA rfl rfl rfl) (Lv (.bool true) (aj rfl rfl) (Ln (sN (Wr (⟨.bool true,rV Tryd.results96 (by exact rfl),?_⟩)))))))
   exact⟨congrArg (fun q=>Ending.returned (Value.bool q)) (by simp only[vT,pU]at *; first|(symm; simp; omega)|(symm; simp at *; omega)|(symm; simp at *; done)),m8,b6⟩
  rw[Bool.not_eq_true]at c28
  refine⟨.bool false,by rw[he,c28],?_⟩
  clear he
  refine Lv (.bool false) (ah rfl rfl) (Lk (by rfl) rfl (Lv (.bool false) (aJ rfl rfl rfl) (Lv (.bool false) (aj rfl rfl) (Ln (sN (Wr (⟨.bool false,rV Tryd.results96 (by exact rfl),?_⟩)))))))
  exact⟨congrArg (fun q=>Ending.returned (Value.bool q)) (by simp only[vT,pU]at *; first|(symm; simp; omega)|(symm; simp at *; omega)|(symm; simp at *; done)),m8,b6⟩
 refine Qv (.bool false) (fun v1 hv1=>dw rfl rfl rfl c9) (Qv (.bool false) (fun v1 hv1=>ah rfl rfl) (Qs (by rfl) rfl (Qs (by rfl) rfl (Qs (by rfl) rfl (Qs (by rfl) rfl (Qs (by rfl) rfl (Qs (by rfl) rfl (Qs (by rfl) rfl (Qs (by rfl) rfl (Qs (by rfl) rfl (Qs (by rfl) rfl (Qs (by rfl) rfl (Qv (.bool false) (fun v1 hv1=>aJ rfl rfl rfl) (Qv (.bool false) (fun v1 hv1=>aj rfl rfl) (Fx.Qt.nil ?_)))))))))))))))
 rintro _ ⟨qd,rfl⟩
 obtain⟨RD,RF⟩ : ∃ v1,v1=World.drewN w qd:=⟨_,rfl⟩
 rw[<- RF]
 have s7:Fx.Stp w.heap.size w RD:=by rw[RF]; exact Sb (Bn w qd)
 have m9:=hp.aC s7 hp.ne
 have b7:=(Fx.Stp.refl g w).then s7 (.inr (Fx.Stp.refl g w).size)
 clear RF
 refine sN (Ws (Wl (Lv ((pt g)) (ah rfl rfl) (Lv ((pt g)) (aO rfl rfl) (Lv ((pt g)) (au rfl rfl Tryd.underlying139 rfl (s:=14) (by kernel_rfl) rfl rfl) (Lv ((pf g 13)) (au rfl rfl Tryd.underlying28 rfl (s:=1) (by kernel_rfl) rfl (by show _+13=_; omega)) (Fx.L.bV (x:=aW v) (u := .int .u64 (0)) (by rfl) rfl rfl rfl rfl (by rfl) (by kernel_rfl) m9 (i:=13) (by omega) fun w5 m10 s8 z3 => ?_)))))))
 have m11:Fx.aP w5 g 14 (aW (⟨v.o,v.seq,v.deps,v.kind,v.node,v.dst,v.bL,v.req,0⟩:EvM)) 139:=m10.congr (fun j hj=>by rcases j with _|_|_|_|_|_|_|_|_|_|_|_|_|_|j <;> first|rfl|omega)
 have b8:=b7.then s8 (by omega)
 refine Ln (sN (Ws (Wl (Lv ((pt g)) (ah rfl rfl) (Fx.L.call (by rfl) (rC (args := [(pt g)]) rfl rfl Tryd.func95 rfl rfl) rfl ((FQ (⟨v.o,v.seq,v.deps,v.kind,v.node,v.dst,v.bL,v.req,0⟩:EvM) g _ m11).mono ?_))))))
 rintro e w6 ⟨he,m12,s9⟩
 have b9:=b8.then s9 (by omega)
 by_cases c28:pU (⟨v.o,v.seq,v.deps,v.kind,v.node,v.dst,v.bL,v.req,0⟩:EvM)=true
 ·refine⟨.bool true,by rw[he,c28],?_⟩
  clear he
  refine Lv (.bool true) (ah rfl rfl) (Lv (.bool false) (ah rfl rfl) (Lv (.bool false) (aA rfl rfl rfl) (Lv (.bool false) (aj rfl rfl) (Ln (sN (Wr (⟨.bool false,rV Tryd.results96 (by exact rfl),?_⟩)))))))
  exact⟨congrArg (fun q=>Ending.returned (Value.bool q)) (by simp only[vT,pU]at *; first|(symm; simp; omega)|(symm; simp at *; omega)|(symm; simp at *; done)),m12,b9⟩
 rw[Bool.not_eq_true]at c28
 refine⟨.bool false,by rw[he,c28],?_⟩
 clear he
 refine Lv (.bool false) (ah rfl rfl) (Lk (by rfl) rfl (Lv (.bool false) (aJ rfl rfl rfl) (Lv (.bool false) (aj rfl rfl) (Ln (sN (Wr (⟨.bool false,rV Tryd.results96 (by exact rfl),?_⟩)))))))
 exact⟨congrArg (fun q=>Ending.returned (Value.bool q)) (by simp only[vT,pU]at *; first|(symm; simp; omega)|(symm; simp at *; omega)|(symm; simp at *; done)),m12,b9⟩
theorem UZ(v:EvM)(g:Nat)(w:World)(hp:Fx.aP w g 14 (aW v) 139) :
 Calls Tryd.prog 97 #[(pt g)] w fun e w'=>e = .returned (.bool (toB v))/\Fx.aP w' g 14 (aW (CJ v)) 139/\Fx.Stp g w w':=by
 have lg:=hp.lt
 refine Fx.enter Tryd.func97 rfl (n:=28) rfl (by rfl) ?_
 refine Ws (Wl (Lv (.bool false) (aj rfl rfl) (Ln (sN (Ws ?_)))))
 -- region 1 draws
 refine Fx.W.quiet (fun v1=>Below w.heap.size w v1) (by kernel_rfl) (by kernel_rfl) (Below.refl _ _).drew ?_
 refine Qv ((pt g)) (fun v1 hv1=>ah rfl rfl) (Qv ((pt g)) (fun v1 hv1=>aO rfl rfl) (Qv ((pt g)) (fun v1 hv1=>au rfl rfl Tryd.underlying139 rfl (s:=14) (by kernel_rfl) rfl rfl) (Qv ((pf g 10)) (fun v1 hv1=>au rfl rfl Tryd.underlying28 rfl (s:=1) (by kernel_rfl) rfl (by show _+10=_; omega)) (Qv (.int .i64 (v.dst)) (fun v1 hv1=>ak (x:=aW v) rfl rfl (by kernel_rfl) (hp.aL.below hv1 (by have:=hp.lt; omega)) (i:=10) (by omega) (by omega) rfl) ?_))))
 by_cases c9:(nR v.dst)=true
 ·refine Fx.Qt.call (v := .bool true) (by rfl) (fun v1 hv1=>rC (args := [.int .i64 (v.dst)]) rfl rfl Tryd.func65 rfl rfl) rfl (fun v1 hv1=>(tC v.dst _).mono fun e v2 h=>⟨by rw[h.1,c9],by rw[h.2]; exact hv1⟩) ?_
  refine Qv (.bool true) (fun v1 hv1=>ah rfl rfl) (Qv ((pt g)) (fun v1 hv1=>ah rfl rfl) (Qv ((pt g)) (fun v1 hv1=>aO rfl rfl) (Qv ((pt g)) (fun v1 hv1=>au rfl rfl Tryd.underlying139 rfl (s:=14) (by kernel_rfl) rfl rfl) (Qv ((pf g 10)) (fun v1 hv1=>au rfl rfl Tryd.underlying28 rfl (s:=1) (by kernel_rfl) rfl (by show _+10=_; omega)) (Qv (.int .i64 (v.dst)) (fun v1 hv1=>ak (x:=aW v) rfl rfl (by kernel_rfl) (hp.aL.below hv1 (by have:=hp.lt; omega)) (i:=10) (by omega) (by omega) rfl) (Qv ((pt g)) (fun v1 hv1=>ah rfl rfl) (Qv ((pt g)) (fun v1 hv1=>aO rfl rfl) (Qv ((pt g)) (fun v1 hv1=>au rfl rfl Tryd.underlying139 rfl (s:=14) (by kernel_rfl) rfl rfl) (Qv ((pt g)) (fun v1 hv1=>au rfl rfl Tryd.underlying28 rfl (s:=1) (by kernel_rfl) rfl rfl) (Qv (.int .i64 (v.o)) (fun v1 hv1=>ak (x:=aW v) rfl rfl (by kernel_rfl) (hp.aL.below hv1 (by have:=hp.lt; omega)) (i:=0) (by omega) (by omega) rfl) ?_))))))))))
  by_cases c21:v.dst=v.o
  ·refine Qv (.bool false) (fun v1 hv1=>Fx.gu rfl rfl rfl c21) (Qv (.bool false) (fun v1 hv1=>aA rfl rfl rfl) (Qv (.bool false) (fun v1 hv1=>aj rfl rfl) (Fx.Qt.nil ?_)))
   intro sG iN
   have s1:Fx.Stp w.heap.size w sG:=Sb iN
   have m1:=hp.aC s1 hp.ne
   have b1:=(Fx.Stp.refl g w).then s1 (.inr (Fx.Stp.refl g w).size)
   refine sN (Ws (Wl (Lv ((pt g)) (ah rfl rfl) (Lv ((pt g)) (aO rfl rfl) (Lv ((pt g)) (au rfl rfl Tryd.underlying139 rfl (s:=14) (by kernel_rfl) rfl rfl) (Lv ((pf g 10)) (au rfl rfl Tryd.underlying28 rfl (s:=1) (by kernel_rfl) rfl (by show _+10=_; omega)) (Fx.L.bV (x:=aW v) (u := .int .i64 (0)) (by rfl) rfl rfl rfl rfl (by rfl) (by kernel_rfl) m1 (i:=10) (by omega) fun w1 m2 s2 z1 => ?_)))))))
   have m3:Fx.aP w1 g 14 (aW (⟨v.o,v.seq,v.deps,v.kind,v.node,0,v.bL,v.req,v.of⟩:EvM)) 139:=m2.congr (fun j hj=>by rcases j with _|_|_|_|_|_|_|_|_|_|_|_|_|_|j <;> first|rfl|omega)
   have b2:=b1.then s2 (by omega)
   refine Ln (sN (Ws (Wl (Lv (.bool false) (ah rfl rfl) (Lv (.bool false) (aj rfl rfl) (Ln (sN (Wr (⟨.bool false,rV Tryd.results97 (by exact rfl),?_⟩)))))))))
   exact⟨congrArg (fun q=>Ending.returned (Value.bool q)) (by unfold toB; rw[c9]; first|(symm; simp; omega)|(symm; simp; done)),m3,b2⟩
  refine Qv (.bool true) (fun v1 hv1=>Fx.jd rfl rfl rfl c21) (Qv (.bool true) (fun v1 hv1=>aA rfl rfl rfl) (Qv (.bool true) (fun v1 hv1=>aj rfl rfl) (Fx.Qt.nil ?_)))
  intro yI ji
  have s3:Fx.Stp w.heap.size w yI:=Sb ji
  have m4:=hp.aC s3 hp.ne
  have b3:=(Fx.Stp.refl g w).then s3 (.inr (Fx.Stp.refl g w).size)
  refine sN (Ws (Wl (Lv ((pt g)) (ah rfl rfl) (Lv ((pt g)) (aO rfl rfl) (Lv ((pt g)) (au rfl rfl Tryd.underlying139 rfl (s:=14) (by kernel_rfl) rfl rfl) (Lv ((pf g 10)) (au rfl rfl Tryd.underlying28 rfl (s:=1) (by kernel_rfl) rfl (by show _+10=_; omega)) (Fx.L.bV (x:=aW v) (u := .int .i64 (0)) (by rfl) rfl rfl rfl rfl (by rfl) (by kernel_rfl) m4 (i:=10) (by omega) fun w2 m5 s4 z2 => ?_)))))))
  have m6:Fx.aP w2 g 14 (aW (⟨v.o,v.seq,v.deps,v.kind,v.node,0,v.bL,v.req,v.of⟩:EvM)) 139:=m5.congr (fun j hj=>by rcases j with _|_|_|_|_|_|_|_|_|_|_|_|_|_|j <;> first|rfl|omega)
  have b4:=b3.then s4 (by omega)
  refine Ln (sN (Ws (Wl (Lv (.bool true) (ah rfl rfl) (Lv (.bool true) (aj rfl rfl) (Ln (sN (Wr (⟨.bool true,rV Tryd.results97 (by exact rfl),?_⟩)))))))))
  exact⟨congrArg (fun q=>Ending.returned (Value.bool q)) (by unfold toB; rw[c9]; first|(symm; simp; omega)|(symm; simp; done)),m6,b4⟩
 rw[Bool.not_eq_true]at c9
 refine Fx.Qt.call (v := .bool false) (by rfl) (fun v1 hv1=>rC (args := [.int .i64 (v.dst)]) rfl rfl Tryd.func65 rfl rfl) rfl (fun v1 hv1=>(tC v.dst _).mono fun e v2 h=>⟨by rw[h.1,c9],by rw[h.2]; exact hv1⟩) ?_
 refine Qv (.bool false) (fun v1 hv1=>ah rfl rfl) (Qs (by rfl) rfl (Qs (by rfl) rfl (Qs (by rfl) rfl (Qs (by rfl) rfl (Qs (by rfl) rfl (Qs (by rfl) rfl (Qs (by rfl) rfl (Qs (by rfl) rfl (Qs (by rfl) rfl (Qs (by rfl) rfl (Qs (by rfl) rfl (Qv (.bool false) (fun v1 hv1=>aJ rfl rfl rfl) (Qv (.bool false) (fun v1 hv1=>aj rfl rfl) (Fx.Qt.nil ?_))))))))))))))
 intro yJ jV
 have s5:Fx.Stp w.heap.size w yJ:=Sb jV
 have m7:=hp.aC s5 hp.ne
 have b5:=(Fx.Stp.refl g w).then s5 (.inr (Fx.Stp.refl g w).size)
 refine sN (Ws (Wl (Lv ((pt g)) (ah rfl rfl) (Lv ((pt g)) (aO rfl rfl) (Lv ((pt g)) (au rfl rfl Tryd.underlying139 rfl (s:=14) (by kernel_rfl) rfl rfl) (Lv ((pf g 10)) (au rfl rfl Tryd.underlying28 rfl (s:=1) (by kernel_rfl) rfl (by show _+10=_; omega)) (Fx.L.bV (x:=aW v) (u := .int .i64 (0)) (by rfl) rfl rfl rfl rfl (by rfl) (by kernel_rfl) m7 (i:=10) (by omega) fun w3 m8 s6 z3 => ?_)))))))
 have m9:Fx.aP w3 g 14 (aW (⟨v.o,v.seq,v.deps,v.kind,v.node,0,v.bL,v.req,v.of⟩:EvM)) 139:=m8.congr (fun j hj=>by rcases j with _|_|_|_|_|_|_|_|_|_|_|_|_|_|j <;> first|rfl|omega)
 have b6:=b5.then s6 (by omega)
 refine Ln (sN (Ws (Wl (Lv (.bool false) (ah rfl rfl) (Lv (.bool false) (aj rfl rfl) (Ln (sN (Wr (⟨.bool false,rV Tryd.results97 (by exact rfl),?_⟩)))))))))
 exact⟨congrArg (fun q=>Ending.returned (Value.bool q)) (by unfold toB; rw[c9]; first|(symm; simp; omega)|(symm; simp; done)),m9,b6⟩
namespace Rt
def iP(v:EvM):Bool :=
 if v.kind=1 then iB v 0 else if v.kind=2 then iB v 1 else if v.kind=3 then iB v 1&&pU v else if v.kind=4 then vT v else if v.kind=5 then iB v 1&&toB v else if v.kind=6 then toB v else decide (v.kind=7)
def jF(v:EvM):EvM :=
 if v.kind=1 then kL v else if v.kind=2 then kL v else if v.kind=3 then Eu (kL v)else if v.kind=4 then RB v else if v.kind=5 then CJ (kL v)else if v.kind=6 then CJ v else v
def Kl(v:EvM):EvM:=⟨v.o,v.seq,v.deps,v.kind,0,0,0,0,0⟩
theorem RG(a b:EvM):(∀ i,i<14->aW a i=aW b i)<->a.o=b.o/\a.seq=b.seq/\(∀ i,i<6->a.deps i=b.deps i)/\a.kind=b.kind/\a.node=b.node/\a.dst=b.dst/\a.bL=b.bL/\a.req=b.req/\a.of=b.of:=by
 constructor
 ·intro h
  have h0:Value.int .i64 a.o = .int .i64 b.o:=h 0 (by decide)
  have h1:Value.int .u64 a.seq = .int .u64 b.seq:=h 1 (by decide)
  have h8:Value.int .u8 a.kind = .int .u8 b.kind:=h 8 (by decide)
  have h9:Value.int .u64 a.node = .int .u64 b.node:=h 9 (by decide)
  have h10:Value.int .i64 a.dst = .int .i64 b.dst:=h 10 (by decide)
  have h11:Value.int .i64 a.bL = .int .i64 b.bL:=h 11 (by decide)
  have h12:Value.int .u64 a.req = .int .u64 b.req:=h 12 (by decide)
  have Al:Value.int .u64 a.of = .int .u64 b.of:=h 13 (by decide)
  simp only[Value.int.injEq,true_and]at h0 h1 h8 h9 h10 h11 h12 Al
  refine⟨h0,h1,fun i hi => ?_,h8,h9,h10,h11,h12,Al⟩
  have h2:=h (i+2) (by omega)
  rw[mV a rfl hi,mV b rfl hi]at h2
  simpa using h2
 rintro ⟨h0,h1,h2,h8,h9,h10,h11,h12,Al⟩ i hi
 unfold aW
 rw[h0,h1,h8,h9,h10,h11,h12,Al]
 by_cases c0:i=0
 ·rw[if_pos c0,if_pos c0]
 by_cases c1:i=1
 ·rw[if_neg c0,if_pos c1,if_neg c0,if_pos c1]
 by_cases c2:i<8
 ·rw[if_neg c0,if_neg c1,if_pos c2,if_neg c0,if_neg c1,if_pos c2,h2 _ (by omega)]
 rw[if_neg c0,if_neg c1,if_neg c2,if_neg c0,if_neg c1,if_neg c2]
theorem zH{v:EvM}(h0:iP v=true):(∀ i,i<14->aW (jF v) i=aW (Kl v) i)<->qO v=true:=by
 have h:=h0
 rw[RG]
 unfold iP at h
 unfold jF qO Av Kl
 simp only[Bool.and_eq_true,decide_eq_true_eq]
 split at h
 ·rename_i k; simp[k,kL,and_assoc]
 split at h
 ·rename_i k1 k; simp[k,kL,and_assoc]
 split at h
 ·rename_i k1 k2 k; simp[k,kL,Eu,and_assoc]
 split at h
 ·rename_i k1 k2 k3 k; simp[k,RB,and_assoc]
 split at h
 ·rename_i k1 k2 k3 k4 k; simp[k,kL,CJ,and_assoc]
 split at h
 ·rename_i k1 k2 k3 k4 k5 k; simp[k,CJ,and_assoc]
 rename_i k1 k2 k3 k4 k5 k6; simp[k1,k2,k3,k4,k5,k6,and_assoc]
theorem vw{v:EvM}(h:qO v=true):iQ v=iP v:=by
 unfold qO Av at h
 unfold iQ iP someE iB vT toB xH pU
 simp only[Bool.and_eq_true,decide_eq_true_eq]at h
 split <;> try rfl
 rename_i k1
 split <;> try rfl
 rename_i k2
 split
 ·congr 1
 rename_i k3
 split
 ·rename_i k4; rw[Bool.eq_iff_iff]; simp only[Bool.and_eq_true,decide_eq_true_eq,Bool.not_eq_true',decide_eq_false_iff_not]; omega
 split <;> rfl
def Bj(x:Nat->Int):Nat->Int
 | 0=>x 0
 | k+1=>if x (k+1)>Bj x k then x (k+1)else Bj x k
theorem Km(x:Nat->Int) : ∀ n i,i<=n->x i<=Bj x n
 | 0,i,h=>by rw[show i=0 by omega]; exact Int.le_refl _
 | n+1,i,h=>by
   unfold Bj
   by_cases e:i=n+1
   ·subst e; split <;> omega
   ·have:=Km x n i (by omega); split <;> omega
theorem Kn(x:Nat->Int) : ∀ n,∃ i,i<=n/\Bj x n=x i
 | 0=>⟨0,Nat.le_refl _,rfl⟩
 | n+1=>by
   unfold Bj
   split
   ·exact⟨n+1,Nat.le_refl _,rfl⟩
   ·obtain⟨i,hi,e⟩:=Kn x n; exact⟨i,by omega,e⟩
theorem RH{v:EvM}(h:1099511627776<=Bj v.deps 5):qZ v=false:=by
 obtain⟨i,hi,e⟩:=Kn v.deps 5
 exact G7 (k:=i) (by omega) (by omega)
theorem AY{v:EvM}(h : ¬ 1099511627776<=Bj v.deps 5):qZ v=true :=
 Eb (k:=6) (by omega) fun i hi=>by have:=Km v.deps 5 i (by omega); omega
def U0(v:EvM)(b:Bool)(v':EvM):Prop:=b=iP v/\(b=true->v'=jF v)
end Rt
set_option maxHeartbeats 1000000 in
theorem RI(v:EvM)(g:Nat)(w:World)(hp:Fx.aP w g 14 (aW v) 139) :
 Calls Tryd.prog 67 #[(pt g)] w fun e w' => ∃ b v',e = .returned (.bool b)/\Fx.aP w' g 14 (aW v') 139/\Fx.Stp g w w'/\U0 v b v':=by
 have lg:=hp.lt
 refine Fx.enter Tryd.func67 rfl (n:=46) rfl (by rfl) ?_
 refine Ws (Wl (Lv (.bool false) (aj rfl rfl) (Ln (sN (Ws (Ws (Wl (Lv ((pt g)) (ah rfl rfl) (Lv ((pt g)) (aO rfl rfl) (Lv ((pt g)) (au rfl rfl Tryd.underlying139 rfl (s:=14) (by kernel_rfl) rfl rfl) (Lv ((pf g 8)) (au rfl rfl Tryd.underlying28 rfl (s:=1) (by kernel_rfl) rfl (by show _+8=_; omega)) (Lv (.int .u8 (v.kind)) (ak (x:=aW v) rfl rfl (by kernel_rfl) hp.aL (i:=8) (by omega) (by omega) rfl) (Ln (sN (Fx.W.block (Ws (Wl ?_)))))))))))))))))
 by_cases c9:v.kind=1
 ·refine Lv (.bool true) (bG rfl rfl rfl c9) (Lv (.bool true) (aj rfl rfl) (Ln (sN (Wc (b:=true) rfl (fun _=>Ws (Wl (Lv ((pt g)) (ah rfl rfl) ?_))) (fun h=>nomatch h)))))
  refine Fx.L.call (by rfl) (rC (args := [(pt g),.int .i64 (0)]) rfl rfl Tryd.func94 rfl rfl) rfl ((AX 0 v g _ hp).mono ?_)
  rintro e w1 ⟨he,m1,s1⟩
  have b1:=(Fx.Stp.refl g w).then s1 (by omega)
  by_cases c11:iB v 0=true
  ·refine⟨.bool true,by rw[he,c11],?_⟩
   clear he
   refine Lv (.bool true) (aj rfl rfl) (Ln (sN (Wr (Fx.dH (sR (⟨.bool true,rV Tryd.results67 (by exact rfl),?_⟩))))))
   refine⟨_,_,rfl,m1,b1,Eq.symm (by unfold iP; rw[if_pos c9,(show iB v 0=true from c11)]; try rfl),fun hb => ?_⟩
   unfold jF; rw[if_pos c9]; try rfl
  rw[Bool.not_eq_true]at c11
  refine⟨.bool false,by rw[he,c11],?_⟩
  clear he
  refine Lv (.bool false) (aj rfl rfl) (Ln (sN (Wr (Fx.dH (sR (⟨.bool false,rV Tryd.results67 (by exact rfl),?_⟩))))))
  refine⟨_,_,rfl,m1,b1,Eq.symm (by unfold iP; rw[if_pos c9,(show iB v 0=false from c11)]; try rfl),fun hb => ?_⟩
  cases hb
 refine Lv (.bool false) (dn rfl rfl rfl c9) (Lv (.bool false) (aj rfl rfl) (Ln (sN (Wc (b:=false) rfl (fun h=>nomatch h) (fun _=>Ws (Wl ?_))))))
 by_cases c13:v.kind=2
 ·refine Lv (.bool true) (bG rfl rfl rfl c13) (Lv (.bool true) (aj rfl rfl) (Ln (sN (Wc (b:=true) rfl (fun _=>Ws (Wl (Lv ((pt g)) (ah rfl rfl) ?_))) (fun h=>nomatch h)))))
  refine Fx.L.call (by rfl) (rC (args := [(pt g),.int .i64 (1)]) rfl rfl Tryd.func94 rfl rfl) rfl ((AX 1 v g _ hp).mono ?_)
  rintro e w2 ⟨he,m2,s2⟩
  have b2:=(Fx.Stp.refl g w).then s2 (by omega)
  by_cases c15:iB v 1=true
  ·refine⟨.bool true,by rw[he,c15],?_⟩
   clear he
   refine Lv (.bool true) (aj rfl rfl) (Ln (sN (Wr (Fx.dH (sR (⟨.bool true,rV Tryd.results67 (by exact rfl),?_⟩))))))
   refine⟨_,_,rfl,m2,b2,Eq.symm (by unfold iP; rw[if_neg c9,if_pos c13,(show iB v 1=true from c15)]; try rfl),fun hb => ?_⟩
   unfold jF; rw[if_neg c9,if_pos c13]; try rfl
  rw[Bool.not_eq_true]at c15
  refine⟨.bool false,by rw[he,c15],?_⟩
  clear he
  refine Lv (.bool false) (aj rfl rfl) (Ln (sN (Wr (Fx.dH (sR (⟨.bool false,rV Tryd.results67 (by exact rfl),?_⟩))))))
  refine⟨_,_,rfl,m2,b2,Eq.symm (by unfold iP; rw[if_neg c9,if_pos c13,(show iB v 1=false from c15)]; try rfl),fun hb => ?_⟩
  cases hb
 refine Lv (.bool false) (dn rfl rfl rfl c13) (Lv (.bool false) (aj rfl rfl) (Ln (sN (Wc (b:=false) rfl (fun h=>nomatch h) (fun _=>Ws (Wl ?_))))))
 by_cases c17:v.kind=3
 ·refine Lv (.bool true) (bG rfl rfl rfl c17) (Lv (.bool true) (aj rfl rfl) (Ln (sN (Wc (b:=true) rfl (fun _=>Ws (Wl (Lv ((pt g)) (ah rfl rfl) ?_))) (fun h=>nomatch h)))))
  refine Fx.L.call (by rfl) (rC (args := [(pt g),.int .i64 (1)]) rfl rfl Tryd.func94 rfl rfl) rfl ((AX 1 v g _ hp).mono ?_)
  rintro e w3 ⟨he,m3,s3⟩
  have b3:=(Fx.Stp.refl g w).then s3 (by omega)
  by_cases c19:iB v 1=true
  ·refine⟨.bool true,by rw[he,c19],?_⟩
   clear he
   refine Lv (.bool true) (ah rfl rfl) (Lv ((pt g)) (ah rfl rfl) (Fx.L.call (by rfl) (rC (args := [(pt g)]) rfl rfl Tryd.func95 rfl rfl) rfl ((FQ (⟨v.o,v.seq,v.deps,v.kind,0,v.dst,0,v.req,v.of⟩:EvM) g _ m3).mono ?_)))
   rintro e w4 ⟨he,m4,s4⟩
   have b4:=b3.then s4 (by omega)
   by_cases CK:pU (⟨v.o,v.seq,v.deps,v.kind,0,v.dst,0,v.req,v.of⟩:EvM)=true
   ·refine⟨.bool true,by rw[he,CK],?_⟩
    clear he
    refine Lv (.bool true) (aA rfl rfl rfl) (Lv (.bool true) (aj rfl rfl) (Ln (sN (Wr (Fx.dH (sR (⟨.bool true,rV Tryd.results67 (by exact rfl),?_⟩)))))))
    refine⟨_,_,rfl,m4,b4,Eq.symm (by unfold iP; rw[if_neg c9,if_neg c13,if_pos c17,(show iB v 1=true from c19),(show pU v=true from CK)]; try rfl),fun hb => ?_⟩
    unfold jF; rw[if_neg c9,if_neg c13,if_pos c17]; try rfl
   rw[Bool.not_eq_true]at CK
   refine⟨.bool false,by rw[he,CK],?_⟩
   clear he
   refine Lv (.bool false) (aA rfl rfl rfl) (Lv (.bool false) (aj rfl rfl) (Ln (sN (Wr (Fx.dH (sR (⟨.bool false,rV Tryd.results67 (by exact rfl),?_⟩)))))))
   refine⟨_,_,rfl,m4,b4,Eq.symm (by unfold iP; rw[if_neg c9,if_neg c13,if_pos c17,(show iB v 1=true from c19),(show pU v=false from CK)]; try rfl),fun hb => ?_⟩
   cases hb
  rw[Bool.not_eq_true]at c19
  refine⟨.bool false,by rw[he,c19],?_⟩
  clear he
  refine Lv (.bool false) (ah rfl rfl) (Lk (by rfl) rfl (Lk (by rfl) rfl (Lv (.bool false) (aJ rfl rfl rfl) (Lv (.bool false) (aj rfl rfl) (Ln (sN (Wr (Fx.dH (sR (⟨.bool false,rV Tryd.results67 (by exact rfl),?_⟩))))))))))
  refine⟨_,_,rfl,m3,b3,Eq.symm (by unfold iP; rw[if_neg c9,if_neg c13,if_pos c17,(show iB v 1=false from c19)]; try rfl),fun hb => ?_⟩
  cases hb
 refine Lv (.bool false) (dn rfl rfl rfl c17) (Lv (.bool false) (aj rfl rfl) (Ln (sN (Wc (b:=false) rfl (fun h=>nomatch h) (fun _=>Ws (Wl ?_))))))
 by_cases Ey:v.kind=4
 ·refine Lv (.bool true) (bG rfl rfl rfl Ey) (Lv (.bool true) (aj rfl rfl) (Ln (sN (Wc (b:=true) rfl (fun _=>Ws (Wl (Lv ((pt g)) (ah rfl rfl) ?_))) (fun h=>nomatch h)))))
  refine Fx.L.call (by rfl) (rC (args := [(pt g)]) rfl rfl Tryd.func96 rfl rfl) rfl ((X9 v g _ hp).mono ?_)
  rintro e w5 ⟨he,m5,s5⟩
  have b5:=(Fx.Stp.refl g w).then s5 (by omega)
  by_cases O7:vT v=true
  ·refine⟨.bool true,by rw[he,O7],?_⟩
   clear he
   refine Lv (.bool true) (aj rfl rfl) (Ln (sN (Wr (Fx.dH (sR (⟨.bool true,rV Tryd.results67 (by exact rfl),?_⟩))))))
   refine⟨_,_,rfl,m5,b5,Eq.symm (by unfold iP; rw[if_neg c9,if_neg c13,if_neg c17,if_pos Ey,(show vT v=true from O7)]; try rfl),fun hb => ?_⟩
   unfold jF; rw[if_neg c9,if_neg c13,if_neg c17,if_pos Ey]; try rfl
  rw[Bool.not_eq_true]at O7
  refine⟨.bool false,by rw[he,O7],?_⟩
  clear he
  refine Lv (.bool false) (aj rfl rfl) (Ln (sN (Wr (Fx.dH (sR (⟨.bool false,rV Tryd.results67 (by exact rfl),?_⟩))))))
  refine⟨_,_,rfl,m5,b5,Eq.symm (by unfold iP; rw[if_neg c9,if_neg c13,if_neg c17,if_pos Ey,(show vT v=false from O7)]; try rfl),fun hb => ?_⟩
  cases hb
 refine Lv (.bool false) (dn rfl rfl rfl Ey) (Lv (.bool false) (aj rfl rfl) (Ln (sN (Wc (b:=false) rfl (fun h=>nomatch h) (fun _=>Ws (Wl ?_))))))
 by_cases yH:v.kind=5
 ·refine Lv (.bool true) (bG rfl rfl rfl yH) (Lv (.bool true) (aj rfl rfl) (Ln (sN (Wc (b:=true) rfl (fun _=>Ws (Wl (Lv ((pt g)) (ah rfl rfl) ?_))) (fun h=>nomatch h)))))
  refine Fx.L.call (by rfl) (rC (args := [(pt g),.int .i64 (1)]) rfl rfl Tryd.func94 rfl rfl) rfl ((AX 1 v g _ hp).mono ?_)
  rintro e w6 ⟨he,m6,s6⟩
  have b6:=(Fx.Stp.refl g w).then s6 (by omega)
  by_cases c31:iB v 1=true
  ·refine⟨.bool true,by rw[he,c31],?_⟩
   clear he
   refine Lv (.bool true) (ah rfl rfl) (Lv ((pt g)) (ah rfl rfl) (Fx.L.call (by rfl) (rC (args := [(pt g)]) rfl rfl Tryd.func97 rfl rfl) rfl ((UZ (⟨v.o,v.seq,v.deps,v.kind,0,v.dst,0,v.req,v.of⟩:EvM) g _ m6).mono ?_)))
   rintro e w7 ⟨he,m7,s7⟩
   have b7:=b6.then s7 (by omega)
   by_cases c34:toB (⟨v.o,v.seq,v.deps,v.kind,0,v.dst,0,v.req,v.of⟩:EvM)=true
   ·refine⟨.bool true,by rw[he,c34],?_⟩
    clear he
    refine Lv (.bool true) (aA rfl rfl rfl) (Lv (.bool true) (aj rfl rfl) (Ln (sN (Wr (Fx.dH (sR (⟨.bool true,rV Tryd.results67 (by exact rfl),?_⟩)))))))
    refine⟨_,_,rfl,m7,b7,Eq.symm (by unfold iP; rw[if_neg c9,if_neg c13,if_neg c17,if_neg Ey,if_pos yH,(show iB v 1=true from c31),(show toB v=true from c34)]; try rfl),fun hb => ?_⟩
    unfold jF; rw[if_neg c9,if_neg c13,if_neg c17,if_neg Ey,if_pos yH]; try rfl
   rw[Bool.not_eq_true]at c34
   refine⟨.bool false,by rw[he,c34],?_⟩
   clear he
   refine Lv (.bool false) (aA rfl rfl rfl) (Lv (.bool false) (aj rfl rfl) (Ln (sN (Wr (Fx.dH (sR (⟨.bool false,rV Tryd.results67 (by exact rfl),?_⟩)))))))
   refine⟨_,_,rfl,m7,b7,Eq.symm (by unfold iP; rw[if_neg c9,if_neg c13,if_neg c17,if_neg Ey,if_pos yH,(show iB v 1=true from c31),(show toB v=false from c34)]; try rfl),fun hb => ?_⟩
   cases hb
  rw[Bool.not_eq_true]at c31
  refine⟨.bool false,by rw[he,c31],?_⟩
  clear he
  refine Lv (.bool false) (ah rfl rfl) (Lk (by rfl) rfl (Lk (by rfl) rfl (Lv (.bool false) (aJ rfl rfl rfl) (Lv (.bool false) (aj rfl rfl) (Ln (sN (Wr (Fx.dH (sR (⟨.bool false,rV Tryd.results67 (by exact rfl),?_⟩))))))))))
  refine⟨_,_,rfl,m6,b6,Eq.symm (by unfold iP; rw[if_neg c9,if_neg c13,if_neg c17,if_neg Ey,if_pos yH,(show iB v 1=false from c31)]; try rfl),fun hb => ?_⟩
  cases hb
 refine Lv (.bool false) (dn rfl rfl rfl yH) (Lv (.bool false) (aj rfl rfl) (Ln (sN (Wc (b:=false) rfl (fun h=>nomatch h) (fun _=>Ws (Wl ?_))))))
 by_cases c37:v.kind=6
 ·refine Lv (.bool true) (bG rfl rfl rfl c37) (Lv (.bool true) (aj rfl rfl) (Ln (sN (Wc (b:=true) rfl (fun _=>Ws (Wl (Lv ((pt g)) (ah rfl rfl) ?_))) (fun h=>nomatch h)))))
  refine Fx.L.call (by rfl) (rC (args := [(pt g)]) rfl rfl Tryd.func97 rfl rfl) rfl ((UZ v g _ hp).mono ?_)
  rintro e w8 ⟨he,m8,s8⟩
  have b8:=(Fx.Stp.refl g w).then s8 (by omega)
  by_cases U1:toB v=true
  ·refine⟨.bool true,by rw[he,U1],?_⟩
   clear he
   refine Lv (.bool true) (aj rfl rfl) (Ln (sN (Wr (Fx.dH (sR (⟨.bool true,rV Tryd.results67 (by exact rfl),?_⟩))))))
   refine⟨_,_,rfl,m8,b8,Eq.symm (by unfold iP; rw[if_neg c9,if_neg c13,if_neg c17,if_neg Ey,if_neg yH,if_pos c37,(show toB v=true from U1)]; try rfl),fun hb => ?_⟩
   unfold jF; rw[if_neg c9,if_neg c13,if_neg c17,if_neg Ey,if_neg yH,if_pos c37]; try rfl
  rw[Bool.not_eq_true]at U1
  refine⟨.bool false,by rw[he,U1],?_⟩
  clear he
  refine Lv (.bool false) (aj rfl rfl) (Ln (sN (Wr (Fx.dH (sR (⟨.bool false,rV Tryd.results67 (by exact rfl),?_⟩))))))
  refine⟨_,_,rfl,m8,b8,Eq.symm (by unfold iP; rw[if_neg c9,if_neg c13,if_neg c17,if_neg Ey,if_neg yH,if_pos c37,(show toB v=false from U1)]; try rfl),fun hb => ?_⟩
  cases hb
 refine Lv (.bool false) (dn rfl rfl rfl c37) (Lv (.bool false) (aj rfl rfl) (Ln (sN (Wc (b:=false) rfl (fun h=>nomatch h) (fun _=>Wk (Fx.dV (sN (Ws (Wl (Lv ((pt g)) (ah rfl rfl) (Lv ((pt g)) (aO rfl rfl) (Lv ((pt g)) (au rfl rfl Tryd.underlying139 rfl (s:=14) (by kernel_rfl) rfl rfl) (Lv ((pf g 8)) (au rfl rfl Tryd.underlying28 rfl (s:=1) (by kernel_rfl) rfl (by show _+8=_; omega)) (Lv (.int .u8 (v.kind)) (ak (x:=aW v) rfl rfl (by kernel_rfl) hp.aL (i:=8) (by omega) (by omega) rfl) ?_))))))))))))))
 by_cases Ez:v.kind=7
 ·refine Lv (.bool true) (bG rfl rfl rfl Ez) (Lv (.bool true) (aj rfl rfl) (Ln (sN (Wr (⟨.bool true,rV Tryd.results67 (by exact rfl),?_⟩)))))
  refine⟨_,_,rfl,hp,(Fx.Stp.refl g w),Eq.symm (by unfold iP; rw[if_neg c9,if_neg c13,if_neg c17,if_neg Ey,if_neg yH,if_neg c37,decide_eq_true Ez]; try rfl),fun hb => ?_⟩
  unfold jF; rw[if_neg c9,if_neg c13,if_neg c17,if_neg Ey,if_neg yH,if_neg c37]; try rfl
 refine Lv (.bool false) (dn rfl rfl rfl Ez) (Lv (.bool false) (aj rfl rfl) (Ln (sN (Wr (⟨.bool false,rV Tryd.results67 (by exact rfl),?_⟩)))))
 refine⟨_,_,rfl,hp,(Fx.Stp.refl g w),Eq.symm (by unfold iP; rw[if_neg c9,if_neg c13,if_neg c17,if_neg Ey,if_neg yH,if_neg c37,decide_eq_false Ez]; try rfl),fun hb => ?_⟩
 cases hb
theorem U2(x:Nat->Int)(b off:Nat)(w:World)(hx:Fx.jT w b off 6 (Fx.rv .u64 x)) :
 Calls Tryd.prog 66 #[.slice (some ⟨b,off,none⟩) (6) (6)] w fun e w'=>e = .returned (.int .u64 (Bj x 5))/\Below w.heap.size w w':=by
 have lb:=hx.lt (by omega)
 refine Fx.enter Tryd.func66 rfl (n:=25) rfl (by rfl) ?_
 refine Ws (Wl (Lv (.int .u64 (0)) (aj rfl rfl) (Ln (sN (Ws (Ws (Wl (Lv (.slice (some ⟨b,off,none⟩) (6) (6)) (ah rfl rfl) (Lv (.int .i64 (6)) (x_len rfl rfl rfl (by kernel_rfl)) (Lv (.bool false) (Fx.dX rfl rfl rfl (by omega)) (Ln (sN (Wc (b:=false) rfl (fun h=>nomatch h) (fun _=>Wk (sN (Ws (Wl (Lv (.slice (some ⟨b,off,none⟩) (6) (6)) (ah rfl rfl) (Lv ((pf b off)) (av rfl rfl rfl Tryd.underlying53 (s:=1) (by kernel_rfl) (by omega) (by omega) (by omega)) (Lv (.int .u64 (x 0)) (ak (x:=Fx.rv .u64 x) rfl rfl (by kernel_rfl) hx (i:=0) (by omega) (by omega) rfl) (Lv (.int .u64 (x 0)) (aj rfl rfl) (Ln (sN (Ws (Ws (Wl (Lv (.int .i64 (1)) (aj rfl rfl) (Ln (sN (Fx.W.block (Fx.W.loop (fun f w_ => ∃ k:Nat,k<=5/\f 0 = .slice (some ⟨b,off,none⟩) (6) (6)/\f 3 = .int .u64 (Bj x k)/\f 4 = .int .i64 (((k:Int)+1))/\Fx.jT w_ b off 6 (Fx.rv .u64 x)/\Below w.heap.size w w_) (fun f _=>(6-(intOf (f 4)).toNat)) ⟨0,by omega,(by rfl),rfl,Fx.ic,hx,(Below.refl w.heap.size w)⟩ ?_)))))))))))))))))))))))))))))))
 rintro f1 w1 ⟨k,hk,h1,h2,h3,m1,b1⟩
 refine Ws (Ws (Wl (Lv (.int .i64 (((k:Int)+1))) (ah rfl h3) (Lv (.slice (some ⟨b,off,none⟩) (6) (6)) (ah rfl h1) (Lv (.int .i64 (6)) (x_len rfl rfl rfl (by kernel_rfl)) ?_)))))
 by_cases c15:((k:Int)+1)<6
 ·refine Lv (.bool true) (Fx.eG rfl rfl rfl c15) (Ln (sN (Wc (b:=true) rfl (fun _=>Wk (sN (Ws (Fx.W.block (Wl (Lv (.int .u64 (Bj x k)) (ah rfl h2) ?_)))))) (fun h=>nomatch h))))
  refine Lv (.slice (some ⟨b,off,none⟩) (6) (6)) (ah rfl h1) (Lv (.int .i64 (((k:Int)+1))) (ah rfl h3) (Lv ((pf b (k+off+1))) (av rfl rfl rfl Tryd.underlying53 (s:=1) (by kernel_rfl) (by omega) (by omega) (by omega)) (Lv (.int .u64 (x (k+1))) (ak (x:=Fx.rv .u64 x) rfl rfl (by kernel_rfl) m1 (i:=k+1) (by omega) (by omega) rfl) (Lv (.int .u64 (Bj x (k+1))) (Fx.Oz rfl rfl rfl) (Lv (.int .u64 (Bj x (k+1))) (aj rfl rfl) (Ln (Fx.dV (sN (Wl (Lv (.int .i64 (((k:Int)+1))) (ah rfl h3) (Lv (.int .i64 ((k:Int)+2)) (Fx.aS rfl rfl rfl Fx.io) (Lv (.int .i64 ((k:Int)+2)) (aj rfl rfl) (Ln (Fx.kg ⟨k+1,by omega,h1,rfl,Fx.ic,m1,b1⟩ ?_))))))))))))))
  show(6-(intOf ((.int .i64 ((k:Int)+2)))).toNat)<_
  simp only[h3,intOf]; omega
 refine Lv (.bool false) (Fx.dX rfl rfl rfl c15) (Ln (sN (Wc (b:=false) rfl (fun h=>nomatch h) (fun _=>Fx.W.exit (Fx.dQ (Fx.jC (Fx.dR (sN (Ws (Wl (Lv (.int .u64 (Bj x k)) (ah rfl h2) (Lv (.int .u64 (Bj x k)) (aj rfl rfl) (Ln (sN (Wr (⟨.int .u64 (Bj x k),rV Tryd.results66 (by exact rfl),?_⟩))))))))))))))))
 have e5:k=5:=by omega
 exact⟨by rw[e5],b1⟩
theorem FT{ks:List (Option IntKind)}{x y:Nat->Value}(h:Fx.Kd ks y)(e : ∀ j,j<ks.length->x j=y j):Fx.Kd ks x:=fun i hi=>by rw[e i hi]; exact h i hi
namespace Rt
theorem CO{v:EvM}(h:iI v):iI (Kl v):=by
 have z:gL 0:=⟨by decide,by decide⟩
 have y:qF 0:=⟨by decide,by decide⟩
 exact⟨h.o,h.seq,h.deps,h.kind,z,y,y,z,z⟩
theorem CP{v:EvM}(h:iI v):iI (jF v):=by
 have z:gL 0:=⟨by decide,by decide⟩
 have y:qF 0:=⟨by decide,by decide⟩
 unfold jF
 split
 ·exact⟨h.o,h.seq,h.deps,h.kind,z,h.dst,y,h.req,h.of⟩
 split
 ·exact⟨h.o,h.seq,h.deps,h.kind,z,h.dst,y,h.req,h.of⟩
 split
 ·exact⟨h.o,h.seq,h.deps,h.kind,z,h.dst,y,z,h.of⟩
 split
 ·exact⟨h.o,h.seq,h.deps,h.kind,h.node,h.dst,h.bL,z,z⟩
 split
 ·exact⟨h.o,h.seq,h.deps,h.kind,z,y,y,h.req,h.of⟩
 split
 ·exact⟨h.o,h.seq,h.deps,h.kind,h.node,y,h.bL,h.req,h.of⟩
 exact h
end Rt
set_option maxHeartbeats 2000000 in
theorem zI(v:EvM)(w:World)(hv:iI v) :
 Calls Tryd.prog 44 #[.agg (Fx.ay 14 (aW v))] w fun e w'=>e = .returned (.bool (bZ v))/\Below w.heap.size w w':=by
 refine Fx.enter Tryd.func44 rfl (n:=55) rfl (by rfl) ?_
 refine Ws (Wl (Fx.L.box (m:=14) (y:=aW v) (by rfl) rfl rfl (Fx.aN _ _) rfl fun g1 w1 aZ m1 s1 z1 => ?_))
 have b1:=s1.below (Below.refl w.heap.size w) (Below.refl w.heap.size w).size (Below.refl w.heap.size w).size
 have kM:w.heap.size<=g1:=by rw[aZ]; exact(Below.refl w.heap.size w).size
 have mO:g1<w1.heap.size:=m1.lt
 clear aZ
 refine Lv (.bool false) (aj rfl rfl) (Ln (sN (Ws (Ws ?_))))
 -- region 1 draws
 refine Fx.W.quiet (fun v1=>Below w1.heap.size w1 v1) (by kernel_rfl) (by kernel_rfl) (Below.refl _ _).drew ?_
 refine Qv ((pt g1)) (fun v1 hv1=>au rfl rfl Tryd.underlying28 rfl (s:=1) (by kernel_rfl) rfl rfl) (Qv (.int .i64 (v.o)) (fun v1 hv1=>ak (x:=aW v) rfl rfl (by kernel_rfl) (m1.aL.below hv1 (by have:=m1.lt; omega)) (i:=0) (by omega) (by omega) rfl) ?_)
 by_cases c6:(nR v.o)=true
 ·obtain⟨a,ha,ea⟩:=eF c6
  refine Fx.Qt.call (v := .bool true) (by rfl) (fun v1 hv1=>rC (args := [.int .i64 (v.o)]) rfl rfl Tryd.func65 rfl rfl) rfl (fun v1 hv1=>(tC v.o _).mono fun e v2 h=>⟨by rw[h.1,c6],by rw[h.2]; exact hv1⟩) ?_
  refine Qv (.bool false) (fun v1 hv1=>Fx.dZ rfl rfl) (Qv (.bool false) (fun v1 hv1=>ah rfl rfl) (Qv ((pf g1 1)) (fun v1 hv1=>au rfl rfl Tryd.underlying28 rfl (s:=1) (by kernel_rfl) rfl (by show _+1=_; omega)) (Qv (.int .u64 (v.seq)) (fun v1 hv1=>ak (x:=aW v) rfl rfl (by kernel_rfl) (m1.aL.below hv1 (by have:=m1.lt; omega)) (i:=1) (by omega) (by omega) rfl) ?_)))
  by_cases c11:v.seq<1
  ·refine Qv (.bool true) (fun v1 hv1=>Fx.eG rfl rfl rfl c11) (Qv (.bool true) (fun v1 hv1=>aJ rfl rfl rfl) (Qv (.bool true) (fun v1 hv1=>ah rfl rfl) (Qs (by rfl) rfl (Qs (by rfl) rfl (Qs (by rfl) rfl (Qv (.bool true) (fun v1 hv1=>aA rfl rfl rfl) (Qv (.bool true) (fun v1 hv1=>ah rfl rfl) (Qs (by rfl) rfl (Qs (by rfl) rfl (Qs (by rfl) rfl (Qs (by rfl) rfl (Qs (by rfl) rfl (Qs (by rfl) rfl (Qs (by rfl) rfl (Qs (by rfl) rfl (Qs (by rfl) rfl (Qs (by rfl) rfl (Qv (.bool true) (fun v1 hv1=>aA rfl rfl rfl) (Fx.Qt.nil ?_)))))))))))))))))))
   intro sG iN
   have s2:Fx.Stp w1.heap.size w1 sG:=Sb iN
   have m2:=m1.aC s2 m1.ne
   have b2:=s2.below b1 b1.size b1.size
   refine sN (Wc (b:=true) rfl (fun _=>Ws (Wl (Lv (.bool false) (aj rfl rfl) ?_))) (fun h=>nomatch h))
   refine Ln (sN (Wr (sR (⟨.bool false,rV Tryd.results44 (by exact rfl),?_⟩))))
   have m2:decide (1<=v.seq)=false:=decide_eq_false (by omega)
   exact⟨congrArg (fun q=>Ending.returned (Value.bool q)) (Eq.symm (by unfold bZ; rw[c6,m2]; try rfl)),b2⟩
  refine Qv (.bool false) (fun v1 hv1=>Fx.dX rfl rfl rfl c11) (Qv (.bool false) (fun v1 hv1=>aJ rfl rfl rfl) (Qv (.bool false) (fun v1 hv1=>ah rfl rfl) (Qv ((pf g1 1)) (fun v1 hv1=>au rfl rfl Tryd.underlying28 rfl (s:=1) (by kernel_rfl) rfl (by show _+1=_; omega)) (Qv (.int .u64 (v.seq)) (fun v1 hv1=>ak (x:=aW v) rfl rfl (by kernel_rfl) (m1.aL.below hv1 (by have:=m1.lt; omega)) (i:=1) (by omega) (by omega) rfl) ?_))))
  by_cases c16:1099511627776<=v.seq
  ·refine Qv (.bool true) (fun v1 hv1=>Fx.gV rfl rfl rfl c16) (Qv (.bool true) (fun v1 hv1=>aJ rfl rfl rfl) (Qv (.bool true) (fun v1 hv1=>ah rfl rfl) (Qs (by rfl) rfl (Qs (by rfl) rfl (Qs (by rfl) rfl (Qs (by rfl) rfl (Qs (by rfl) rfl (Qs (by rfl) rfl (Qs (by rfl) rfl (Qs (by rfl) rfl (Qs (by rfl) rfl (Qs (by rfl) rfl (Qv (.bool true) (fun v1 hv1=>aA rfl rfl rfl) (Fx.Qt.nil ?_))))))))))))))
   intro yI ji
   have s3:Fx.Stp w1.heap.size w1 yI:=Sb ji
   have m3:=m1.aC s3 m1.ne
   have b3:=s3.below b1 b1.size b1.size
   refine sN (Wc (b:=true) rfl (fun _=>Ws (Wl (Lv (.bool false) (aj rfl rfl) ?_))) (fun h=>nomatch h))
   refine Ln (sN (Wr (sR (⟨.bool false,rV Tryd.results44 (by exact rfl),?_⟩))))
   have m2:decide (1<=v.seq)=true:=decide_eq_true (by omega)
   have m3:decide (v.seq<1099511627776)=false:=decide_eq_false (by omega)
   exact⟨congrArg (fun q=>Ending.returned (Value.bool q)) (Eq.symm (by unfold bZ; rw[c6,m2,m3]; try rfl)),b3⟩
  refine Qv (.bool false) (fun v1 hv1=>Fx.eY rfl rfl rfl c16) (Qv (.bool false) (fun v1 hv1=>aJ rfl rfl rfl) (Qv (.bool false) (fun v1 hv1=>ah rfl rfl) (Qv ((pt g1)) (fun v1 hv1=>au rfl rfl Tryd.underlying28 rfl (s:=1) (by kernel_rfl) rfl rfl) (Qv (.int .i64 (v.o)) (fun v1 hv1=>ak (x:=aW v) rfl rfl (by kernel_rfl) (m1.aL.below hv1 (by have:=m1.lt; omega)) (i:=0) (by omega) (by omega) rfl) (Qv (.int .i64 ((a:Int))) (fun v1 hv1=>Fx.bD rfl rfl rfl Fx.io) (Qv ((pf g1 2)) (fun v1 hv1=>au rfl rfl Tryd.underlying28 rfl (s:=6) (by kernel_rfl) rfl (by show _+2=_; omega)) (Qv ((pf g1 (a+2))) (fun v1 hv1=>bF rfl rfl rfl Tryd.underlying26 (s:=1) (by kernel_rfl) (by omega) (by omega) (by omega)) (Qv (.int .u64 (v.deps a)) (fun v1 hv1=>ak (x:=aW v) rfl rfl (by kernel_rfl) (m1.aL.below hv1 (by have:=m1.lt; omega)) (i:=a+2) (by omega) (by omega) (mV _ (by omega) (by omega))) (Qv ((pf g1 1)) (fun v1 hv1=>au rfl rfl Tryd.underlying28 rfl (s:=1) (by kernel_rfl) rfl (by show _+1=_; omega)) (Qv (.int .u64 (v.seq)) (fun v1 hv1=>ak (x:=aW v) rfl rfl (by kernel_rfl) (m1.aL.below hv1 (by have:=m1.lt; omega)) (i:=1) (by omega) (by omega) rfl) (Qv (.int .u64 (v.seq-1)) (fun v1 hv1=>Fx.bD rfl rfl rfl (Fx.rX (by omega) (by omega))) ?_)))))))))))
  by_cases c28:(v.deps a)=(v.seq-1)
  ·refine Qv (.bool false) (fun v1 hv1=>Fx.gu rfl rfl rfl c28) (Qv (.bool false) (fun v1 hv1=>aJ rfl rfl rfl) (Fx.Qt.nil ?_))
   intro yJ jV
   have s4:Fx.Stp w1.heap.size w1 yJ:=Sb jV
   have m4:=m1.aC s4 m1.ne
   have b4:=s4.below b1 b1.size b1.size
   refine sN (Wc (b:=false) rfl (fun h=>nomatch h) (fun _=>Wk (sN (Ws (Ws (Wl (Lv ((pf g1 2)) (au rfl rfl Tryd.underlying28 rfl (s:=6) (by kernel_rfl) rfl (by show _+2=_; omega)) (Lv (.slice (some ⟨g1,2,none⟩) (6) (6)) (Fx.Et rfl rfl Tryd.underlying26 (s:=1) (by kernel_rfl)) (Fx.L.call (by rfl) (rC (args := [.slice (some ⟨g1,2,none⟩) (6) (6)]) rfl rfl Tryd.func66 rfl rfl) rfl ((U2 v.deps g1 2 _ (fun j hj=>by have h1:=m4.aL (2+j) (by omega); rw[Nat.zero_add]at h1; rw[h1,mV v (p:=2+j) (j:=j) (by omega) hj]; rfl)).mono ?_))))))))))
   rintro e w2 ⟨he,hb1⟩
   refine⟨.int .u64 (Bj v.deps 5),by rw[he],?_⟩
   clear he
   have s5:=Sb hb1
   have m5:=m4.aC s5 m4.ne
   have b5:=s5.below b4 b4.size b4.size
   by_cases Mq:1099511627776<=(Bj v.deps 5)
   ·refine Lv (.bool true) (Fx.gV rfl rfl rfl Mq) (Ln (sN (Wc (b:=true) rfl (fun _=>Ws (Wl (Lv (.bool false) (aj rfl rfl) ?_))) (fun h=>nomatch h))))
    refine Ln (sN (Wr (sR (⟨.bool false,rV Tryd.results44 (by exact rfl),?_⟩))))
    have m2:decide (1<=v.seq)=true:=decide_eq_true (by omega)
    have m3:decide (v.seq<1099511627776)=true:=decide_eq_true (by omega)
    have m4:decide (v.deps (v.o-1).toNat=v.seq-1)=true:=decide_eq_true (by rw[show(v.o-1).toNat=a by omega]; exact c28)
    have m5:=RH Mq
    exact⟨congrArg (fun q=>Ending.returned (Value.bool q)) (Eq.symm (by unfold bZ; rw[c6,m2,m3,m4,m5]; try rfl)),b5⟩
   refine Lv (.bool false) (Fx.eY rfl rfl rfl Mq) (Ln (sN (Wc (b:=false) rfl (fun h=>nomatch h) (fun _=>Wk (sN (Ws (Wl (Lv (.agg (Fx.ay 14 (aW v))) (aK (x:=aW v) (y:=aW v) rfl rfl (by kernel_rfl) (by kernel_rfl) m5.aL (i:=0) (by omega) (by omega) (fun j _=>by rw[Nat.zero_add])) (Lv (.agg (Fx.ay 14 (Fx.aX (fun zq=>if zq<1 then .int .i64 (0)else if zq<8 then .int .u64 (0)else if zq<9 then .int .u8 (0)else if zq<10 then .int .u64 (0)else if zq<12 then .int .i64 (0)else .int .u64 (0)) 0 14 (aW v)))) (bX (vs := [(0,.agg (Fx.ay 14 (aW v)))]) (places := #[(0,14)]) (m:=14) (x:=fun zq=>if zq<1 then .int .i64 (0)else if zq<8 then .int .u64 (0)else if zq<9 then .int .u8 (0)else if zq<10 then .int .u64 (0)else if zq<12 then .int .i64 (0)else .int .u64 (0)) rfl rfl Tryd.underlying139 (by kernel_rfl) (by kernel_rfl) (by rw[Fx.aG (off:=0) (s:=14) (y:=aW v) (by kernel_rfl) (Fx.aN _ _) (by rfl)]; rfl)) (Fx.L.box (m:=14) (y:=Fx.aX (fun zq=>if zq<1 then .int .i64 (0)else if zq<8 then .int .u64 (0)else if zq<9 then .int .u8 (0)else if zq<10 then .int .u64 (0)else if zq<12 then .int .i64 (0)else .int .u64 (0)) 0 14 (aW v)) (by rfl) rfl rfl (Fx.aN _ _) rfl fun g2 w3 bS m6 s6 z2 => ?_))))))))))
   have m7:=m5.aC s6 m5.ne
   have b6:=s6.below b5 b5.size b5.size
   have su:w.heap.size<=g2:=by rw[bS]; exact b5.size
   have O8:g1≠g2:=by rw[bS]; exact Nat.ne_of_lt (m5.lt)
   have vK:g2<w3.heap.size:=m6.lt
   clear bS
   refine Lv ((pt g2)) (aj rfl rfl) (Ln (sN (Ws ?_)))
   have m8:Fx.aP w3 g2 14 (aW v) 139:=m6.congr (fun j hj=>by rcases j with _|_|_|_|_|_|_|_|_|_|_|_|_|_|j <;> first|rfl|omega)
   -- region 6 draws
   refine Fx.W.bH [0,1,2,3,4,5,7,9,11,13,6,8,10,12,14,15,16,17,18] [0,3,0,0,0,0,4,0,4,0,4,0,4,0,4,0,0,0,0] (Fx.BD [139]) Fx.BD.refl Fx.BD.trans (aQ := [(2,1,[1]),(3,1,[2,1]),(4,1,[2,1]),(5,1,[2,1]),(7,1,[2,1]),(9,1,[2,1]),(11,1,[2,1]),(13,1,[2,1]),(6,1,[2,1]),(8,1,[2,1]),(10,1,[2,1]),(12,1,[2,1]),(14,1,[2,1]),(15,1,[2,1]),(16,1,[2,1]),(17,1,[2,1]),(18,1,[1])]) (by kernel_rfl) (by kernel_rfl) (by kernel_rfl) (by kernel_rfl) (by kernel_rfl) fun jc bT fE => ?_
   have s7:Fx.Stp w3.heap.size w3 jc:=Sb bT
   have m9:=m7.aC s7 m7.ne
   have m10:=m8.aC s7 m8.ne
   have b7:=s7.below b6 b6.size b6.size
   refine Rp ((pt g2)) (fun v1=>ah rfl rfl) (Fx.R.fP (by rfl) ?_)
   refine Fx.L.call (by rfl) (rC (args := [(pt g2)]) rfl rfl Tryd.func67 rfl rfl) rfl ((RI v g2 _ m10).mono ?_)
   rintro e w4 ⟨b,v',he,m11,s8,hkb,hkv⟩
   have m12:=m9.aC s8 (by omega)
   have b8:=s8.below b7 b7.size (by omega)
   cases b
   ·refine⟨.bool false,he,?_⟩
    clear he
    refine Ln (Rp (.bool false) (fun v1=>ah rfl rfl) (Fx.R.skip (by rfl) (Fx.R.skip (by rfl) (Fx.R.skip (by rfl) (Fx.R.skip (by rfl) (Fx.R.skip (by rfl) (Fx.R.skip (by rfl) (Fx.R.skip (by rfl) (Fx.R.skip (by rfl) (Fx.R.skip (by rfl) (Fx.R.skip (by rfl) (Fx.R.skip (by rfl) (Fx.R.skip (by rfl) (Fx.R.skip (by rfl) (Fx.R.skip (by rfl) (Rp (.bool false) (fun v1=>aJ rfl rfl rfl) (Rp (.bool false) (fun v1=>aj rfl rfl) (Fx.R.nil (sN (Wr (⟨.bool false,rV Tryd.results44 (by exact rfl),?_⟩)))))))))))))))))))))
    have m2:decide (1<=v.seq)=true:=decide_eq_true (by omega)
    have m3:decide (v.seq<1099511627776)=true:=decide_eq_true (by omega)
    have m4:decide (v.deps (v.o-1).toNat=v.seq-1)=true:=decide_eq_true (by rw[show(v.o-1).toNat=a by omega]; exact c28)
    have m5:=AY Mq
    have m6:qO v=true->iQ v=false:=fun h=>by rw[vw h,<- hkb]
    have m7:(qO v&&iQ v)=false:=by cases h:qO v with|false=>rfl|true=>exact m6 h
    have m8:(true&&true&&true&&true&&true&&qO v&&iQ v)=false:=m7
    exact⟨congrArg (fun q=>Ending.returned (Value.bool q)) (Eq.symm (by unfold bZ; rw[c6,m2,m3,m4,m5,m8]; try rfl)),b8⟩
   refine⟨.bool true,he,?_⟩
   clear he
   rw[hkv rfl]at m11
   refine Ln (Rp (.bool true) (fun v1=>ah rfl rfl) (Rp ((pt g2)) (fun v1=>ah rfl rfl) (Rp ((pt g2)) (fun v1=>aO rfl rfl) (Rp ((pt g2)) (fun v1=>au rfl rfl Tryd.underlying139 rfl (s:=14) (by kernel_rfl) rfl rfl) (Rp ((pt g1)) (fun v1=>au rfl rfl Tryd.underlying28 rfl (s:=1) (by kernel_rfl) rfl rfl) (Rp ((pf g1 1)) (fun v1=>au rfl rfl Tryd.underlying28 rfl (s:=1) (by kernel_rfl) rfl (by show _+1=_; omega)) (Rp ((pf g1 2)) (fun v1=>au rfl rfl Tryd.underlying28 rfl (s:=6) (by kernel_rfl) rfl (by show _+2=_; omega)) (Rp ((pf g1 8)) (fun v1=>au rfl rfl Tryd.underlying28 rfl (s:=1) (by kernel_rfl) rfl (by show _+8=_; omega)) (Fx.R.s (.agg (Fx.ay 14 (aW (jF v)))) (aK (x:=aW (jF v)) (y:=aW (jF v)) rfl rfl (by kernel_rfl) (by kernel_rfl) m11.aL (i:=0) (by omega) (by omega) (fun j _=>by rw[Nat.zero_add])) ?_)))))))))
   refine Fx.R.s (.int .i64 (v.o)) (ak (x:=aW v) rfl rfl (by kernel_rfl) m12.aL (i:=0) (by omega) (by omega) rfl) ?_
   refine Fx.R.s (.int .u64 (v.seq)) (ak (x:=aW v) rfl rfl (by kernel_rfl) m12.aL (i:=1) (by omega) (by omega) rfl) ?_
   refine Fx.R.s (.agg (Fx.ay 6 (Fx.rv .u64 v.deps))) (aK (x:=aW v) (y:=Fx.rv .u64 v.deps) rfl rfl (by kernel_rfl) (by kernel_rfl) m12.aL (i:=2) (by omega) (by omega) (fun j hj=>mV _ (by omega) hj)) ?_
   refine Fx.R.s (.int .u8 (v.kind)) (ak (x:=aW v) rfl rfl (by kernel_rfl) m12.aL (i:=8) (by omega) (by omega) rfl) ?_
   refine Rp (.agg (Fx.ay 14 (Fx.aX (Fx.aX (Fx.aX (Fx.aX (fun zq=>if zq<1 then .int .i64 (0)else if zq<8 then .int .u64 (0)else if zq<9 then .int .u8 (0)else if zq<10 then .int .u64 (0)else if zq<12 then .int .i64 (0)else .int .u64 (0)) 0 1 (fun _ => .int .i64 (v.o))) 1 1 (fun _ => .int .u64 (v.seq))) 2 6 (Fx.rv .u64 v.deps)) 8 1 (fun _ => .int .u8 (v.kind))))) (fun v1=>bX (vs := [(0,.int .i64 (v.o)),(1,.int .u64 (v.seq)),(2,.agg (Fx.ay 6 (Fx.rv .u64 v.deps))),(3,.int .u8 (v.kind))]) (places := #[(0,1),(1,1),(2,6),(8,1),(9,1),(10,1),(11,1),(12,1),(13,1)]) (m:=14) (x:=fun zq=>if zq<1 then .int .i64 (0)else if zq<8 then .int .u64 (0)else if zq<9 then .int .u8 (0)else if zq<10 then .int .u64 (0)else if zq<12 then .int .i64 (0)else .int .u64 (0)) rfl rfl Tryd.underlying28 (by kernel_rfl) (by kernel_rfl) (by rw[Fx.aG (off:=0) (s:=1) (y:=fun _ => .int .i64 (v.o)) (by kernel_rfl) (Fx.cells_one (by rfl)) (by rfl)]; rw[Fx.aG (off:=1) (s:=1) (y:=fun _ => .int .u64 (v.seq)) (by kernel_rfl) (Fx.cells_one (by rfl)) (by rfl)]; rw[Fx.aG (off:=2) (s:=6) (y:=Fx.rv .u64 v.deps) (by kernel_rfl) (Fx.aN _ _) (by rfl)]; rw[Fx.aG (off:=8) (s:=1) (y:=fun _ => .int .u8 (v.kind)) (by kernel_rfl) (Fx.cells_one (by rfl)) (by rfl)]; rfl)) ?_
   by_cases c53 : ∀ i,i<14->(aW (jF v)) i=(Fx.aX (Fx.aX (Fx.aX (Fx.aX (fun zq=>if zq<1 then .int .i64 (0)else if zq<8 then .int .u64 (0)else if zq<9 then .int .u8 (0)else if zq<10 then .int .u64 (0)else if zq<12 then .int .i64 (0)else .int .u64 (0)) 0 1 (fun _ => .int .i64 (v.o))) 1 1 (fun _ => .int .u64 (v.seq))) 2 6 (Fx.rv .u64 v.deps)) 8 1 (fun _ => .int .u8 (v.kind))) i
   ·refine Rp (.bool true) (fun v1=>Fx.wS (n:=14) (ks := [(some .i64),(some .u64),(some .u64),(some .u64),(some .u64),(some .u64),(some .u64),(some .u64),(some .u8),(some .u64),(some .i64),(some .i64),(some .u64),(some .u64)]) (X:=aW (jF v)) (Y:=Fx.aX (Fx.aX (Fx.aX (Fx.aX (fun zq=>if zq<1 then .int .i64 (0)else if zq<8 then .int .u64 (0)else if zq<9 then .int .u8 (0)else if zq<10 then .int .u64 (0)else if zq<12 then .int .i64 (0)else .int .u64 (0)) 0 1 (fun _ => .int .i64 (v.o))) 1 1 (fun _ => .int .u64 (v.seq))) 2 6 (Fx.rv .u64 v.deps)) 8 1 (fun _ => .int .u8 (v.kind))) 12 true rfl rfl rfl (Fx.Bp c53) (FB (CP hv)) (FT (FB (CO hv)) (fun j hj=>by rcases j with _|_|_|_|_|_|_|_|_|_|_|_|_|_|j <;> first|rfl|exact absurd hj (by simp))) rfl (by kernel_rfl) (by kernel_rfl) (by kernel_rfl) (by kernel_rfl) (by kernel_rfl)) (Rp (.bool true) (fun v1=>aA rfl rfl rfl) (Rp (.bool true) (fun v1=>aj rfl rfl) (Fx.R.nil (sN (Wr (⟨.bool true,rV Tryd.results44 (by exact rfl),?_⟩))))))
    have m2:decide (1<=v.seq)=true:=decide_eq_true (by omega)
    have m3:decide (v.seq<1099511627776)=true:=decide_eq_true (by omega)
    have m4:decide (v.deps (v.o-1).toNat=v.seq-1)=true:=decide_eq_true (by rw[show(v.o-1).toNat=a by omega]; exact c28)
    have m5:=AY Mq
    have m6:=(zH hkb.symm).1 (fun i hi=>(c53 i hi).trans (by rcases i with _|_|_|_|_|_|_|_|_|_|_|_|_|_|i <;> first|rfl|omega))
    have m7:=(vw m6).trans hkb.symm
    exact⟨congrArg (fun q=>Ending.returned (Value.bool q)) (Eq.symm (by unfold bZ; rw[c6,m2,m3,m4,m5,m6,m7]; try rfl)),b8⟩
   refine Rp (.bool false) (fun v1=>Fx.wS (n:=14) (ks := [(some .i64),(some .u64),(some .u64),(some .u64),(some .u64),(some .u64),(some .u64),(some .u64),(some .u8),(some .u64),(some .i64),(some .i64),(some .u64),(some .u64)]) (X:=aW (jF v)) (Y:=Fx.aX (Fx.aX (Fx.aX (Fx.aX (fun zq=>if zq<1 then .int .i64 (0)else if zq<8 then .int .u64 (0)else if zq<9 then .int .u8 (0)else if zq<10 then .int .u64 (0)else if zq<12 then .int .i64 (0)else .int .u64 (0)) 0 1 (fun _ => .int .i64 (v.o))) 1 1 (fun _ => .int .u64 (v.seq))) 2 6 (Fx.rv .u64 v.deps)) 8 1 (fun _ => .int .u8 (v.kind))) 12 false rfl rfl rfl (Fx.nob c53) (FB (CP hv)) (FT (FB (CO hv)) (fun j hj=>by rcases j with _|_|_|_|_|_|_|_|_|_|_|_|_|_|j <;> first|rfl|exact absurd hj (by simp))) rfl (by kernel_rfl) (by kernel_rfl) (by kernel_rfl) (by kernel_rfl) (by kernel_rfl)) (Rp (.bool false) (fun v1=>aA rfl rfl rfl) (Rp (.bool false) (fun v1=>aj rfl rfl) (Fx.R.nil (sN (Wr (⟨.bool false,rV Tryd.results44 (by exact rfl),?_⟩))))))
   have m2:decide (1<=v.seq)=true:=decide_eq_true (by omega)
   have m3:decide (v.seq<1099511627776)=true:=decide_eq_true (by omega)
   have m4:decide (v.deps (v.o-1).toNat=v.seq-1)=true:=decide_eq_true (by rw[show(v.o-1).toNat=a by omega]; exact c28)
   have m5:=AY Mq
   have m6:qO v=false:=Bool.eq_false_iff.2 (fun h=>c53 (fun i hi=>((zH hkb.symm).2 h i hi).trans (by rcases i with _|_|_|_|_|_|_|_|_|_|_|_|_|_|i <;> first|rfl|omega)))
   exact⟨congrArg (fun q=>Ending.returned (Value.bool q)) (Eq.symm (by unfold bZ; rw[c6,m2,m3,m4,m5,m6]; try rfl)),b8⟩
  refine Qv (.bool true) (fun v1 hv1=>Fx.jd rfl rfl rfl c28) (Qv (.bool true) (fun v1 hv1=>aJ rfl rfl rfl) (Fx.Qt.nil ?_))
  intro D8 sH
  have s9:Fx.Stp w1.heap.size w1 D8:=Sb sH
  have b9:=s9.below b1 b1.size b1.size
  refine sN (Wc (b:=true) rfl (fun _=>Ws (Wl (Lv (.bool false) (aj rfl rfl) ?_))) (fun h=>nomatch h))
  refine Ln (sN (Wr (sR (⟨.bool false,rV Tryd.results44 (by exact rfl),?_⟩))))
  have m2:decide (1<=v.seq)=true:=decide_eq_true (by omega)
  have m3:decide (v.seq<1099511627776)=true:=decide_eq_true (by omega)
  have m4:decide (v.deps (v.o-1).toNat=v.seq-1)=false:=decide_eq_false (by rw[show(v.o-1).toNat=a by omega]; exact c28)
  exact⟨congrArg (fun q=>Ending.returned (Value.bool q)) (Eq.symm (by unfold bZ; rw[c6,m2,m3,m4]; try rfl)),b9⟩
 rw[Bool.not_eq_true]at c6
 refine Fx.Qt.call (v := .bool false) (by rfl) (fun v1 hv1=>rC (args := [.int .i64 (v.o)]) rfl rfl Tryd.func65 rfl rfl) rfl (fun v1 hv1=>(tC v.o _).mono fun e v2 h=>⟨by rw[h.1,c6],by rw[h.2]; exact hv1⟩) ?_
 refine Qv (.bool true) (fun v1 hv1=>Fx.eH rfl rfl) (Qv (.bool true) (fun v1 hv1=>ah rfl rfl) (Qs (by rfl) rfl (Qs (by rfl) rfl (Qs (by rfl) rfl (Qv (.bool true) (fun v1 hv1=>aA rfl rfl rfl) (Qv (.bool true) (fun v1 hv1=>ah rfl rfl) (Qs (by rfl) rfl (Qs (by rfl) rfl (Qs (by rfl) rfl (Qv (.bool true) (fun v1 hv1=>aA rfl rfl rfl) (Qv (.bool true) (fun v1 hv1=>ah rfl rfl) (Qs (by rfl) rfl (Qs (by rfl) rfl (Qs (by rfl) rfl (Qs (by rfl) rfl (Qs (by rfl) rfl (Qs (by rfl) rfl (Qs (by rfl) rfl (Qs (by rfl) rfl (Qs (by rfl) rfl (Qs (by rfl) rfl (Qv (.bool true) (fun v1 hv1=>aA rfl rfl rfl) (Fx.Qt.nil ?_)))))))))))))))))))))))
 intro Mj xw
 have s10:Fx.Stp w1.heap.size w1 Mj:=Sb xw
 have b10:=s10.below b1 b1.size b1.size
 refine sN (Wc (b:=true) rfl (fun _=>Ws (Wl (Lv (.bool false) (aj rfl rfl) ?_))) (fun h=>nomatch h))
 refine Ln (sN (Wr (sR (⟨.bool false,rV Tryd.results44 (by exact rfl),?_⟩))))
 exact⟨congrArg (fun q=>Ending.returned (Value.bool q)) (Eq.symm (by unfold bZ; rw[c6]; try rfl)),b10⟩
namespace Rt
def jr(a b:Int):Int:=if b>a then b else a
def vx(X:Nat->Nat->Int):Nat->Value:=fun p => .int .u64 (X (p / 6) (p % 6))
theorem Ko(X:Nat->Nat->Int){i p j:Nat}(hp:p=6*i)(hj:j<6):vx X (p+j)=Fx.rv .u64 (X i) j:=by
 subst hp
 show Value.int .u64 (X ((6*i+j) / 6) ((6*i+j) % 6)) = .int .u64 (X i j)
 rw[show(6*i+j) / 6=i by omega,show(6*i+j) % 6=j by omega]
def kF(c:Int->Int->Int)(X:Nat->Nat->Int):Nat->Nat->Int
 | 0=>X 0
 | k+1=>fun p=>c (kF c X k p) (X (k+1) p)
def zJ(c:Int->Int->Int)(X:Nat->Nat->Int):Nat->Nat->Int
 | 0=>fun _=>0
 | k+1=>kF c X k
def Wd(w:World)(a:Option Addr)(n cap:Nat)(X:Nat->Nat->Int):Prop:=0<n->n<=cap /\ ∃ b off,a=some ⟨b,off,none⟩/\Fx.jT w b off (6*n) (vx X)
def kH(x:Nat->Int)(k:Nat):Nat->Int:=fun p=>if p<k then x p else 0
theorem EA(x:Nat->Int)(k:Nat):upd (kH x k) k (x k)=kH x (k+1):=by
 funext p; unfold upd kH
 by_cases h:p=k
 ·subst h; rw[if_pos rfl,if_pos (by omega)]
 rw[if_neg h]
 by_cases h2:p<k
 ·rw[if_pos h2,if_pos (by omega)]
 rw[if_neg h2,if_neg (by omega)]
theorem HY(x:Nat->Int):Fx.ay 6 (Fx.rv .u64 (kH x 6))=Fx.ay 6 (Fx.rv .u64 x):=Fx.gy fun p hp=>congrArg (Value.int .u64) (by unfold kH; rw[if_pos hp])
end Rt
-- EB.region is not in this seat
theorem U3(a b:Int)(w:World) :
 Calls Tryd.prog 109 #[.int .u64 (a),.int .u64 (b)] w fun e w'=>e = .returned (.int .u64 (jr a b))/\w'=w:=by
 refine Fx.enter Tryd.func109 rfl (n:=8) rfl (by rfl) ?_
 refine Ws (Wl (Lv (.int .u64 (0)) (aj rfl rfl) (Ln (sN (Ws (Wl (Lv (.int .u64 (a)) (ah rfl rfl) (Lv (.int .u64 (b)) (ah rfl rfl) (Lv (.int .u64 (jr a b)) (Fx.Oz rfl rfl rfl) (Lv (.int .u64 (jr a b)) (aj rfl rfl) (Ln (sN (Wr (⟨.int .u64 (jr a b),rV Tryd.results109 (by exact rfl),?_⟩))))))))))))))
 exact⟨rfl,rfl⟩
theorem Kq(x y:Nat->Int)(gc go gv q:Nat)(w:World)(hq:q<6)(hc:Fx.aP w gc 1 (fun _ => .func (.func 109) #[] #[]) 175)(ho:Fx.aP w go 6 (Fx.rv .u64 x) 26)(hv:Fx.aP w gv 6 (Fx.rv .u64 y) 26) :
 Calls Tryd.prog 122 #[.int .i64 ((q:Int)),(pt gc),(pt go),(pt gv)] w fun e w'=>e = .returned (.int .u64 (jr (x q) (y q)))/\Below w.heap.size w w':=by
 refine Fx.enter Tryd.func122 rfl (n:=14) rfl (by rfl) ?_
 refine Ws (Wl (Lv (.int .u64 (0)) (aj rfl rfl) (Ln (sN (Ws ?_)))))
 -- region 1 draws
 refine Fx.W.quiet (fun v1=>Below w.heap.size w v1) (by kernel_rfl) (by kernel_rfl) (Below.refl _ _).drew ?_
 refine Qv (.func (.func 109) #[] #[]) (fun v1 hv1=>ak (x:=fun _ => .func (.func 109) #[] #[]) rfl rfl (by kernel_rfl) (hc.aL.below hv1 (by have:=hc.lt; omega)) (i:=0) (by omega) (by omega) rfl) (Qv (.int .i64 ((q:Int))) (fun v1 hv1=>ah rfl rfl) (Qv ((pf go q)) (fun v1 hv1=>bF rfl rfl rfl Tryd.underlying26 (s:=1) (by kernel_rfl) (by omega) (by omega) (by omega)) (Qv (.int .u64 (x q)) (fun v1 hv1=>ak (x:=Fx.rv .u64 x) rfl rfl (by kernel_rfl) (ho.aL.below hv1 (by have:=ho.lt; omega)) (i:=q) (by omega) (by omega) rfl) (Qv (.int .i64 ((q:Int))) (fun v1 hv1=>ah rfl rfl) (Qv ((pf gv q)) (fun v1 hv1=>bF rfl rfl rfl Tryd.underlying26 (s:=1) (by kernel_rfl) (by omega) (by omega) (by omega)) (Qv (.int .u64 (y q)) (fun v1 hv1=>ak (x:=Fx.rv .u64 y) rfl rfl (by kernel_rfl) (hv.aL.below hv1 (by have:=hv.lt; omega)) (i:=q) (by omega) (by omega) rfl) (Fx.Qt.call (v := .int .u64 (jr (x q) (y q))) (by rfl) (fun v1 hv1=>Fx.yV (args := [.int .u64 (x q),.int .u64 (y q)]) rfl rfl rfl (all := #[.int .u64 (x q),.int .u64 (y q)]) rfl Tryd.func109 rfl rfl) rfl (fun v1 hv1=>(U3 (x q) (y q) _).mono fun e v2 h=>⟨h.1,by rw[h.2]; exact hv1⟩) ?_)))))))
 refine Qv (.int .u64 (jr (x q) (y q))) (fun v1 hv1=>aj rfl rfl) (Fx.Qt.nil ?_)
 intro sG iN
 have s1:Fx.Stp w.heap.size w sG:=Sb iN
 have m2:=ho.aC s1 ho.ne
 have b1:=s1.below (Below.refl w.heap.size w) (Below.refl w.heap.size w).size (Below.refl w.heap.size w).size
 refine sN (Wr (⟨.int .u64 (jr (x q) (y q)),rV Tryd.results122 (by exact rfl),?_⟩))
 exact⟨rfl,b1⟩
theorem EC(x y:Nat->Int)(gc go gv:Nat)(w:World)(hc:Fx.aP w gc 1 (fun _ => .func (.func 109) #[] #[]) 175)(ho:Fx.aP w go 6 (Fx.rv .u64 x) 26)(hv:Fx.aP w gv 6 (Fx.rv .u64 y) 26) :
 Calls Tryd.prog 121 #[.func (.func 122) #[] #[(pt gc),(pt go),(pt gv)]] w fun e w'=>e = .returned (.agg (Fx.ay 6 (Fx.rv .u64 (fun p=>jr (x p) (y p)))))/\Below w.heap.size w w':=by
 refine Fx.enter Tryd.func121 rfl (n:=14) rfl (by rfl) ?_
 refine Ws (Wl (Fx.L.new (m:=6) (y:=Fx.rv .u64 (fun _=>0)) (by rfl) rfl (by kernel_rfl) rfl fun g1 w1 aZ m1 s1 z1 => ?_))
 have m2:=hc.aC s1 hc.ne
 have m3:=ho.aC s1 ho.ne
 have m4:=hv.aC s1 hv.ne
 have b1:=s1.below (Below.refl w.heap.size w) (Below.refl w.heap.size w).size (Below.refl w.heap.size w).size
 have kM:w.heap.size<=g1:=by rw[aZ]; exact(Below.refl w.heap.size w).size
 have jk:gc≠g1:=by rw[aZ]; exact Nat.ne_of_lt (hc.lt)
 have U4:go≠g1:=by rw[aZ]; exact Nat.ne_of_lt (ho.lt)
 have nk:gv≠g1:=by rw[aZ]; exact Nat.ne_of_lt (hv.lt)
 have mO:g1<w1.heap.size:=m1.lt
 clear aZ
 refine Ln (sN (Ws (Ws (Wl (Lv (.int .i64 (0)) (ah rfl rfl) (Ln (sN (Fx.W.block ?_))))))))
 have m5:Fx.aP w1 g1 6 (Fx.rv .u64 (kH (fun p=>jr (x p) (y p)) 0)) 26:=m1
 refine Fx.W.loop (fun f w_ => ∃ k:Nat,k<=6/\f 0 = .func (.func 122) #[] #[(pt gc),(pt go),(pt gv)]/\f 2=(pt g1)/\f 4 = .int .i64 ((k:Int))/\Fx.aP w_ gc 1 (fun _ => .func (.func 109) #[] #[]) 175/\Fx.aP w_ go 6 (Fx.rv .u64 x) 26/\Fx.aP w_ gv 6 (Fx.rv .u64 y) 26/\Fx.aP w_ g1 6 (Fx.rv .u64 (kH (fun p=>jr (x p) (y p)) k)) 26/\Below w.heap.size w w_) (fun f _=>(6-(intOf (f 4)).toNat)) ⟨0,by omega,(by rfl),(by rfl),Fx.ic,m2,m3,m4,m5,b1⟩ ?_
 rintro f1 w2 ⟨k,hk,h1,h2,h3,m6,m7,m8,m9,b2⟩
 refine Ws (Wl ?_)
 by_cases c5:(k:Int)<6
 ·refine Lv (.bool true) (Fx.eG rfl h3 rfl c5) (Ln (sN (Ws (Wc (b:=true) rfl (fun _=>Wk (sN (Ws (Fx.W.block (Ws (Wl (Lv (.int .i64 ((k:Int))) (ah rfl h3) ?_))))))) (fun h=>nomatch h)))))
  refine Lv (.int .i64 ((k:Int))) (aj rfl rfl) (Ln (sN (Wl (Lv (.int .i64 ((k:Int))) (ah rfl rfl) (Lv (.func (.func 122) #[] #[(pt gc),(pt go),(pt gv)]) (ah rfl h1) (Lv (.int .i64 ((k:Int))) (ah rfl rfl) (Fx.L.call (by rfl) (Fx.yV (args := [.int .i64 ((k:Int))]) rfl rfl rfl (all := #[.int .i64 ((k:Int)),(pt gc),(pt go),(pt gv)]) rfl Tryd.func122 rfl rfl) rfl ((Kq x y gc go gv k _ (by omega) m6 m7 m8).mono ?_))))))))
  rintro e w3 ⟨he,hb1⟩
  refine⟨.int .u64 (jr (x k) (y k)),by rw[he],?_⟩
  clear he
  have s2:=Sb hb1
  have m10:=m6.aC s2 m6.ne
  have m11:=m7.aC s2 m7.ne
  have m12:=m8.aC s2 m8.ne
  have m13:=m9.aC s2 m9.ne
  have b3:=s2.below b2 b2.size b2.size
  refine Lv ((pf g1 k)) (bF rfl h2 rfl Tryd.underlying26 (s:=1) (by kernel_rfl) (by omega) (by omega) (by omega)) (Fx.L.bV (x:=Fx.rv .u64 (kH (fun p=>jr (x p) (y p)) k)) (u := .int .u64 (jr (x k) (y k))) (by rfl) rfl rfl rfl rfl (by rfl) (by kernel_rfl) m13 (i:=k) (by omega) fun w4 m14 s3 z2 => ?_)
  have m15:Fx.aP w4 g1 6 (Fx.rv .u64 (upd (kH (fun p=>jr (x p) (y p)) k) k (jr (x k) (y k)))) 26:=m14.to (Fx.zY _ _ _ _)
  have m16:=m10.aC s3 (by omega)
  have m17:=m11.aC s3 (by omega)
  have m18:=m12.aC s3 (by omega)
  have b4:=s3.below b3 b3.size (by omega)
  refine Ln (Fx.dV (sN (Wl (Lv (.int .i64 ((k:Int)+1)) (Fx.aS rfl h3 rfl Fx.io) (Lv (.int .i64 ((k:Int)+1)) (ah rfl rfl) (Ln ?_))))))
  have m19:=m15.to (congrArg (Fx.rv .u64) (EA (fun p=>jr (x p) (y p)) k))
  refine Fx.kg ⟨k+1,by omega,h1,h2,Fx.ic,m16,m17,m18,m19,b4⟩ ?_
  show(6-(intOf ((.int .i64 ((k:Int)+1)))).toNat)<_
  simp only[h3,intOf]; omega
 refine Lv (.bool false) (Fx.dX rfl h3 rfl c5) (Ln (sN (Ws (Wc (b:=false) rfl (fun h=>nomatch h) (fun _=>Fx.W.exit (Fx.dQ (Fx.jC (Fx.dR (sN (Ws (Wl (Lv (.agg (Fx.ay 6 (Fx.rv .u64 (kH (fun p=>jr (x p) (y p)) k)))) (aK (x:=Fx.rv .u64 (kH (fun p=>jr (x p) (y p)) k)) (y:=Fx.rv .u64 (kH (fun p=>jr (x p) (y p)) k)) rfl h2 (by kernel_rfl) (by kernel_rfl) m9.aL (i:=0) (by omega) (by omega) (fun j _=>by rw[Nat.zero_add])) (Fx.L.dY (x:=Fx.rv .u64 (kH (fun p=>jr (x p) (y p)) k)) (y:=Fx.rv .u64 (kH (fun p=>jr (x p) (y p)) k)) (by rfl) rfl rfl h2 rfl (fun _ _=>rfl) (by kernel_rfl) m9 (i:=0) (by omega) fun w5 m20 s4 z3 => ?_)))))))))))))
 have m21:Fx.aP w5 g1 6 (Fx.rv .u64 (kH (fun p=>jr (x p) (y p)) k)) 26:=Fx.dF m20
 have m22:=m6.aC s4 (by omega)
 have m23:=m7.aC s4 (by omega)
 have m24:=m8.aC s4 (by omega)
 have b5:=s4.below b2 b2.size (by omega)
 refine Ln (sN (Wr (⟨.agg (Fx.ay 6 (Fx.rv .u64 (kH (fun p=>jr (x p) (y p)) k))),rV Tryd.results121 ⟨_,h2,Fx.iE m21.aL (by kernel_rfl) (by kernel_rfl)⟩,?_⟩)))
 have e6:k=6:=by omega
 exact⟨by rw[e6,HY],b5⟩
namespace Rt
def V2(x y:Nat->Int):Nat->Nat->Int
 | 0=>x
 | 1=>y
 | _=>fun _=>0
end Rt
theorem CQ(a:Option Addr)(cap:Nat)(w:World) :
 Calls Tryd.prog 108 #[.slice a (0) (cap),.func (.func 109) #[] #[]] w fun e w'=>e = .returned (.agg (Fx.ay 6 (Fx.rv .u64 (fun _=>0))))/\Below w.heap.size w w':=by
 refine Fx.enter Tryd.func108 rfl (n:=26) rfl (by rfl) ?_
 refine Ws (Wl (Fx.L.box (m:=1) (y:=fun _ => .func (.func 109) #[] #[]) (by rfl) rfl rfl (Fx.cells_one (by rfl)) rfl fun g1 w1 aZ m1 s1 z1 => ?_))
 have b1:=s1.below (Below.refl w.heap.size w) (Below.refl w.heap.size w).size (Below.refl w.heap.size w).size
 have kM:w.heap.size<=g1:=by rw[aZ]; exact(Below.refl w.heap.size w).size
 have mO:g1<w1.heap.size:=m1.lt
 clear aZ
 refine Fx.L.new (m:=6) (y:=Fx.rv .u64 (fun _=>0)) (by rfl) rfl (by kernel_rfl) rfl fun g2 w2 bS m2 s2 z2 => ?_
 have m3:=m1.aC s2 m1.ne
 have b2:=s2.below b1 b1.size b1.size
 have su:w.heap.size<=g2:=by rw[bS]; exact b1.size
 have xg:g1≠g2:=by rw[bS]; exact Nat.ne_of_lt (m1.lt)
 have vK:g2<w2.heap.size:=m2.lt
 clear bS
 refine Ln (sN (Ws (Ws (Wl (Lv (.slice a (0) (cap)) (ah rfl rfl) (Lv (.int .i64 (0)) (x_len rfl rfl rfl (by kernel_rfl)) (Lv (.bool true) (bG rfl rfl rfl rfl) (Ln (sN (Wc (b:=true) rfl (fun _=>Ws (Wl (Lv (.agg (Fx.ay 6 (Fx.rv .u64 (fun _=>0)))) (Fx.jJ (vs := []) (s:=1) (m:=6) (x:=Fx.rv .u64 (fun _=>0)) rfl rfl Tryd.underlying26 (by kernel_rfl) (by kernel_rfl) (by rfl)) ?_))) (fun h=>nomatch h)))))))))))
 refine Fx.L.dY (x:=Fx.rv .u64 (fun _=>0)) (y:=Fx.rv .u64 (fun _=>0)) (by rfl) rfl rfl rfl rfl (fun _ _=>rfl) (by kernel_rfl) m2 (i:=0) (by omega) fun w3 m4 s3 z3 => ?_
 have m5:Fx.aP w3 g2 6 (Fx.rv .u64 (fun _=>0)) 26:=Fx.dF m4
 have m6:=m3.aC s3 (by omega)
 have b3:=s3.below b2 b2.size (by omega)
 refine Ln (sN (Wr (sR (⟨.agg (Fx.ay 6 (Fx.rv .u64 (fun _=>0))),rV Tryd.results108 ⟨_,rfl,Fx.iE m5.aL (by kernel_rfl) (by kernel_rfl)⟩,?_⟩))))
 exact⟨rfl,b3⟩
theorem CS(b off m cap:Nat)(X:Nat->Nat->Int)(w:World)(hcap:m+1<=cap)(hm:m<=1000000)(hx:Fx.jT w b off (6*(m+1)) (vx X)) :
 Calls Tryd.prog 108 #[.slice (some ⟨b,off,none⟩) (m+1) (cap),.func (.func 109) #[] #[]] w fun e w'=>e = .returned (.agg (Fx.ay 6 (Fx.rv .u64 (kF jr X m))))/\Below w.heap.size w w':=by
 have lb:=hx.lt (by omega)
 refine Fx.enter Tryd.func108 rfl (n:=26) rfl (by rfl) ?_
 refine Ws (Wl (Fx.L.box (m:=1) (y:=fun _ => .func (.func 109) #[] #[]) (by rfl) rfl rfl (Fx.cells_one (by rfl)) rfl fun g1 w1 aZ m1 s1 z1 => ?_))
 have m2:=hx.aC s1 (Nat.ne_of_lt (hx.lt (by omega)))
 have b1:=s1.below (Below.refl w.heap.size w) (Below.refl w.heap.size w).size (Below.refl w.heap.size w).size
 have kM:w.heap.size<=g1:=by rw[aZ]; exact(Below.refl w.heap.size w).size
 have jk:b≠g1:=by rw[aZ]; exact Nat.ne_of_lt (hx.lt (by omega))
 have mO:g1<w1.heap.size:=m1.lt
 clear aZ
 refine Fx.L.new (m:=6) (y:=Fx.rv .u64 (fun _=>0)) (by rfl) rfl (by kernel_rfl) rfl fun g2 w2 bS m3 s2 z2 => ?_
 have m4:=m2.aC s2 (Nat.ne_of_lt (m2.lt (by omega)))
 have m5:=m1.aC s2 m1.ne
 have b2:=s2.below b1 b1.size b1.size
 have su:w.heap.size<=g2:=by rw[bS]; exact b1.size
 have O9:b≠g2:=by rw[bS]; exact Nat.ne_of_lt (m2.lt (by omega))
 have Kt:g1≠g2:=by rw[bS]; exact Nat.ne_of_lt (m1.lt)
 have vK:g2<w2.heap.size:=m3.lt
 clear bS
 refine Ln (sN (Ws (Ws (Wl (Lv (.slice (some ⟨b,off,none⟩) (m+1) (cap)) (ah rfl rfl) (Lv (.int .i64 (((m+1:Nat):Int))) (x_len rfl rfl rfl (by kernel_rfl)) (Lv (.bool false) (dn rfl rfl rfl (by omega)) (Ln (sN (Wc (b:=false) rfl (fun h=>nomatch h) (fun _=>Wk (sN (Ws (Wl (Lv (.slice (some ⟨b,off,none⟩) (m+1) (cap)) (ah rfl rfl) (Lv ((pf b off)) (av rfl rfl rfl Tryd.underlying173 (s:=6) (by kernel_rfl) (by omega) (by omega) (by omega)) (Lv (.agg (Fx.ay 6 (Fx.rv .u64 (X 0)))) (aK (x:=vx X) (y:=Fx.rv .u64 (X 0)) rfl rfl (by kernel_rfl) (by kernel_rfl) m4 (i:=0) (by omega) (by omega) (fun j hj=>Ko _ (i:=0) (p:=0) (by omega) hj)) (Fx.L.new (m:=6) (y:=Fx.rv .u64 (fun _=>0)) (by rfl) rfl (by kernel_rfl) rfl fun g3 w3 iq m6 s3 z3 => ?_))))))))))))))))))
 have m7:=m4.aC s3 (Nat.ne_of_lt (m4.lt (by omega)))
 have m8:=m5.aC s3 m5.ne
 have m9:=m3.aC s3 m3.ne
 have b3:=s3.below b2 b2.size b2.size
 have uY:w.heap.size<=g3:=by rw[iq]; exact b2.size
 have Pb:b≠g3:=by rw[iq]; exact Nat.ne_of_lt (m4.lt (by omega))
 have Ku:g1≠g3:=by rw[iq]; exact Nat.ne_of_lt (m5.lt)
 have U5:g2≠g3:=by rw[iq]; exact Nat.ne_of_lt (m3.lt)
 have LW:g3<w3.heap.size:=m6.lt
 clear iq
 refine Fx.L.dY (x:=Fx.rv .u64 (fun _=>0)) (y:=Fx.rv .u64 (X 0)) (by rfl) rfl rfl rfl rfl (fun _ _=>rfl) (by kernel_rfl) m6 (i:=0) (by omega) fun w4 m10 s4 z4 => ?_
 have m11:Fx.aP w4 g3 6 (Fx.rv .u64 (X 0)) 26:=Fx.dF m10
 have m12:=m7.aC s4 (by omega)
 have m13:=m8.aC s4 (by omega)
 have m14:=m9.aC s4 (by omega)
 have b4:=s4.below b3 b3.size (by omega)
 refine Ln (sN (Ws (Ws (Wl (Lv (.slice (some ⟨b,off,none⟩) (m+1) (cap)) (ah rfl rfl) (Lv (.slice (if cap=1 then some ⟨b,off,none⟩else some ⟨b,off+6,none⟩) (m) (cap-1)) (Fx.qR (j:=1) (b:=b) (off:=off) (len:=m+1) (cap:=cap) (s:=6) rfl rfl rfl Tryd.underlying173 (by kernel_rfl) (by omega) rfl rfl rfl) (Lv (.int .i64 ((m:Int))) (x_len rfl rfl rfl (by kernel_rfl)) (Lv (.int .i64 (0)) (ah rfl rfl) (Ln (sN (Fx.W.block ?_)))))))))))
 have m15:Fx.aP w4 g3 6 (Fx.rv .u64 (kF jr X 0)) 26:=m11
 refine Fx.W.loop (fun f w_ => ∃ k:Nat,k<=m/\f 3=(pt g1)/\f 4=(pt g2)/\f 5=(pt g3)/\f 16 = .slice (if cap=1 then some ⟨b,off,none⟩else some ⟨b,off+6,none⟩) (m) (cap-1)/\f 17 = .int .i64 ((m:Int))/\f 18 = .int .i64 ((k:Int))/\Fx.jT w_ b off (6*(m+1)) (vx X)/\Fx.aP w_ g1 1 (fun _ => .func (.func 109) #[] #[]) 175/\Fx.aP w_ g2 6 (Fx.rv .u64 (fun _=>0)) 26/\Fx.aP w_ g3 6 (Fx.rv .u64 (kF jr X k)) 26/\Below w.heap.size w w_) (fun f _=>(m-(intOf (f 18)).toNat)) ⟨0,by omega,(by rfl),(by rfl),(by rfl),(by rfl),Fx.ic,Fx.ic,m12,m13,m14,m15,b4⟩ ?_
 rintro f1 w5 ⟨k,hk,h1,h2,h3,h4,h5,h6,m16,m17,m18,m19,b5⟩
 refine Ws (Wl ?_)
 by_cases c19:(k:Int)<(m:Int)
 ·refine Lv (.bool true) (Fx.eG rfl h6 h5 c19) (Ln (sN (Ws (Wc (b:=true) rfl (fun _=>Wk (sN (Ws (Fx.W.block (Ws (Wl (Lv ((pf b (6*k+off+6))) (av rfl (h4.trans (congrArg (fun q=>Value.slice q (m) (cap-1)) (if_neg (by omega)))) h6 Tryd.underlying173 (s:=6) (by kernel_rfl) (by omega) (by omega) (by omega)) ?_))))))) (fun h=>nomatch h)))))
  refine Lv (.agg (Fx.ay 6 (Fx.rv .u64 (X (k+1))))) (aK (x:=vx X) (y:=Fx.rv .u64 (X (k+1))) rfl rfl (by kernel_rfl) (by kernel_rfl) m16 (i:=6*k+6) (by omega) (by omega) (fun j hj=>Ko _ (i:=k+1) (p:=6*k+6) (by omega) hj)) (Fx.L.new (m:=6) (y:=Fx.rv .u64 (fun _=>0)) (by rfl) rfl (by kernel_rfl) rfl fun g4 w6 gT m20 s5 z5 => ?_)
  have m21:=m16.aC s5 (Nat.ne_of_lt (m16.lt (by omega)))
  have m22:=m17.aC s5 m17.ne
  have m23:=m18.aC s5 m18.ne
  have m24:=m19.aC s5 m19.ne
  have b6:=s5.below b5 b5.size b5.size
  have wH:w.heap.size<=g4:=by rw[gT]; exact b5.size
  have Ya:b≠g4:=by rw[gT]; exact Nat.ne_of_lt (m16.lt (by omega))
  have Yb:g1≠g4:=by rw[gT]; exact Nat.ne_of_lt (m17.lt)
  have Yc:g2≠g4:=by rw[gT]; exact Nat.ne_of_lt (m18.lt)
  have Yd:g3≠g4:=by rw[gT]; exact Nat.ne_of_lt (m19.lt)
  have M6:g4<w6.heap.size:=m20.lt
  clear gT
  refine Fx.L.dY (x:=Fx.rv .u64 (fun _=>0)) (y:=Fx.rv .u64 (X (k+1))) (by rfl) rfl rfl rfl rfl (fun _ _=>rfl) (by kernel_rfl) m20 (i:=0) (by omega) fun w7 qC s6 z6 => ?_
  have oZ:Fx.aP w7 g4 6 (Fx.rv .u64 (X (k+1))) 26:=Fx.dF qC
  have qU:=m21.aC s6 (by omega)
  have qV:=m22.aC s6 (by omega)
  have qD:=m23.aC s6 (by omega)
  have sJ:=m24.aC s6 (by omega)
  have b7:=s6.below b6 b6.size (by omega)
  refine Ln (sN (Wl (Lv (.func (.func 122) #[] #[(pt g1),(pt g3),(pt g4)]) (Fx.jf (us := []) (vs := [(pt g1),(pt g3),(pt g4)]) rfl rfl (Fx.Oq h1 h3 rfl)) (Fx.L.call (by rfl) (rC (args := [.func (.func 122) #[] #[(pt g1),(pt g3),(pt g4)]]) rfl rfl Tryd.func121 rfl rfl) rfl ((EC (kF jr X k) (X (k+1)) g1 g3 g4 _ qV sJ oZ).mono ?_)))))
  rintro e w8 ⟨he,hb1⟩
  refine⟨.agg (Fx.ay 6 (Fx.rv .u64 (fun p=>jr ((kF jr X k) p) ((X (k+1)) p)))),by rw[he],?_⟩
  clear he
  have s7:=Sb hb1
  have mH:=qU.aC s7 (Nat.ne_of_lt (qU.lt (by omega)))
  have m32:=qV.aC s7 qV.ne
  have mI:=qD.aC s7 qD.ne
  have nO:=sJ.aC s7 sJ.ne
  have qW:=oZ.aC s7 oZ.ne
  have b8:=s7.below b7 b7.size b7.size
  refine Fx.L.dY (x:=Fx.rv .u64 (kF jr X k)) (y:=Fx.rv .u64 (fun p=>jr ((kF jr X k) p) ((X (k+1)) p))) (by rfl) rfl rfl h3 rfl (fun _ _=>rfl) (by kernel_rfl) nO (i:=0) (by omega) fun w9 nu s8 z7 => ?_
  have vL:Fx.aP w9 g3 6 (Fx.rv .u64 (fun p=>jr ((kF jr X k) p) ((X (k+1)) p))) 26:=Fx.dF nu
  have vM:=mH.aC s8 (by omega)
  have qE:=m32.aC s8 (by omega)
  have qm:=mI.aC s8 (by omega)
  have nP:=qW.aC s8 (by omega)
  have b9:=s8.below b8 b8.size (by omega)
  refine Ln (Fx.dV (sN (Wl (Lv (.int .i64 ((k:Int)+1)) (Fx.aS rfl h6 rfl Fx.io) (Lv (.int .i64 ((k:Int)+1)) (ah rfl rfl) (Ln (Fx.kg ⟨k+1,by omega,h1,h2,h3,h4,(h5.trans Fx.ic),Fx.ic,vM,qE,qm,vL,b9⟩ ?_)))))))
  show(m-(intOf ((.int .i64 ((k:Int)+1)))).toNat)<_
  simp only[h6,intOf]; omega
 refine Lv (.bool false) (Fx.dX rfl h6 h5 c19) (Ln (sN (Ws (Wc (b:=false) rfl (fun h=>nomatch h) (fun _=>Fx.W.exit (Fx.dQ (Fx.jC (Fx.dR (sN (Ws (Wl (Lv (.agg (Fx.ay 6 (Fx.rv .u64 (kF jr X k)))) (aK (x:=Fx.rv .u64 (kF jr X k)) (y:=Fx.rv .u64 (kF jr X k)) rfl h3 (by kernel_rfl) (by kernel_rfl) m19.aL (i:=0) (by omega) (by omega) (fun j _=>by rw[Nat.zero_add])) (Fx.L.dY (x:=Fx.rv .u64 (fun _=>0)) (y:=Fx.rv .u64 (kF jr X k)) (by rfl) rfl rfl h2 rfl (fun _ _=>rfl) (by kernel_rfl) m18 (i:=0) (by omega) fun wo oH s9 z8 => ?_)))))))))))))
 have oo:Fx.aP wo g2 6 (Fx.rv .u64 (kF jr X k)) 26:=Fx.dF oH
 have tT:=m16.aC s9 (by omega)
 have pq:=m17.aC s9 (by omega)
 have qX:=m19.aC s9 (by omega)
 have b10:=s9.below b5 b5.size (by omega)
 refine Ln (sN (Wr (⟨.agg (Fx.ay 6 (Fx.rv .u64 (kF jr X k))),rV Tryd.results108 ⟨_,h2,Fx.iE oo.aL (by kernel_rfl) (by kernel_rfl)⟩,?_⟩)))
 have ek:k=m:=by omega
 exact⟨by rw[ek],b10⟩
theorem ED(a:Option Addr)(n cap:Nat)(X:Nat->Nat->Int)(w:World)(hn:n<=1000000)(h:Wd w a n cap X) :
 Calls Tryd.prog 108 #[.slice a n cap,.func (.func 109) #[] #[]] w fun e w'=>e = .returned (.agg (Fx.ay 6 (Fx.rv .u64 (zJ jr X n))))/\Below w.heap.size w w':=by
 cases n with
 | zero=>exact CQ a cap w
 | succ m=>obtain⟨hc,b,off,rfl,hx⟩:=h (by omega); exact CS b off m cap X w hc (by omega) hx
theorem RJ{w w':World}{a:Option Addr}{n cap:Nat}{X:Nat->Nat->Int}(h:Wd w a n cap X)(hb:Below w.heap.size w w'):Wd w' a n cap X:=fun h0=>by
 obtain⟨hc,b,off,e,hx⟩:=h h0
 exact⟨hc,b,off,e,hx.below hb (hx.lt (by omega))⟩
theorem RL(a:Option Addr)(n cap:Nat)(X:Nat->Nat->Int)(w:World)(hn:n<=1000000)(h:Wd w a n cap X) :
 Calls Tryd.prog 98 #[.slice a (n) (cap)] w fun e w'=>e = .returned (.agg (Fx.ay 6 (Fx.rv .u64 (zJ jr X n))))/\Below w.heap.size w w':=by
 refine Fx.enter Tryd.func98 rfl (n:=5) rfl (by rfl) ?_
 refine Ws (Wl (Fx.L.new (m:=6) (y:=Fx.rv .u64 (fun _=>0)) (by rfl) rfl (by kernel_rfl) rfl fun g1 w1 aZ m1 s1 z1 => ?_))
 have b1:=s1.below (Below.refl w.heap.size w) (Below.refl w.heap.size w).size (Below.refl w.heap.size w).size
 have kM:w.heap.size<=g1:=by rw[aZ]; exact(Below.refl w.heap.size w).size
 have mO:g1<w1.heap.size:=m1.lt
 clear aZ
 refine Ln (sN (Ws (Wl (Lv (.slice a (n) (cap)) (ah rfl rfl) (Fx.L.call (by rfl) (rC (args := [.slice a (n) (cap),.func (.func 109) #[] #[]]) rfl rfl Tryd.func108 rfl rfl) rfl ((ED a n cap X _ hn (RJ h b1)).mono ?_))))))
 rintro e w2 ⟨he,hb1⟩
 refine⟨.agg (Fx.ay 6 (Fx.rv .u64 (zJ jr X n))),by rw[he],?_⟩
 clear he
 have s2:=Sb hb1
 have m2:=m1.aC s2 m1.ne
 have b2:=s2.below b1 b1.size b1.size
 refine Fx.L.dY (x:=Fx.rv .u64 (fun _=>0)) (y:=Fx.rv .u64 (zJ jr X n)) (by rfl) rfl rfl rfl rfl (fun _ _=>rfl) (by kernel_rfl) m2 (i:=0) (by omega) fun w3 m3 s3 z2 => ?_
 have m4:Fx.aP w3 g1 6 (Fx.rv .u64 (zJ jr X n)) 26:=Fx.dF m3
 have b3:=s3.below b2 b2.size (by omega)
 refine Ln (sN (Wr (⟨.agg (Fx.ay 6 (Fx.rv .u64 (zJ jr X n))),rV Tryd.results98 ⟨_,rfl,Fx.iE m4.aL (by kernel_rfl) (by kernel_rfl)⟩,?_⟩)))
 exact⟨rfl,b3⟩
namespace Rt
theorem U6(x y:Nat->Int):Fx.aX (Fx.aX (fun j=>Fx.rv .u64 (fun _=>0) (j % 6)) (0*6) 6 (Fx.rv .u64 x)) (1*6) 6 (Fx.rv .u64 y)=vx (V2 x y):=by
 funext p
 unfold Fx.aX
 by_cases h1:1*6<=p/\p<1*6+6
 ·rw[if_pos h1]
  show _=Value.int .u64 (V2 x y (p / 6) (p % 6))
  rw[show p / 6=1 by omega,show p-1*6=p % 6 by omega]; rfl
 rw[if_neg h1]
 by_cases h0:0*6<=p/\p<0*6+6
 ·rw[if_pos h0]
  show _=Value.int .u64 (V2 x y (p / 6) (p % 6))
  rw[show p / 6=0 by omega,show p-0*6=p % 6 by omega]; rfl
 rw[if_neg h0]
 show _=Value.int .u64 (V2 x y (p / 6) (p % 6))
 obtain⟨q,hq⟩ : ∃ q,p / 6=q+2:=⟨p / 6-2,by omega⟩
 rw[hq]; rfl
end Rt
-- EB.New is not in this seat
-- (*EB.U7).Of is not in this seat
-- (*EB.U7).Told is not in this seat
end Go.Proofs.YtahbiajdgealnaaDoor
