/-
  What the proof of the law rests on, part 6: walks of functions, and plain laws; each says its conditions itself.
-/
import Derived.Shelf.SlSortCmp.NoneTotal
import Derived.Shelf.SlSortCmp.WholeK
import Derived.Lib.SliceRun
import Derived.Ground.SlsfProg
import Derived.Test.YtahbiajdgealnaaDoorProg
import Derived.Test.YtahbiajdgealnaaDoorZA5
namespace Go.Proofs.YtahbiajdgealnaaDoor
open Go.RowKit Rt
open Fx (ah aj au ak aJ aA aO eZ av bF dI aK x_len dw bX dn bG Lv sN Ln Ws Qv Wl Rp Wc Qs Wr Sb Lk Wk rC rV sR)
set_option maxRecDepth 20000
set_option linter.unusedVariables false
theorem KY(x:Nat->Int)(v:EvM)(ge:Nat)(w:World)(ho:1<=v.o/\v.o<=6)(he:Fx.aP w ge 14 (aW v) 28) :
 Calls Tryd.prog 158 #[.agg (Fx.ay 54 (Fx.rv .i64 x)),(pt ge)] w fun e w'=>e = .returned ((.tuple #[.agg (Fx.ay 54 (Fx.rv .i64 (bf x v.o v.bL).1)),.int .i64 (bf x v.o v.bL).2]))/\Below w.heap.size w w':=by
 have LX:=he.lt
 refine Fx.enter Tryd.func158 rfl (n:=13) rfl (by rfl) ?_
 refine Ws (Wl (Fx.L.box (m:=54) (y:=Fx.rv .i64 x) (by rfl) rfl rfl (Fx.aN _ _) rfl fun g1 w1 aZ m1 s1 z1 => ?_))
 have m2:=he.aC s1 he.ne
 have b1:=s1.below (Below.refl w.heap.size w) (Below.refl w.heap.size w).size (Below.refl w.heap.size w).size
 have kM:w.heap.size<=g1:=by rw[aZ]; exact(Below.refl w.heap.size w).size
 have jk:ge≠g1:=by rw[aZ]; exact Nat.ne_of_lt (he.lt)
 have mO:g1<w1.heap.size:=m1.lt
 clear aZ
 refine Fx.L.new (m:=54) (y:=Fx.rv .i64 (fun _=>0)) (by rfl) rfl (by kernel_rfl) rfl fun g2 w2 bS m3 s2 z2 => ?_
 have m4:=m2.aC s2 m2.ne
 have m5:=m1.aC s2 m1.ne
 have b2:=s2.below b1 b1.size b1.size
 have su:w.heap.size<=g2:=by rw[bS]; exact b1.size
 have O9:ge≠g2:=by rw[bS]; exact Nat.ne_of_lt (m2.lt)
 have Kt:g1≠g2:=by rw[bS]; exact Nat.ne_of_lt (m1.lt)
 have vK:g2<w2.heap.size:=m3.lt
 clear bS
 refine Lv (.int .i64 (0)) (aj rfl rfl) (Ln (sN (Ws (Wl (Lv (.agg (Fx.ay 54 (Fx.rv .i64 x))) (aK (x:=Fx.rv .i64 x) (y:=Fx.rv .i64 x) rfl rfl (by kernel_rfl) (by kernel_rfl) m5.aL (i:=0) (by omega) (by omega) (fun j _=>by rw[Nat.zero_add])) (Lv ((pt ge)) (au rfl rfl Tryd.underlying28 rfl (s:=1) (by kernel_rfl) rfl rfl) (Lv (.int .i64 (v.o)) (ak (x:=aW v) rfl rfl (by kernel_rfl) m4.aL (i:=0) (by omega) (by omega) rfl) (Lv ((pf ge 11)) (au rfl rfl Tryd.underlying28 rfl (s:=1) (by kernel_rfl) rfl (by show _+11=_; omega)) (Lv (.int .i64 (v.bL)) (ak (x:=aW v) rfl rfl (by kernel_rfl) m4.aL (i:=11) (by omega) (by omega) rfl) (Fx.L.call (by rfl) (rC (args := [.agg (Fx.ay 54 (Fx.rv .i64 x)),.int .i64 (v.o),.int .i64 (v.bL)]) rfl rfl Tryd.func159 rfl rfl) rfl ((RO (x) v.o v.bL _ (by omega)).mono ?_)))))))))))
 rintro e w3 ⟨he,hb1⟩
 refine⟨.tuple #[.agg (Fx.ay 54 (Fx.rv .i64 ((bf (x) v.o v.bL).1))),.int .i64 ((bf (x) v.o v.bL).2)],by rw[he],?_⟩
 clear he
 have s3:=Sb hb1
 have m6:=m4.aC s3 m4.ne
 have m7:=m5.aC s3 m5.ne
 have m8:=m3.aC s3 m3.ne
 have b3:=s3.below b2 b2.size b2.size
 refine Lv (.agg (Fx.ay 54 (Fx.rv .i64 ((bf (x) v.o v.bL).1)))) (Fx.aD rfl rfl rfl) (Lv (.int .i64 ((bf (x) v.o v.bL).2)) (Fx.aD rfl rfl rfl) (Fx.L.dY (x:=Fx.rv .i64 (fun _=>0)) (y:=Fx.rv .i64 ((bf (x) v.o v.bL).1)) (by rfl) rfl rfl rfl rfl (fun _ _=>rfl) (by kernel_rfl) m8 (i:=0) (by omega) fun w4 m9 s4 z3 => ?_))
 have m10:Fx.aP w4 g2 54 (Fx.rv .i64 ((bf (x) v.o v.bL).1)) 82:=Fx.dF m9
 have m11:=m6.aC s4 (by omega)
 have m12:=m7.aC s4 (by omega)
 have b4:=s4.below b3 b3.size (by omega)
 refine Lv (.int .i64 ((bf (x) v.o v.bL).2)) (aj rfl rfl) (Ln (sN (Wr (⟨.tuple #[.agg (Fx.ay 54 (Fx.rv .i64 ((bf (x) v.o v.bL).1))),.int .i64 ((bf (x) v.o v.bL).2)],Fx.cB Tryd.results158 ⟨_,rfl,Fx.iE m10.aL (by kernel_rfl) (by kernel_rfl)⟩ (by exact rfl),?_⟩))))
 exact⟨rfl,b4⟩
theorem KZ(x:Nat->Int)(v:EvM)(g:Nat->Int)(ge gg:Nat)(w:World)(ho:1<=v.o/\v.o<=6)(he:Fx.aP w ge 14 (aW v) 28)(hgr:Fx.aP w gg 5 (iJ g) 99) :
 Calls Tryd.prog 161 #[.agg (Fx.ay 54 (Fx.rv .i64 x)),(pt ge),(pt gg)] w fun e w'=>e = .returned ((.tuple #[.agg (Fx.ay 54 (Fx.rv .i64 (bA x v.o (g 3)).1)),.int .i64 (bA x v.o (g 3)).2]))/\Below w.heap.size w w':=by
 have LX:=he.lt
 have lgg:=hgr.lt
 refine Fx.enter Tryd.func161 rfl (n:=14) rfl (by rfl) ?_
 refine Ws (Wl (Fx.L.box (m:=54) (y:=Fx.rv .i64 x) (by rfl) rfl rfl (Fx.aN _ _) rfl fun g1 w1 aZ m1 s1 z1 => ?_))
 have m2:=he.aC s1 he.ne
 have m3:=hgr.aC s1 hgr.ne
 have b1:=s1.below (Below.refl w.heap.size w) (Below.refl w.heap.size w).size (Below.refl w.heap.size w).size
 have kM:w.heap.size<=g1:=by rw[aZ]; exact(Below.refl w.heap.size w).size
 have jk:ge≠g1:=by rw[aZ]; exact Nat.ne_of_lt (he.lt)
 have U4:gg≠g1:=by rw[aZ]; exact Nat.ne_of_lt (hgr.lt)
 have mO:g1<w1.heap.size:=m1.lt
 clear aZ
 refine Fx.L.new (m:=54) (y:=Fx.rv .i64 (fun _=>0)) (by rfl) rfl (by kernel_rfl) rfl fun g2 w2 bS m4 s2 z2 => ?_
 have m5:=m2.aC s2 m2.ne
 have m6:=m3.aC s2 m3.ne
 have m7:=m1.aC s2 m1.ne
 have b2:=s2.below b1 b1.size b1.size
 have su:w.heap.size<=g2:=by rw[bS]; exact b1.size
 have Kt:ge≠g2:=by rw[bS]; exact Nat.ne_of_lt (m2.lt)
 have acr:gg≠g2:=by rw[bS]; exact Nat.ne_of_lt (m3.lt)
 have O8:g1≠g2:=by rw[bS]; exact Nat.ne_of_lt (m1.lt)
 have vK:g2<w2.heap.size:=m4.lt
 clear bS
 refine Lv (.int .i64 (0)) (aj rfl rfl) (Ln (sN (Ws (Wl (Lv (.agg (Fx.ay 54 (Fx.rv .i64 x))) (aK (x:=Fx.rv .i64 x) (y:=Fx.rv .i64 x) rfl rfl (by kernel_rfl) (by kernel_rfl) m7.aL (i:=0) (by omega) (by omega) (fun j _=>by rw[Nat.zero_add])) (Lv ((pt ge)) (au rfl rfl Tryd.underlying28 rfl (s:=1) (by kernel_rfl) rfl rfl) (Lv (.int .i64 (v.o)) (ak (x:=aW v) rfl rfl (by kernel_rfl) m5.aL (i:=0) (by omega) (by omega) rfl) (Lv ((pf gg 3)) (au rfl rfl Tryd.underlying99 rfl (s:=1) (by kernel_rfl) rfl (by show _+3=_; omega)) (Lv (.int .i64 (g 3)) (ak (x:=iJ g) rfl rfl (by kernel_rfl) m6.aL (i:=3) (by omega) (by omega) rfl) (Fx.L.call (by rfl) (rC (args := [.agg (Fx.ay 54 (Fx.rv .i64 x)),.int .i64 (v.o),.int .i64 (g 3)]) rfl rfl Tryd.func162 rfl rfl) rfl ((RP (x) v.o (g 3) _ (by omega)).mono ?_)))))))))))
 rintro e w3 ⟨he,hb1⟩
 refine⟨.tuple #[.agg (Fx.ay 54 (Fx.rv .i64 ((bA (x) v.o (g 3)).1))),.int .i64 ((bA (x) v.o (g 3)).2)],by rw[he],?_⟩
 clear he
 have s3:=Sb hb1
 have m8:=m5.aC s3 m5.ne
 have m9:=m6.aC s3 m6.ne
 have m10:=m7.aC s3 m7.ne
 have m11:=m4.aC s3 m4.ne
 have b3:=s3.below b2 b2.size b2.size
 refine Lv (.agg (Fx.ay 54 (Fx.rv .i64 ((bA (x) v.o (g 3)).1)))) (Fx.aD rfl rfl rfl) (Lv (.int .i64 ((bA (x) v.o (g 3)).2)) (Fx.aD rfl rfl rfl) (Fx.L.dY (x:=Fx.rv .i64 (fun _=>0)) (y:=Fx.rv .i64 ((bA (x) v.o (g 3)).1)) (by rfl) rfl rfl rfl rfl (fun _ _=>rfl) (by kernel_rfl) m11 (i:=0) (by omega) fun w4 m12 s4 z3 => ?_))
 have m13:Fx.aP w4 g2 54 (Fx.rv .i64 ((bA (x) v.o (g 3)).1)) 82:=Fx.dF m12
 have m14:=m8.aC s4 (by omega)
 have m15:=m9.aC s4 (by omega)
 have m16:=m10.aC s4 (by omega)
 have b4:=s4.below b3 b3.size (by omega)
 refine Lv (.int .i64 ((bA (x) v.o (g 3)).2)) (aj rfl rfl) (Ln (sN (Wr (⟨.tuple #[.agg (Fx.ay 54 (Fx.rv .i64 ((bA (x) v.o (g 3)).1))),.int .i64 ((bA (x) v.o (g 3)).2)],Fx.cB Tryd.results161 ⟨_,rfl,Fx.iE m13.aL (by kernel_rfl) (by kernel_rfl)⟩ (by exact rfl),?_⟩))))
 exact⟨rfl,b4⟩
theorem Dj(m:dD)(lp B:Nat)(w:World)(h:iT w B lp m)(fT:(Nat->Int)->(Nat->Int) × Int)(l:List Int)(gM:Nat)(hgM:m.rb≠gM/\m.mb≠gM/\m.pb≠gM/\m.gb≠gM/\m.ab≠gM)(hlh : ∀ k,k∈l->m.T.has k=true)(hF:Fx.Mp w gM l.length (fun q=>l.getD q 0) (kZ m fT l))(g8:Nat)(gl:Nat)(h8:Fx.aP w g8 1 (fun _ => .map (some gM)) 88)(hl:Fx.aP w gl 1 (fun _=>(pt lp)) 44) :
 Calls Tryd.prog 170 #[(pt g8),(pt gl)] w fun e w'=>e = .returned (.tuple #[])/\iT w' B lp (kY m fT l)/\Fx.jB (xR m lp) w w':=by
 have hC:=h.c
 have hT:=h.t
 have hP:=h.p
 have hR:=h.r
 have hG:=h.g
 have hA:=h.a
 have hN:=h.ne
 have lC:=h.c.lt
 have lT:=h.t.lt
 have lP:=h.p.lt
 have lR:=h.r.lt
 have lG:=h.g.lt
 have lA:=h.a.lt
 have lg8:=h8.lt
 have OE:=hl.lt
 have lF:=hF.lt
 obtain⟨hg1,hg2,hg3,hg4,hg5⟩:=hgM
 refine Fx.enter Tryd.func170 rfl (n:=17) rfl (by rfl) ?_
 refine Ws (Wl (Lv (.map (some gM)) (ak (x:=fun _ => .map (some gM)) rfl rfl (by kernel_rfl) h8.aL (i:=0) (by omega) (by omega) rfl) (Fx.L.range (by rfl) rfl rfl rfl hF Tryd.underlying88 fun g1 w1 aZ m1 s1 z1 => ?_)))
 have m2:=hC.aC s1 hC.ne
 have m3:=hT.up s1.old
 have m4:=hP.up s1.old
 have m5:=hR.up s1.old
 have m6:=hG.up s1.old
 have m7:=hA.up s1.old
 have m8:=hF.up s1.old
 have m9:=h8.aC s1 h8.ne
 have m10:=hl.aC s1 hl.ne
 have b1:=(Fx.jB.refl (xR m lp) w).then s1 (.inr (Fx.jB.refl (xR m lp) w).size)
 have kM:w.heap.size<=g1:=by rw[aZ]; exact(Fx.jB.refl (xR m lp) w).size
 have mO:g1<w1.heap.size:=m1.lt
 clear aZ
 refine Ln (sN (Fx.W.block ?_))
 have m11:Fx.Mp w1 m.rb m.T.n m.T.x (nX (pW m fT l (fun _=>false))):=by rw[EO]; exact m5
 refine Fx.W.BA (fun kE f w_ => ∃ S:Nat->Bool,∃ kk:Nat,kk=Fx.unseen S l.length/\kk=kE/\f 0=(pt g8)/\f 1=(pt gl)/\f 5=(pt g1)/\Fx.aP w_ lp 29 (fM m) 93/\mD w_ B m.tp m.mb m.T/\Fx.Mp w_ m.pb m.T.n m.T.x (vR m.T)/\Fx.gH w_ m.gb m.gn (fun i=>m.g i 0) (fun i=>m.g i 1) (mF m.g)/\Fx.gH w_ m.ab m.an m.ao m.ar vS/\Fx.Mp w_ gM l.length (fun q=>l.getD q 0) (kZ m fT l)/\Fx.aP w_ g8 1 (fun _ => .map (some gM)) 88/\Fx.aP w_ gl 1 (fun _=>(pt lp)) 44/\Fx.Mp w_ m.rb m.T.n m.T.x (nX (pW m fT l S))/\Fx.It w_ g1 gM l.length S/\Fx.jB (xR m lp) w w_) (Fx.unseen (fun _=>false) l.length) ⟨(fun _=>false),(Fx.unseen (fun _=>false) l.length),rfl,rfl,(by rfl),(by rfl),(by rfl),m2,m3,m4,m6,m7,m8,m9,m10,m11,m1,b1⟩ ?_
 rintro kE f1 w2 ⟨S,kk,hkk,hkE,h1,h2,h3,m12,m13,m14,m15,m16,m17,m18,m19,m20,m21,b2⟩
 refine Ws (Wl (Fx.L.next (by rfl) rfl rfl h3 m17 m21 (fun Cj => ?_) (fun jW w3 hi1 hS1 m22 Tw s2 z2 => ?_)))
 ·skip
  refine Lv (.bool false) (Fx.aD rfl rfl rfl) (Ln (sN (Ws (Wc (b:=false) rfl (fun h=>nomatch h) (fun _=>Fx.W.exit (Fx.dQ (Fx.jC (Fx.dR (⟨.tuple #[],Fx.jS Tryd.results170,?_⟩)))))))))
  have m23:Fx.Mp w2 m.rb m.T.n m.T.x (nX (kY m fT l).R):=by rw[<- KX Cj]; exact m20
  exact⟨rfl,{ c:=m12,t:=m13,p:=m14,r:=m23,g:=m15,a:=m16,ne:=⟨hN.mp,hN.mr,hN.mg,hN.ma,hN.pr,hN.pg,hN.pa,hN.rg,hN.ra,hN.ga⟩,lB:=h.lB,pB:=h.pB,rB:=h.rB,gB:=h.gB,aB:=h.aB },b2⟩
 skip
 have hcm1:=m21.uX s2
 have m24:=m12.bY hcm1
 have qC:=m13.bY hcm1 (by omega)
 have oZ:=m14.bY hcm1 (by omega)
 have qU:=m15.bY hcm1 (by omega)
 have qV:=m16.bY hcm1 (by omega)
 have qD:=m17.bY hcm1 (m21.rb.symm)
 have sJ:=m18.bY hcm1
 have mH:=m19.bY hcm1
 have m32:=m20.bY hcm1 (by omega)
 have b3:=b2.then s2 (.inr kM)
 refine Lv (.bool true) (Fx.aD rfl rfl rfl) (Ln (sN (Ws (Wc (b:=true) rfl (fun _=>Wk (sN (Fx.W.block (Ws (Wl (Lv (.tuple #[.int .u64 (l.getD jW 0),.agg (Fx.ay 54 (Fx.rv .i64 ((fT (tN m (l.getD jW 0))).1)))]) (Fx.Fh (key:=fun q=>l.getD q 0) (val:=kZ m fT l) (i:=jW) rfl h3 qD Tw hi1) ?_)))))) (fun h=>nomatch h)))))
 refine Lv (.int .u64 (l.getD jW 0)) (Fx.aD rfl rfl rfl) (Lv (.agg (Fx.ay 54 (Fx.rv .i64 ((fT (tN m (l.getD jW 0))).1)))) (Fx.aD rfl rfl rfl) (Fx.L.new (m:=54) (y:=Fx.rv .i64 (fun _=>0)) (by rfl) rfl (by kernel_rfl) rfl fun g2 w4 bS mI s3 z3 => ?_))
 have nO:=m24.aC s3 m24.ne
 have qW:=qC.up s3.old
 have nu:=oZ.up s3.old
 have vL:=qU.up s3.old
 have vM:=qV.up s3.old
 have qE:=qD.up s3.old
 have qm:=sJ.aC s3 sJ.ne
 have nP:=mH.aC s3 mH.ne
 have oH:=m32.up s3.old
 have oo:=Tw.up s3.old
 have tT:=m22.up s3.old
 have b4:=b3.then s3 (.inr b3.size)
 have su:w.heap.size<=g2:=by rw[bS]; exact b3.size
 have YK:lp≠g2:=by rw[bS]; exact Nat.ne_of_lt (m24.lt)
 have YL:m.pb≠g2:=by rw[bS]; exact Nat.ne_of_lt (oZ.lt)
 have YM:m.gb≠g2:=by rw[bS]; exact Nat.ne_of_lt (qU.lt)
 have YN:m.ab≠g2:=by rw[bS]; exact Nat.ne_of_lt (qV.lt)
 have YO:gM≠g2:=by rw[bS]; exact Nat.ne_of_lt (qD.lt)
 have YP:g8≠g2:=by rw[bS]; exact Nat.ne_of_lt (sJ.lt)
 have YQ:gl≠g2:=by rw[bS]; exact Nat.ne_of_lt (mH.lt)
 have YR:m.rb≠g2:=by rw[bS]; exact Nat.ne_of_lt (m32.lt)
 have vK:g2<w4.heap.size:=mI.lt
 clear bS
 refine Lv (.int .u64 (l.getD jW 0)) (aj rfl rfl) (Fx.L.dY (x:=Fx.rv .i64 (fun _=>0)) (y:=Fx.rv .i64 ((fT (tN m (l.getD jW 0))).1)) (by rfl) rfl rfl rfl rfl (fun _ _=>rfl) (by kernel_rfl) mI (i:=0) (by omega) fun w5 pq s4 z4 => ?_)
 have qX:Fx.aP w5 g2 54 (Fx.rv .i64 ((fT (tN m (l.getD jW 0))).1)) 82:=Fx.dF pq
 have aT:=Fx.gD.bP s4 mI.ty
 have uZ:=nO.aU aT (by decide)
 have zl:=qW.aU aT (by decide)
 have sK:=nu.aU aT trivial
 have ny:=vL.aU aT trivial
 have qo:=vM.aU aT trivial
 have tV:=qE.aU aT trivial
 have sM:=qm.aU aT (by decide)
 have rT:=nP.aU aT (by decide)
 have vN:=oH.aU aT trivial
 have uw:=oo.aU aT (by decide)
 have nQ:=tT.aU aT (by decide)
 have b5:=b4.then s4 (.inr su)
 refine Ln (sN ?_)
 obtain⟨jz,hjz,xk⟩:=dW (hlh _ (mQ hi1 rfl))
 have CX:tN m (l.getD jW 0)=m.R jz:=by unfold tN dD.idx; rw[iU h.t.inv.inj hjz xk]
 -- region 3 draws
 refine Fx.W.bH [4,0,1,2,3,5,6] [4,0,0,4,0,4,3] Fx.Mk Fx.Mk.refl Fx.Mk.trans (aQ := [(6,0,[0]),(6,3,[3]),(6,5,[5])]) (by kernel_rfl) (by kernel_rfl) (by kernel_rfl) (by kernel_rfl) (by kernel_rfl) fun jc bT fE => ?_
 have s5:Fx.Stp w5.heap.size w5 jc:=Sb bT
 have qY:=uZ.aC s5 uZ.ne
 have qM:=zl.up s5.old
 have lM:=sK.up s5.old
 have qN:=ny.up s5.old
 have oI:=qo.up s5.old
 have sO:=tV.up s5.old
 have m64:=sM.aC s5 sM.ne
 have xD:=rT.aC s5 rT.ne
 have zm:=vN.up s5.old
 have yA:=uw.up s5.old
 have yB:=nQ.up s5.old
 have tX:=qX.aC s5 qX.ne
 have b6:=b5.then s5 (.inr b5.size)
 refine Rp (.int .u64 (l.getD jW 0)) (fun v1=>ah rfl rfl) (Fx.R.s ((pt lp)) (ak (x:=fun _=>(pt lp)) rfl h2 (by kernel_rfl) xD.aL (i:=0) (by omega) (by omega) rfl) ?_)
 refine Rp ((pt lp)) (fun v1=>aO rfl rfl) (Rp ((pf lp 20)) (fun v1=>au rfl rfl Tryd.underlying93 rfl (s:=1) (by kernel_rfl) rfl (by show _+20=_; omega)) (Fx.R.s (.map (some m.rb)) (ak (x:=fM m) rfl rfl (by kernel_rfl) qY.aL (i:=20) (by omega) (by omega) rfl) ?_))
 refine Fx.R.s (.agg (Fx.ay 54 (Fx.rv .i64 ((fT (tN m (l.getD jW 0))).1)))) (aK (x:=Fx.rv .i64 ((fT (tN m (l.getD jW 0))).1)) (y:=Fx.rv .i64 ((fT (tN m (l.getD jW 0))).1)) rfl rfl (by kernel_rfl) (by kernel_rfl) tX.aL (i:=0) (by omega) (by omega) (fun j _=>by rw[Nat.zero_add])) ?_
 refine Fx.R.fP (by rfl) ?_
 refine Fx.L.PW (by rfl) rfl rfl rfl rfl rfl zm Tryd.underlying88 Tryd.underlying22 hjz xk fun w6 yK s6 z5 => ?_
 have hcm2:=zm.uX s6
 have vO:=qY.bY hcm2
 have xE:=qM.bY hcm2 (hN.mr)
 have sP:=lM.bY hcm2 (hN.pr)
 have zn:=qN.bY hcm2 ((Ne.symm hN.rg))
 have xG:=oI.bY hcm2 ((Ne.symm hN.ra))
 have Aq:=sO.bY hcm2 (by omega)
 have Ce:=m64.bY hcm2
 have Cg:=xD.bY hcm2
 have Ch:=yA.bY hcm2 (by omega) (by omega)
 have vP:=yB.bY hcm2 (by omega) (by omega)
 have yC:=tX.bY hcm2
 have b7:=b6.then s6 (.inl (.inr (.inr (.inr (.inl rfl)))))
 have Ar:Fx.Mp w6 m.rb m.T.n m.T.x (nX (pW m fT l (Fx.aH S jW true))):=by have q9:=wI _ _ _ _ yK; rw[CX]at q9; exact q9.mM fun i hi=>⟨rfl,by unfold nX; rw[Ic h.t.inv hi1 hjz xk i hi]⟩
 refine Ln (Fx.R.nil (Fx.dV (Fx.kg ⟨Fx.unseen (Fx.aH S jW true) l.length,(by have h1:=Fx.jL hS1 l.length hi1; omega),(Fx.aH S jW true),(Fx.unseen (Fx.aH S jW true) l.length),rfl,rfl,h1,h2,h3,vO,xE,sP,zn,xG,Aq,Ce,Cg,Ar,vP,b7⟩ (by decide))))
theorem K3(m:dD)(lp B:Nat)(w:World)(h:iT w B lp m)(node:Int)(v:EvM)(ho:1<=v.o/\v.o<=6)(ge:Nat)(he:Fx.aP w ge 14 (aW v) 28) :
 Calls Tryd.prog 157 #[(pt lp),.int .u64 (node),.func (.func 158) #[] #[(pt ge)]] w fun e w'=>Iz w B lp m (kY m (fun x=>bf x v.o v.bL) (m.T.path node)) (bR m (fun x=>bf x v.o v.bL) (m.T.path node)) e w':=by
 have hC:=h.c
 have hT:=h.t
 have hP:=h.p
 have hR:=h.r
 have hG:=h.g
 have hA:=h.a
 have hN:=h.ne
 have lC:=h.c.lt
 have lT:=h.t.lt
 have lP:=h.p.lt
 have lR:=h.r.lt
 have lG:=h.g.lt
 have lA:=h.a.lt
 have LX:=he.lt
 refine Fx.enter Tryd.func157 rfl (n:=44) rfl (by rfl) ?_
 refine Ws (Wl (Fx.L.box (m:=1) (y:=fun _=>(pt lp)) (by rfl) rfl rfl (Fx.cells_one (by rfl)) rfl fun g1 w1 aZ m1 s1 z1 => ?_))
 have m2:=hC.aC s1 hC.ne
 have m3:=hT.up s1.old
 have m4:=hP.up s1.old
 have m5:=hR.up s1.old
 have m6:=hG.up s1.old
 have m7:=hA.up s1.old
 have m8:=he.aC s1 he.ne
 have b1:=s1.below (Below.refl w.heap.size w) (Below.refl w.heap.size w).size (Below.refl w.heap.size w).size
 have kM:w.heap.size<=g1:=by rw[aZ]; exact(Below.refl w.heap.size w).size
 have jk:lp≠g1:=by rw[aZ]; exact Nat.ne_of_lt (hC.lt)
 have nk:m.pb≠g1:=by rw[aZ]; exact Nat.ne_of_lt (hP.lt)
 have oC:m.rb≠g1:=by rw[aZ]; exact Nat.ne_of_lt (hR.lt)
 have oD:m.gb≠g1:=by rw[aZ]; exact Nat.ne_of_lt (hG.lt)
 have oF:m.ab≠g1:=by rw[aZ]; exact Nat.ne_of_lt (hA.lt)
 have F5:ge≠g1:=by rw[aZ]; exact Nat.ne_of_lt (he.lt)
 have mO:g1<w1.heap.size:=m1.lt
 clear aZ
 refine Lv (.nilFunc) (aj rfl rfl) (Lv (.int .i64 (0)) (aj rfl rfl) (Ln (sN (Ws (Wl (Fx.L.Bz (by rfl) rfl rfl fun g2 w2 bS m9 s2 z2 => ?_))))))
 have m10:=m2.aC s2 m2.ne
 have m11:=m3.up s2.old
 have m12:=m4.up s2.old
 have m13:=m5.up s2.old
 have m14:=m6.up s2.old
 have m15:=m7.up s2.old
 have m16:=m8.aC s2 m8.ne
 have m17:=m1.aC s2 m1.ne
 have b2:=s2.below b1 b1.size b1.size
 have su:w.heap.size<=g2:=by rw[bS]; exact b1.size
 have YS:lp≠g2:=by rw[bS]; exact Nat.ne_of_lt (m2.lt)
 have uJ:m.pb≠g2:=by rw[bS]; exact Nat.ne_of_lt (m4.lt)
 have rF:m.rb≠g2:=by rw[bS]; exact Nat.ne_of_lt (m5.lt)
 have rG:m.gb≠g2:=by rw[bS]; exact Nat.ne_of_lt (m6.lt)
 have pz:m.ab≠g2:=by rw[bS]; exact Nat.ne_of_lt (m7.lt)
 have JD:ge≠g2:=by rw[bS]; exact Nat.ne_of_lt (m8.lt)
 have JE:g1≠g2:=by rw[bS]; exact Nat.ne_of_lt (m1.lt)
 have vK:g2<w2.heap.size:=m9.lt
 clear bS
 refine Fx.L.new (m:=1) (y:=fun _ => .map none) (by rfl) rfl (by kernel_rfl) rfl fun g3 w3 iq m18 s3 z3 => ?_
 have m19:=m10.aC s3 m10.ne
 have m20:=m11.up s3.old
 have m21:=m12.up s3.old
 have m22:=m13.up s3.old
 have m23:=m14.up s3.old
 have m24:=m15.up s3.old
 have qC:=m16.aC s3 m16.ne
 have oZ:=m17.aC s3 m17.ne
 have qU:=m9.up s3.old
 have b3:=s3.below b2 b2.size b2.size
 have uY:w.heap.size<=g3:=by rw[iq]; exact b2.size
 have Sw:lp≠g3:=by rw[iq]; exact Nat.ne_of_lt (m10.lt)
 have K4:m.pb≠g3:=by rw[iq]; exact Nat.ne_of_lt (m12.lt)
 have Sy:m.rb≠g3:=by rw[iq]; exact Nat.ne_of_lt (m13.lt)
 have K5:m.gb≠g3:=by rw[iq]; exact Nat.ne_of_lt (m14.lt)
 have K6:m.ab≠g3:=by rw[iq]; exact Nat.ne_of_lt (m15.lt)
 have EF:ge≠g3:=by rw[iq]; exact Nat.ne_of_lt (m16.lt)
 have Sz:g1≠g3:=by rw[iq]; exact Nat.ne_of_lt (m17.lt)
 have EG:g2≠g3:=by rw[iq]; exact Nat.ne_of_lt (m9.lt)
 have LW:g3<w3.heap.size:=m18.lt
 clear iq
 refine Fx.L.bV (x:=fun _ => .map none) (u := .map (some g2)) (by rfl) rfl rfl rfl rfl (by rfl) (by kernel_rfl) m18 (i:=0) (by omega) fun w4 qV s4 z4 => ?_
 have qD:Fx.aP w4 g3 1 (fun _ => .map (some g2)) 88:=Fx.je qV
 have aT:=Fx.gD.bP s4 m18.ty
 have sJ:=m19.aU aT (by decide)
 have mH:=m20.aU aT (by decide)
 have m32:=m21.aU aT trivial
 have mI:=m22.aU aT trivial
 have nO:=m23.aU aT trivial
 have qW:=m24.aU aT trivial
 have nu:=qC.aU aT (by decide)
 have vL:=oZ.aU aT (by decide)
 have vM:=qU.aU aT trivial
 have b4:=s4.below b3 b3.size (by omega)
 refine Ln (sN (Ws (Ws (Wl (Lv ((pt lp)) (ak (x:=fun _=>(pt lp)) rfl rfl (by kernel_rfl) vL.aL (i:=0) (by omega) (by omega) rfl) (Lv ((pt lp)) (aO rfl rfl) (Lv ((pf lp 18)) (au rfl rfl Tryd.underlying93 rfl (s:=1) (by kernel_rfl) rfl (by show _+18=_; omega)) (Lv ((pt m.tp)) (ak (x:=fM m) rfl rfl (by kernel_rfl) sJ.aL (i:=18) (by omega) (by omega) rfl) (Lv (.int .u64 (node)) (ah rfl rfl) (Fx.L.call (by rfl) (rC (args := [(pt m.tp),.int .u64 (node)]) rfl rfl Tryd.func31 rfl rfl) rfl ((Ea node mH).mono ?_)))))))))))
 rintro e9 w5 ⟨Ak,pc1,he,qE,hb1⟩
 refine⟨_,he,?_⟩
 clear he
 have s5:=Sb hb1
 have qm:=sJ.aC s5 sJ.ne
 have nP:=mH.up s5.old
 have oH:=m32.up s5.old
 have oo:=mI.up s5.old
 have tT:=nO.up s5.old
 have pq:=qW.up s5.old
 have qX:=nu.aC s5 nu.ne
 have uZ:=vL.aC s5 vL.ne
 have zl:=vM.up s5.old
 have sK:=qD.aC s5 qD.ne
 have b5:=s5.below b4 b4.size b4.size
 obtain⟨l,hl⟩ : ∃ q,q=cu.path m.T node:=⟨_,rfl⟩
 rw[<- hl]at qE ⊢
 have hl4:l.length<=4:=by rw[hl]; exact cu.tH
 refine Lv (.int .i64 ((l.length:Int))) (x_len rfl rfl rfl (by kernel_rfl)) (Lv (.int .i64 (0)) (ah rfl rfl) (Ln (sN (Fx.W.block ?_))))
 have ny:Fx.Mp w5 g2 0 (fun q=>l.getD q 0) (kZ m (fun x=>bf x v.o v.bL) l):=zl.mM fun i hi=>absurd hi (Nat.not_lt_zero _)
 refine Fx.W.loop (fun f w_ => ∃ i:Nat,i<=l.length/\iK (fun x=>bf x v.o v.bL) (fun i=>tN m (l.getD i 0)) i=0/\f 2 = .func (.func 158) #[] #[(pt ge)]/\f 3=(pt g1)/\f 8=(pt g3)/\f 19 = .slice Ak (l.length) (pc1)/\f 20 = .int .i64 ((l.length:Int))/\f 21 = .int .i64 ((i:Int))/\Fx.aP w_ lp 29 (fM m) 93/\mD w_ B m.tp m.mb m.T/\Fx.Mp w_ m.pb m.T.n m.T.x (vR m.T)/\Fx.Mp w_ m.rb m.T.n m.T.x (nX m.R)/\Fx.gH w_ m.gb m.gn (fun i=>m.g i 0) (fun i=>m.g i 1) (mF m.g)/\Fx.gH w_ m.ab m.an m.ao m.ar vS/\Fx.aP w_ ge 14 (aW v) 28/\Fx.aP w_ g1 1 (fun _=>(pt lp)) 44/\Fx.aP w_ g3 1 (fun _ => .map (some g2)) 88/\Fx.Own w_ w4.heap.size 22 1 (.slice Ak (l.length) (pc1)) l.length (mP l)/\Fx.Mp w_ g2 i (fun q=>l.getD q 0) (kZ m (fun x=>bf x v.o v.bL) l)/\Below w.heap.size w w_) (fun f _=>((l.length:Int)-intOf (f 21)).toNat) ⟨0,(by omega),rfl,(by rfl),(by rfl),(by rfl),(by rfl),Fx.ic,Fx.ic,qm,nP,oH,oo,tT,pq,qX,uZ,sK,qE,ny,b5⟩ ?_
 rintro f1 w6 ⟨i,hi,Nr,h1,h2,h3,h4,h5,h6,qo,tV,sM,rT,vN,uw,nQ,qY,qM,lM,qN,b6⟩
 refine Ws (Wl ?_)
 by_cases CK:(i:Int)<(l.length:Int)
 ·refine Lv (.bool true) (Fx.eG rfl h6 h5 CK) (Ln (sN (Ws (Wc (b:=true) rfl (fun _=>Wk (sN (Ws (Fx.W.block (Ws (Wl ?_)))))) (fun h=>nomatch h)))))
  obtain⟨BM,eq1⟩:=lM.addr (by omega)
  have oI:Fx.Own w6 w4.heap.size 22 1 (.slice (some ⟨BM,0,none⟩) l.length pc1) l.length (mP l):=lM.oP (congrArg (fun q=>Value.slice q l.length pc1) eq1)
  refine Lv ((pf BM i)) (av rfl (h4.trans (congrArg (fun q=>Value.slice q (l.length) (pc1)) eq1)) h6 Tryd.underlying53 (s:=1) (by kernel_rfl) (by omega) (by omega) (by omega)) (Lv (.int .u64 (l.getD i 0)) (ak (x:=mP l) rfl rfl (by kernel_rfl) oI.aL (i:=i) (by omega) (by omega) rfl) (Lv (.int .u64 (l.getD i 0)) (aj rfl rfl) (Ln (sN (Ws ?_)))))
  obtain⟨jz,hjz,xk⟩:=dW (cu.tL h.t.inv hl _ (mQ (show i<l.length by omega) rfl))
  have CX:tN m (l.getD i 0)=m.R jz:=by unfold tN dD.idx; rw[iU h.t.inv.inj hjz xk]
  refine Wl (Lv (.func (.func 158) #[] #[(pt ge)]) (ah rfl h1) (Lv ((pt lp)) (ak (x:=fun _=>(pt lp)) rfl h2 (by kernel_rfl) qY.aL (i:=0) (by omega) (by omega) rfl) (Lv ((pt lp)) (aO rfl rfl) (Lv ((pf lp 20)) (au rfl rfl Tryd.underlying93 rfl (s:=1) (by kernel_rfl) rfl (by show _+20=_; omega)) (Lv (.map (some m.rb)) (ak (x:=fM m) rfl rfl (by kernel_rfl) qo.aL (i:=20) (by omega) (by omega) rfl) (Lv (.int .u64 (l.getD i 0)) (ah rfl rfl) (Lv (.agg (Fx.ay 54 (Fx.rv .i64 (m.R jz)))) (Fx.nJ (z := .agg (Fx.ay 54 (Fx.rv .i64 (fun _=>0)))) rfl rfl rfl rT Tryd.underlying88 Tryd.underlying22 (by kernel_rfl) hjz xk rfl) (Fx.L.call (by rfl) (Fx.yV (args := [.agg (Fx.ay 54 (Fx.rv .i64 (m.R jz)))]) rfl rfl rfl (all := #[.agg (Fx.ay 54 (Fx.rv .i64 (m.R jz))),(pt ge)]) rfl Tryd.func158 rfl rfl) rfl ((KY (m.R jz) v ge _ ho nQ).mono ?_)))))))))
  rintro e w7 ⟨he,hb2⟩
  refine⟨.tuple #[.agg (Fx.ay 54 (Fx.rv .i64 ((bf (m.R jz) v.o v.bL).1))),.int .i64 ((bf (m.R jz) v.o v.bL).2)],by rw[he],?_⟩
  clear he
  have s6:=Sb hb2
  have sO:=qo.aC s6 qo.ne
  have m64:=tV.up s6.old
  have xD:=sM.up s6.old
  have zm:=rT.up s6.old
  have yA:=vN.up s6.old
  have yB:=uw.up s6.old
  have tX:=nQ.aC s6 nQ.ne
  have yK:=qY.aC s6 qY.ne
  have vO:=qM.aC s6 qM.ne
  have xE:=qN.up s6.old
  have sP:=oI.bO s6 (Nat.ne_of_lt (oI.lt))
  have b7:=s6.below b6 b6.size b6.size
  refine Lv (.tuple #[.agg (Fx.ay 54 (Fx.rv .i64 ((bf (m.R jz) v.o v.bL).1))),.int .i64 ((bf (m.R jz) v.o v.bL).2)]) (ah rfl rfl) (Lv (.agg (Fx.ay 54 (Fx.rv .i64 ((bf (m.R jz) v.o v.bL).1)))) (Fx.aD rfl rfl rfl) (Lv (.int .i64 ((bf (m.R jz) v.o v.bL).2)) (Fx.aD rfl rfl rfl) (Fx.L.new (m:=54) (y:=Fx.rv .i64 (fun _=>0)) (by rfl) rfl (by kernel_rfl) rfl fun g4 w8 gT zn s7 z5 => ?_)))
  have xG:=sO.aC s7 sO.ne
  have Aq:=m64.up s7.old
  have Ce:=xD.up s7.old
  have Cg:=zm.up s7.old
  have Ch:=yA.up s7.old
  have vP:=yB.up s7.old
  have yC:=tX.aC s7 tX.ne
  have Ar:=yK.aC s7 yK.ne
  have DF:=vO.aC s7 vO.ne
  have Fw:=xE.up s7.old
  have GY:=sP.bO s7 (Nat.ne_of_lt (sP.lt))
  have b8:=s7.below b7 b7.size b7.size
  have wH:w.heap.size<=g4:=by rw[gT]; exact b7.size
  have R4:lp≠g4:=by rw[gT]; exact Nat.ne_of_lt (sO.lt)
  have R5:m.pb≠g4:=by rw[gT]; exact Nat.ne_of_lt (xD.lt)
  have R6:m.rb≠g4:=by rw[gT]; exact Nat.ne_of_lt (zm.lt)
  have R7:m.gb≠g4:=by rw[gT]; exact Nat.ne_of_lt (yA.lt)
  have YT:m.ab≠g4:=by rw[gT]; exact Nat.ne_of_lt (yB.lt)
  have YU:ge≠g4:=by rw[gT]; exact Nat.ne_of_lt (tX.lt)
  have SA:g1≠g4:=by rw[gT]; exact Nat.ne_of_lt (yK.lt)
  have YV:g3≠g4:=by rw[gT]; exact Nat.ne_of_lt (vO.lt)
  have SB:g2≠g4:=by rw[gT]; exact Nat.ne_of_lt (xE.lt)
  have SC:BM≠g4:=by rw[gT]; exact Nat.ne_of_lt (sP.lt)
  have M6:g4<w8.heap.size:=zn.lt
  clear gT
  refine Fx.L.dY (x:=Fx.rv .i64 (fun _=>0)) (y:=Fx.rv .i64 ((bf (m.R jz) v.o v.bL).1)) (by rfl) rfl rfl rfl rfl (fun _ _=>rfl) (by kernel_rfl) zn (i:=0) (by omega) fun w9 GZ s8 z6 => ?_
  have Ci:Fx.aP w9 g4 54 (Fx.rv .i64 ((bf (m.R jz) v.o v.bL).1)) 82:=Fx.dF GZ
  have dL:=Fx.gD.bP s8 zn.ty
  have D9:=xG.aU dL (by decide)
  have G5:=Aq.aU dL (by decide)
  have Fy:=Ce.aU dL trivial
  have IC:=Cg.aU dL trivial
  have IE:=Ch.aU dL trivial
  have F4:=vP.aU dL trivial
  have H8:=yC.aU dL (by decide)
  have DL:=Ar.aU dL (by decide)
  have KP:=DF.aU dL (by decide)
  have IG:=Fw.aU dL trivial
  have LY:=GY.aU dL (by decide)
  have b9:=s8.below b8 b8.size (by omega)
  refine Lv (.int .i64 ((bf (m.R jz) v.o v.bL).2)) (aj rfl rfl) (Ln (sN (Ws (Ws (Wl (Lv (.int .i64 ((bf (m.R jz) v.o v.bL).2)) (ah rfl rfl) ?_))))))
  by_cases c37:((bf (m.R jz) v.o v.bL).2)=0
  ·refine Lv (.bool false) (Fx.gu rfl rfl rfl c37) (Ln (sN (Wc (b:=false) rfl (fun h=>nomatch h) (fun _=>Wk (sN ?_)))))
   have hnd:l.Nodup:=by rw[hl]; exact cu.rM h.t.inv node
   have hny : ∀ q,q<i->(fun q=>l.getD q 0) q≠l.getD i 0:=fun q hq e=>by have:=uN hnd (show q<l.length by omega) (show i<l.length by omega) e; omega
   refine Wl (Lv (.map (some g2)) (ak (x:=fun _ => .map (some g2)) rfl h3 (by kernel_rfl) KP.aL (i:=0) (by omega) (by omega) rfl) (Lv (.int .u64 (l.getD i 0)) (ah rfl rfl) (Lv (.agg (Fx.ay 54 (Fx.rv .i64 ((bf (m.R jz) v.o v.bL).1)))) (aK (x:=Fx.rv .i64 ((bf (m.R jz) v.o v.bL).1)) (y:=Fx.rv .i64 ((bf (m.R jz) v.o v.bL).1)) rfl rfl (by kernel_rfl) (by kernel_rfl) Ci.aL (i:=0) (by omega) (by omega) (fun j _=>by rw[Nat.zero_add])) (Fx.L.GJ (by rfl) rfl rfl rfl rfl rfl IG Tryd.underlying88 Tryd.underlying22 hny fun wo LZ s9 z7 => ?_))))
   have hcm1:=IG.uX s9
   have Db:=D9.bY hcm1
   have xV:=G5.bY hcm1 (by omega)
   have vW:=Fy.bY hcm1 (by omega)
   have vX:=IC.bY hcm1 (by omega)
   have Dh:=IE.bY hcm1 (by omega)
   have xX:=F4.bY hcm1 (by omega)
   have xY:=H8.bY hcm1
   have xZ:=DL.bY hcm1
   have vY:=KP.bY hcm1
   have yO:=LY.bY hcm1
   have Di:=Ci.bY hcm1
   have b10:=s9.below b9 b9.size (by omega)
   have A8:Fx.Mp wo g2 (i+1) (fun q=>l.getD q 0) (kZ m (fun x=>bf x v.o v.bL) l):=zR LZ (by rw[CX])
   refine Ln (Fx.dV (sN (Wl (Lv (.int .i64 ((i:Int)+1)) (Fx.aS rfl h6 rfl Fx.io) (Lv (.int .i64 ((i:Int)+1)) (ah rfl rfl) (Ln ?_))))))
   have EN:Fx.Own wo w4.heap.size 22 1 (.slice Ak (l.length) (pc1)) l.length (mP l):=yO.oP (congrArg (fun q=>Value.slice q l.length pc1) eq1.symm)
   refine Fx.kg ⟨i+1,(by omega),(zQ Nr (by rw[CX]; exact c37)),h1,h2,h3,h4,(h5.trans Fx.ic),Fx.ic,Db,xV,vW,vX,Dh,xX,xY,xZ,vY,EN,A8,b10⟩ ?_
   show((l.length:Int)-intOf ((.int .i64 ((i:Int)+1)))).toNat<_
   simp only[h6,intOf]; omega
  refine Lv (.bool true) (Fx.jd rfl rfl rfl c37) (Ln (sN (Wc (b:=true) rfl (fun _=>Ws (Wl (Lv (.int .i64 ((bf (m.R jz) v.o v.bL).2)) (ah rfl rfl) ?_))) (fun h=>nomatch h))))
  refine Lv (.nilFunc) (aj rfl rfl) (Lv (.int .i64 ((bf (m.R jz) v.o v.bL).2)) (aj rfl rfl) (Ln (sN (Wr (sR (Fx.dH (sR (Fx.DT (Fx.dH (sR (⟨.tuple #[.nilFunc,.int .i64 ((bf (m.R jz) v.o v.bL).2)],Fx.cB Tryd.results157 (by exact rfl) (by exact rfl),?_⟩)))))))))))
  have hEq:bR m (fun x=>bf x v.o v.bL) l=(bf (m.R jz) v.o v.bL).2:=by unfold bR; rw[rO Nr (by rw[CX]; exact c37) _ (by omega),CX]
  exact⟨⟨.nilFunc,0,#[],by rw[hEq],rfl,fun e0=>absurd (hEq.symm.trans e0) (by first|decide|omega|assumption)⟩,b9⟩
 refine Lv (.bool false) (Fx.dX rfl h6 h5 CK) (Ln (sN (Ws (Wc (b:=false) rfl (fun h=>nomatch h) (fun _=>Fx.W.exit (Fx.dQ (Fx.jC (Fx.dR (sN (Ws (Wl (Lv (.func (.func 170) #[] #[(pt g3),(pt g1)]) (Fx.jf (us := []) (vs := [(pt g3),(pt g1)]) rfl rfl (Fx.args2 h3 h2)) (Lv (.func (.func 170) #[] #[(pt g3),(pt g1)]) (aj rfl rfl) (Lv (.int .i64 (0)) (aj rfl rfl) (Ln (sN (Wr (⟨.tuple #[.func (.func 170) #[] #[(pt g3),(pt g1)],.int .i64 (0)],Fx.cB Tryd.results157 (by exact rfl) (by exact rfl),?_⟩))))))))))))))))))
 have hil:i=l.length:=by omega
 rw[hil]at qN Nr
 have hgm:m.rb≠g2/\m.mb≠g2/\m.pb≠g2/\m.gb≠g2/\m.ab≠g2:=⟨by omega,by omega,by omega,by omega,by omega⟩
 have hEq:bR m (fun x=>bf x v.o v.bL) l=0:=Nr
 exact⟨⟨_,170,#[(pt g3),(pt g1)],by rw[hEq],rfl,fun _=>⟨rfl,⟨_,_,Tryd.func170,rfl,rfl⟩,fun w2 hb2=>(Dj m lp B w2 ((h.up b6).up hb2) (fun x=>bf x v.o v.bL) l g2 hgm (cu.tL h.t.inv hl) (qN.up hb2) _ _ (qM.aC (Sb hb2) (Nat.ne_of_lt qM.lt)) (qY.aC (Sb hb2) (Nat.ne_of_lt qY.lt))).mono fun _ _ hc=>⟨hc.1,hc.2.1,hc.2.2.mono fun _ hk => .inl hk⟩⟩⟩,b6⟩
theorem K7(m:dD)(lp B:Nat)(w:World)(h:iT w B lp m)(node:Int)(v:EvM)(g:Nat->Int)(ho:1<=v.o/\v.o<=6)(ge gg:Nat)(he:Fx.aP w ge 14 (aW v) 28)(hgr:Fx.aP w gg 5 (iJ g) 99) :
 Calls Tryd.prog 157 #[(pt lp),.int .u64 (node),.func (.func 161) #[] #[(pt ge),(pt gg)]] w fun e w'=>Iz w B lp m (kY m (fun x=>bA x v.o (g 3)) (m.T.path node)) (bR m (fun x=>bA x v.o (g 3)) (m.T.path node)) e w':=by
 have hC:=h.c
 have hT:=h.t
 have hP:=h.p
 have hR:=h.r
 have hG:=h.g
 have hA:=h.a
 have hN:=h.ne
 have lC:=h.c.lt
 have lT:=h.t.lt
 have lP:=h.p.lt
 have lR:=h.r.lt
 have lG:=h.g.lt
 have lA:=h.a.lt
 have LX:=he.lt
 have lgg:=hgr.lt
 refine Fx.enter Tryd.func157 rfl (n:=44) rfl (by rfl) ?_
 refine Ws (Wl (Fx.L.box (m:=1) (y:=fun _=>(pt lp)) (by rfl) rfl rfl (Fx.cells_one (by rfl)) rfl fun g1 w1 aZ m1 s1 z1 => ?_))
 have m2:=hC.aC s1 hC.ne
 have m3:=hT.up s1.old
 have m4:=hP.up s1.old
 have m5:=hR.up s1.old
 have m6:=hG.up s1.old
 have m7:=hA.up s1.old
 have m8:=he.aC s1 he.ne
 have m9:=hgr.aC s1 hgr.ne
 have b1:=s1.below (Below.refl w.heap.size w) (Below.refl w.heap.size w).size (Below.refl w.heap.size w).size
 have kM:w.heap.size<=g1:=by rw[aZ]; exact(Below.refl w.heap.size w).size
 have jk:lp≠g1:=by rw[aZ]; exact Nat.ne_of_lt (hC.lt)
 have nk:m.pb≠g1:=by rw[aZ]; exact Nat.ne_of_lt (hP.lt)
 have oC:m.rb≠g1:=by rw[aZ]; exact Nat.ne_of_lt (hR.lt)
 have oD:m.gb≠g1:=by rw[aZ]; exact Nat.ne_of_lt (hG.lt)
 have oF:m.ab≠g1:=by rw[aZ]; exact Nat.ne_of_lt (hA.lt)
 have F5:ge≠g1:=by rw[aZ]; exact Nat.ne_of_lt (he.lt)
 have acs:gg≠g1:=by rw[aZ]; exact Nat.ne_of_lt (hgr.lt)
 have mO:g1<w1.heap.size:=m1.lt
 clear aZ
 refine Lv (.nilFunc) (aj rfl rfl) (Lv (.int .i64 (0)) (aj rfl rfl) (Ln (sN (Ws (Wl (Fx.L.Bz (by rfl) rfl rfl fun g2 w2 bS m10 s2 z2 => ?_))))))
 have m11:=m2.aC s2 m2.ne
 have m12:=m3.up s2.old
 have m13:=m4.up s2.old
 have m14:=m5.up s2.old
 have m15:=m6.up s2.old
 have m16:=m7.up s2.old
 have m17:=m8.aC s2 m8.ne
 have m18:=m9.aC s2 m9.ne
 have m19:=m1.aC s2 m1.ne
 have b2:=s2.below b1 b1.size b1.size
 have su:w.heap.size<=g2:=by rw[bS]; exact b1.size
 have uI:lp≠g2:=by rw[bS]; exact Nat.ne_of_lt (m2.lt)
 have rF:m.pb≠g2:=by rw[bS]; exact Nat.ne_of_lt (m4.lt)
 have rG:m.rb≠g2:=by rw[bS]; exact Nat.ne_of_lt (m5.lt)
 have pz:m.gb≠g2:=by rw[bS]; exact Nat.ne_of_lt (m6.lt)
 have JD:m.ab≠g2:=by rw[bS]; exact Nat.ne_of_lt (m7.lt)
 have JE:ge≠g2:=by rw[bS]; exact Nat.ne_of_lt (m8.lt)
 have Sr:gg≠g2:=by rw[bS]; exact Nat.ne_of_lt (m9.lt)
 have YW:g1≠g2:=by rw[bS]; exact Nat.ne_of_lt (m1.lt)
 have vK:g2<w2.heap.size:=m10.lt
 clear bS
 refine Fx.L.new (m:=1) (y:=fun _ => .map none) (by rfl) rfl (by kernel_rfl) rfl fun g3 w3 iq m20 s3 z3 => ?_
 have m21:=m11.aC s3 m11.ne
 have m22:=m12.up s3.old
 have m23:=m13.up s3.old
 have m24:=m14.up s3.old
 have qC:=m15.up s3.old
 have oZ:=m16.up s3.old
 have qU:=m17.aC s3 m17.ne
 have qV:=m18.aC s3 m18.ne
 have qD:=m19.aC s3 m19.ne
 have sJ:=m10.up s3.old
 have b3:=s3.below b2 b2.size b2.size
 have uY:w.heap.size<=g3:=by rw[iq]; exact b2.size
 have K4:lp≠g3:=by rw[iq]; exact Nat.ne_of_lt (m11.lt)
 have K5:m.pb≠g3:=by rw[iq]; exact Nat.ne_of_lt (m13.lt)
 have K6:m.rb≠g3:=by rw[iq]; exact Nat.ne_of_lt (m14.lt)
 have EF:m.gb≠g3:=by rw[iq]; exact Nat.ne_of_lt (m15.lt)
 have Sz:m.ab≠g3:=by rw[iq]; exact Nat.ne_of_lt (m16.lt)
 have EG:ge≠g3:=by rw[iq]; exact Nat.ne_of_lt (m17.lt)
 have KD:gg≠g3:=by rw[iq]; exact Nat.ne_of_lt (m18.lt)
 have KE:g1≠g3:=by rw[iq]; exact Nat.ne_of_lt (m19.lt)
 have KF:g2≠g3:=by rw[iq]; exact Nat.ne_of_lt (m10.lt)
 have LW:g3<w3.heap.size:=m20.lt
 clear iq
 refine Fx.L.bV (x:=fun _ => .map none) (u := .map (some g2)) (by rfl) rfl rfl rfl rfl (by rfl) (by kernel_rfl) m20 (i:=0) (by omega) fun w4 mH s4 z4 => ?_
 have m32:Fx.aP w4 g3 1 (fun _ => .map (some g2)) 88:=Fx.je mH
 have aT:=Fx.gD.bP s4 m20.ty
 have mI:=m21.aU aT (by decide)
 have nO:=m22.aU aT (by decide)
 have qW:=m23.aU aT trivial
 have nu:=m24.aU aT trivial
 have vL:=qC.aU aT trivial
 have vM:=oZ.aU aT trivial
 have qE:=qU.aU aT (by decide)
 have qm:=qV.aU aT (by decide)
 have nP:=qD.aU aT (by decide)
 have oH:=sJ.aU aT trivial
 have b4:=s4.below b3 b3.size (by omega)
 refine Ln (sN (Ws (Ws (Wl (Lv ((pt lp)) (ak (x:=fun _=>(pt lp)) rfl rfl (by kernel_rfl) nP.aL (i:=0) (by omega) (by omega) rfl) (Lv ((pt lp)) (aO rfl rfl) (Lv ((pf lp 18)) (au rfl rfl Tryd.underlying93 rfl (s:=1) (by kernel_rfl) rfl (by show _+18=_; omega)) (Lv ((pt m.tp)) (ak (x:=fM m) rfl rfl (by kernel_rfl) mI.aL (i:=18) (by omega) (by omega) rfl) (Lv (.int .u64 (node)) (ah rfl rfl) (Fx.L.call (by rfl) (rC (args := [(pt m.tp),.int .u64 (node)]) rfl rfl Tryd.func31 rfl rfl) rfl ((Ea node nO).mono ?_)))))))))))
 rintro e9 w5 ⟨Ak,pc1,he,oo,hb1⟩
 refine⟨_,he,?_⟩
 clear he
 have s5:=Sb hb1
 have tT:=mI.aC s5 mI.ne
 have pq:=nO.up s5.old
 have qX:=qW.up s5.old
 have uZ:=nu.up s5.old
 have zl:=vL.up s5.old
 have sK:=vM.up s5.old
 have ny:=qE.aC s5 qE.ne
 have qo:=qm.aC s5 qm.ne
 have tV:=nP.aC s5 nP.ne
 have sM:=oH.up s5.old
 have rT:=m32.aC s5 m32.ne
 have b5:=s5.below b4 b4.size b4.size
 obtain⟨l,hl⟩ : ∃ q,q=cu.path m.T node:=⟨_,rfl⟩
 rw[<- hl]at oo ⊢
 have hl4:l.length<=4:=by rw[hl]; exact cu.tH
 refine Lv (.int .i64 ((l.length:Int))) (x_len rfl rfl rfl (by kernel_rfl)) (Lv (.int .i64 (0)) (ah rfl rfl) (Ln (sN (Fx.W.block ?_))))
 have vN:Fx.Mp w5 g2 0 (fun q=>l.getD q 0) (kZ m (fun x=>bA x v.o (g 3)) l):=sM.mM fun i hi=>absurd hi (Nat.not_lt_zero _)
 refine Fx.W.loop (fun f w_ => ∃ i:Nat,i<=l.length/\iK (fun x=>bA x v.o (g 3)) (fun i=>tN m (l.getD i 0)) i=0/\f 2 = .func (.func 161) #[] #[(pt ge),(pt gg)]/\f 3=(pt g1)/\f 8=(pt g3)/\f 19 = .slice Ak (l.length) (pc1)/\f 20 = .int .i64 ((l.length:Int))/\f 21 = .int .i64 ((i:Int))/\Fx.aP w_ lp 29 (fM m) 93/\mD w_ B m.tp m.mb m.T/\Fx.Mp w_ m.pb m.T.n m.T.x (vR m.T)/\Fx.Mp w_ m.rb m.T.n m.T.x (nX m.R)/\Fx.gH w_ m.gb m.gn (fun i=>m.g i 0) (fun i=>m.g i 1) (mF m.g)/\Fx.gH w_ m.ab m.an m.ao m.ar vS/\Fx.aP w_ ge 14 (aW v) 28/\Fx.aP w_ gg 5 (iJ g) 99/\Fx.aP w_ g1 1 (fun _=>(pt lp)) 44/\Fx.aP w_ g3 1 (fun _ => .map (some g2)) 88/\Fx.Own w_ w4.heap.size 22 1 (.slice Ak (l.length) (pc1)) l.length (mP l)/\Fx.Mp w_ g2 i (fun q=>l.getD q 0) (kZ m (fun x=>bA x v.o (g 3)) l)/\Below w.heap.size w w_) (fun f _=>((l.length:Int)-intOf (f 21)).toNat) ⟨0,(by omega),rfl,(by rfl),(by rfl),(by rfl),(by rfl),Fx.ic,Fx.ic,tT,pq,qX,uZ,zl,sK,ny,qo,tV,rT,oo,vN,b5⟩ ?_
 rintro f1 w6 ⟨i,hi,Nr,h1,h2,h3,h4,h5,h6,uw,nQ,qY,qM,lM,qN,oI,sO,m64,xD,zm,yA,b6⟩
 refine Ws (Wl ?_)
 by_cases CK:(i:Int)<(l.length:Int)
 ·refine Lv (.bool true) (Fx.eG rfl h6 h5 CK) (Ln (sN (Ws (Wc (b:=true) rfl (fun _=>Wk (sN (Ws (Fx.W.block (Ws (Wl ?_)))))) (fun h=>nomatch h)))))
  obtain⟨BM,eq1⟩:=zm.addr (by omega)
  have yB:Fx.Own w6 w4.heap.size 22 1 (.slice (some ⟨BM,0,none⟩) l.length pc1) l.length (mP l):=zm.oP (congrArg (fun q=>Value.slice q l.length pc1) eq1)
  refine Lv ((pf BM i)) (av rfl (h4.trans (congrArg (fun q=>Value.slice q (l.length) (pc1)) eq1)) h6 Tryd.underlying53 (s:=1) (by kernel_rfl) (by omega) (by omega) (by omega)) (Lv (.int .u64 (l.getD i 0)) (ak (x:=mP l) rfl rfl (by kernel_rfl) yB.aL (i:=i) (by omega) (by omega) rfl) (Lv (.int .u64 (l.getD i 0)) (aj rfl rfl) (Ln (sN (Ws ?_)))))
  obtain⟨jz,hjz,xk⟩:=dW (cu.tL h.t.inv hl _ (mQ (show i<l.length by omega) rfl))
  have CX:tN m (l.getD i 0)=m.R jz:=by unfold tN dD.idx; rw[iU h.t.inv.inj hjz xk]
  refine Wl (Lv (.func (.func 161) #[] #[(pt ge),(pt gg)]) (ah rfl h1) (Lv ((pt lp)) (ak (x:=fun _=>(pt lp)) rfl h2 (by kernel_rfl) m64.aL (i:=0) (by omega) (by omega) rfl) (Lv ((pt lp)) (aO rfl rfl) (Lv ((pf lp 20)) (au rfl rfl Tryd.underlying93 rfl (s:=1) (by kernel_rfl) rfl (by show _+20=_; omega)) (Lv (.map (some m.rb)) (ak (x:=fM m) rfl rfl (by kernel_rfl) uw.aL (i:=20) (by omega) (by omega) rfl) (Lv (.int .u64 (l.getD i 0)) (ah rfl rfl) (Lv (.agg (Fx.ay 54 (Fx.rv .i64 (m.R jz)))) (Fx.nJ (z := .agg (Fx.ay 54 (Fx.rv .i64 (fun _=>0)))) rfl rfl rfl qM Tryd.underlying88 Tryd.underlying22 (by kernel_rfl) hjz xk rfl) (Fx.L.call (by rfl) (Fx.yV (args := [.agg (Fx.ay 54 (Fx.rv .i64 (m.R jz)))]) rfl rfl rfl (all := #[.agg (Fx.ay 54 (Fx.rv .i64 (m.R jz))),(pt ge),(pt gg)]) rfl Tryd.func161 rfl rfl) rfl ((KZ (m.R jz) v g ge gg _ ho oI sO).mono ?_)))))))))
  rintro e w7 ⟨he,hb2⟩
  refine⟨.tuple #[.agg (Fx.ay 54 (Fx.rv .i64 ((bA (m.R jz) v.o (g 3)).1))),.int .i64 ((bA (m.R jz) v.o (g 3)).2)],by rw[he],?_⟩
  clear he
  have s6:=Sb hb2
  have tX:=uw.aC s6 uw.ne
  have yK:=nQ.up s6.old
  have vO:=qY.up s6.old
  have xE:=qM.up s6.old
  have sP:=lM.up s6.old
  have zn:=qN.up s6.old
  have xG:=oI.aC s6 oI.ne
  have Aq:=sO.aC s6 sO.ne
  have Ce:=m64.aC s6 m64.ne
  have Cg:=xD.aC s6 xD.ne
  have Ch:=yA.up s6.old
  have vP:=yB.bO s6 (Nat.ne_of_lt (yB.lt))
  have b7:=s6.below b6 b6.size b6.size
  refine Lv (.tuple #[.agg (Fx.ay 54 (Fx.rv .i64 ((bA (m.R jz) v.o (g 3)).1))),.int .i64 ((bA (m.R jz) v.o (g 3)).2)]) (ah rfl rfl) (Lv (.agg (Fx.ay 54 (Fx.rv .i64 ((bA (m.R jz) v.o (g 3)).1)))) (Fx.aD rfl rfl rfl) (Lv (.int .i64 ((bA (m.R jz) v.o (g 3)).2)) (Fx.aD rfl rfl rfl) (Fx.L.new (m:=54) (y:=Fx.rv .i64 (fun _=>0)) (by rfl) rfl (by kernel_rfl) rfl fun g4 w8 gT yC s7 z5 => ?_)))
  have Ar:=tX.aC s7 tX.ne
  have DF:=yK.up s7.old
  have Fw:=vO.up s7.old
  have GY:=xE.up s7.old
  have GZ:=sP.up s7.old
  have Ci:=zn.up s7.old
  have D9:=xG.aC s7 xG.ne
  have G5:=Aq.aC s7 Aq.ne
  have Fy:=Ce.aC s7 Ce.ne
  have IC:=Cg.aC s7 Cg.ne
  have IE:=Ch.up s7.old
  have F4:=vP.bO s7 (Nat.ne_of_lt (vP.lt))
  have b8:=s7.below b7 b7.size b7.size
  have wH:w.heap.size<=g4:=by rw[gT]; exact b7.size
  have SA:lp≠g4:=by rw[gT]; exact Nat.ne_of_lt (tX.lt)
  have SB:m.pb≠g4:=by rw[gT]; exact Nat.ne_of_lt (vO.lt)
  have SC:m.rb≠g4:=by rw[gT]; exact Nat.ne_of_lt (xE.lt)
  have YX:m.gb≠g4:=by rw[gT]; exact Nat.ne_of_lt (sP.lt)
  have YZ:m.ab≠g4:=by rw[gT]; exact Nat.ne_of_lt (zn.lt)
  have Y0:ge≠g4:=by rw[gT]; exact Nat.ne_of_lt (xG.lt)
  have Y1:gg≠g4:=by rw[gT]; exact Nat.ne_of_lt (Aq.lt)
  have Y2:g1≠g4:=by rw[gT]; exact Nat.ne_of_lt (Ce.lt)
  have Y3:g3≠g4:=by rw[gT]; exact Nat.ne_of_lt (Cg.lt)
  have Y4:g2≠g4:=by rw[gT]; exact Nat.ne_of_lt (Ch.lt)
  have Y5:BM≠g4:=by rw[gT]; exact Nat.ne_of_lt (vP.lt)
  have M6:g4<w8.heap.size:=yC.lt
  clear gT
  refine Fx.L.dY (x:=Fx.rv .i64 (fun _=>0)) (y:=Fx.rv .i64 ((bA (m.R jz) v.o (g 3)).1)) (by rfl) rfl rfl rfl rfl (fun _ _=>rfl) (by kernel_rfl) yC (i:=0) (by omega) fun w9 H8 s8 z6 => ?_
  have DL:Fx.aP w9 g4 54 (Fx.rv .i64 ((bA (m.R jz) v.o (g 3)).1)) 82:=Fx.dF H8
  have dL:=Fx.gD.bP s8 yC.ty
  have KP:=Ar.aU dL (by decide)
  have IG:=DF.aU dL (by decide)
  have LY:=Fw.aU dL trivial
  have LZ:=GY.aU dL trivial
  have Db:=GZ.aU dL trivial
  have xV:=Ci.aU dL trivial
  have vW:=D9.aU dL (by decide)
  have vX:=G5.aU dL (by decide)
  have Dh:=Fy.aU dL (by decide)
  have xX:=IC.aU dL (by decide)
  have xY:=IE.aU dL trivial
  have xZ:=F4.aU dL (by decide)
  have b9:=s8.below b8 b8.size (by omega)
  refine Lv (.int .i64 ((bA (m.R jz) v.o (g 3)).2)) (aj rfl rfl) (Ln (sN (Ws (Ws (Wl (Lv (.int .i64 ((bA (m.R jz) v.o (g 3)).2)) (ah rfl rfl) ?_))))))
  by_cases c37:((bA (m.R jz) v.o (g 3)).2)=0
  ·refine Lv (.bool false) (Fx.gu rfl rfl rfl c37) (Ln (sN (Wc (b:=false) rfl (fun h=>nomatch h) (fun _=>Wk (sN ?_)))))
   have hnd:l.Nodup:=by rw[hl]; exact cu.rM h.t.inv node
   have hny : ∀ q,q<i->(fun q=>l.getD q 0) q≠l.getD i 0:=fun q hq e=>by have:=uN hnd (show q<l.length by omega) (show i<l.length by omega) e; omega
   refine Wl (Lv (.map (some g2)) (ak (x:=fun _ => .map (some g2)) rfl h3 (by kernel_rfl) xX.aL (i:=0) (by omega) (by omega) rfl) (Lv (.int .u64 (l.getD i 0)) (ah rfl rfl) (Lv (.agg (Fx.ay 54 (Fx.rv .i64 ((bA (m.R jz) v.o (g 3)).1)))) (aK (x:=Fx.rv .i64 ((bA (m.R jz) v.o (g 3)).1)) (y:=Fx.rv .i64 ((bA (m.R jz) v.o (g 3)).1)) rfl rfl (by kernel_rfl) (by kernel_rfl) DL.aL (i:=0) (by omega) (by omega) (fun j _=>by rw[Nat.zero_add])) (Fx.L.GJ (by rfl) rfl rfl rfl rfl rfl xY Tryd.underlying88 Tryd.underlying22 hny fun wo vY s9 z7 => ?_))))
   have hcm1:=xY.uX s9
   have yO:=KP.bY hcm1
   have Di:=IG.bY hcm1 (by omega)
   have A8:=LY.bY hcm1 (by omega)
   have EN:=LZ.bY hcm1 (by omega)
   have Nl:=Db.bY hcm1 (by omega)
   have Nn:=xV.bY hcm1 (by omega)
   have Np:=vW.bY hcm1
   have Vp:=vX.bY hcm1
   have KU:=Dh.bY hcm1
   have KV:=xX.bY hcm1
   have yP:=xZ.bY hcm1
   have KW:=DL.bY hcm1
   have b10:=s9.below b9 b9.size (by omega)
   have Ib:Fx.Mp wo g2 (i+1) (fun q=>l.getD q 0) (kZ m (fun x=>bA x v.o (g 3)) l):=zR vY (by rw[CX])
   refine Ln (Fx.dV (sN (Wl (Lv (.int .i64 ((i:Int)+1)) (Fx.aS rfl h6 rfl Fx.io) (Lv (.int .i64 ((i:Int)+1)) (ah rfl rfl) (Ln ?_))))))
   have Ie:Fx.Own wo w4.heap.size 22 1 (.slice Ak (l.length) (pc1)) l.length (mP l):=yP.oP (congrArg (fun q=>Value.slice q l.length pc1) eq1.symm)
   refine Fx.kg ⟨i+1,(by omega),(zQ Nr (by rw[CX]; exact c37)),h1,h2,h3,h4,(h5.trans Fx.ic),Fx.ic,yO,Di,A8,EN,Nl,Nn,Np,Vp,KU,KV,Ie,Ib,b10⟩ ?_
   show((l.length:Int)-intOf ((.int .i64 ((i:Int)+1)))).toNat<_
   simp only[h6,intOf]; omega
  refine Lv (.bool true) (Fx.jd rfl rfl rfl c37) (Ln (sN (Wc (b:=true) rfl (fun _=>Ws (Wl (Lv (.int .i64 ((bA (m.R jz) v.o (g 3)).2)) (ah rfl rfl) ?_))) (fun h=>nomatch h))))
  refine Lv (.nilFunc) (aj rfl rfl) (Lv (.int .i64 ((bA (m.R jz) v.o (g 3)).2)) (aj rfl rfl) (Ln (sN (Wr (sR (Fx.dH (sR (Fx.DT (Fx.dH (sR (⟨.tuple #[.nilFunc,.int .i64 ((bA (m.R jz) v.o (g 3)).2)],Fx.cB Tryd.results157 (by exact rfl) (by exact rfl),?_⟩)))))))))))
  have hEq:bR m (fun x=>bA x v.o (g 3)) l=(bA (m.R jz) v.o (g 3)).2:=by unfold bR; rw[rO Nr (by rw[CX]; exact c37) _ (by omega),CX]
  exact⟨⟨.nilFunc,0,#[],by rw[hEq],rfl,fun e0=>absurd (hEq.symm.trans e0) (by first|decide|omega|assumption)⟩,b9⟩
 refine Lv (.bool false) (Fx.dX rfl h6 h5 CK) (Ln (sN (Ws (Wc (b:=false) rfl (fun h=>nomatch h) (fun _=>Fx.W.exit (Fx.dQ (Fx.jC (Fx.dR (sN (Ws (Wl (Lv (.func (.func 170) #[] #[(pt g3),(pt g1)]) (Fx.jf (us := []) (vs := [(pt g3),(pt g1)]) rfl rfl (Fx.args2 h3 h2)) (Lv (.func (.func 170) #[] #[(pt g3),(pt g1)]) (aj rfl rfl) (Lv (.int .i64 (0)) (aj rfl rfl) (Ln (sN (Wr (⟨.tuple #[.func (.func 170) #[] #[(pt g3),(pt g1)],.int .i64 (0)],Fx.cB Tryd.results157 (by exact rfl) (by exact rfl),?_⟩))))))))))))))))))
 have hil:i=l.length:=by omega
 rw[hil]at yA Nr
 have hgm:m.rb≠g2/\m.mb≠g2/\m.pb≠g2/\m.gb≠g2/\m.ab≠g2:=⟨by omega,by omega,by omega,by omega,by omega⟩
 have hEq:bR m (fun x=>bA x v.o (g 3)) l=0:=Nr
 exact⟨⟨_,170,#[(pt g3),(pt g1)],by rw[hEq],rfl,fun _=>⟨rfl,⟨_,_,Tryd.func170,rfl,rfl⟩,fun w2 hb2=>(Dj m lp B w2 ((h.up b6).up hb2) (fun x=>bA x v.o (g 3)) l g2 hgm (cu.tL h.t.inv hl) (yA.up hb2) _ _ (xD.aC (Sb hb2) (Nat.ne_of_lt xD.lt)) (m64.aC (Sb hb2) (Nat.ne_of_lt m64.lt))).mono fun _ _ hc=>⟨hc.1,hc.2.1,hc.2.2.mono fun _ hk => .inl hk⟩⟩⟩,b6⟩
section
set_option maxRecDepth 20000
set_option linter.unusedVariables false
namespace Rt
def yQ(k1 k2:Nat->Int):Nat->Int->Int->Bool
 | 0,_,_=>false
 | n+1,a,b=>(decide (k1 n=a)&&decide (k2 n=b)) || yQ k1 k2 n a b
def Ns(k1 k2:Nat->Int):Nat->Int->Int->Nat
 | 0,_,_=>0
 | n+1,a,b=>if k1 n=a/\k2 n=b then n else Ns k1 k2 n a b
section
variable {k1 k2:Nat->Int} {a b:Int}
theorem lu : ∀ {n:Nat},yQ k1 k2 n a b=true <-> ∃ j,j<n/\k1 j=a/\k2 j=b
 | 0=>⟨fun h=>(nomatch h),fun⟨j,h,_⟩=>absurd h (Nat.not_lt_zero _)⟩
 | n+1=>by
   unfold yQ
   rw[Bool.or_eq_true,Bool.and_eq_true,decide_eq_true_iff,decide_eq_true_iff,lu]
   constructor
   ·rintro (⟨h1,h2⟩|⟨j,h1,h2,h3⟩)
    ·exact⟨n,by omega,h1,h2⟩
    ·exact⟨j,by omega,h2,h3⟩
   ·rintro ⟨j,h1,h2,h3⟩
    by_cases e:j=n
    ·subst e; exact .inl ⟨h2,h3⟩
    ·exact .inr ⟨j,by omega,h2,h3⟩
theorem tO{n j:Nat}(hj:j<n)(e1:k1 j=a)(e2:k2 j=b):yQ k1 k2 n a b=true:=lu.2 ⟨j,hj,e1,e2⟩
theorem lX{n:Nat}(h : ∀ i,i<n -> ¬ (k1 i=a/\k2 i=b)):yQ k1 k2 n a b=false:=by
 cases e:yQ k1 k2 n a b with
 | false=>rfl
 | true=>obtain⟨j,hj,e1,e2⟩:=lu.1 e; exact absurd ⟨e1,e2⟩ (h j hj)
theorem tQ{j:Nat} : ∀ {n:Nat},(∀ p q,p<n->q<n->k1 p=k1 q->k2 p=k2 q->p=q)->j<n->k1 j=a->k2 j=b->Ns k1 k2 n a b=j
 | 0,_,h,_,_=>absurd h (Nat.not_lt_zero _)
 | n+1,hi,hj,e1,e2=>by
   unfold Ns
   by_cases c:k1 n=a/\k2 n=b
   ·rw[if_pos c]; exact hi n j (by omega) hj (c.1.trans e1.symm) (c.2.trans e2.symm)
   ·rw[if_neg c]
    refine tQ (fun p q hp hq=>hi p q (by omega) (by omega)) ?_ e1 e2
    by_cases e:j=n
    ·subst e; exact absurd ⟨e1,e2⟩ c
    ·omega
end
theorem wK{v:EvM}(h:bZ v=true)(hw:iI v):Fx.vH v.o v.req/\Fx.vH v.o v.of:=by
 have hb:=kX h
 have h1:=hw.req
 have h2:=hw.of
 unfold gL at h1 h2
 exact⟨⟨by omega,by omega⟩,⟨by omega,by omega⟩⟩
theorem Nt{w:World}{b k n:Nat}{g:Nat->Nat->Int}{o r:Int}{y:Nat->Value}(h:Fx.gH w b k (Fx.aH (fun i=>g i 0) n o) (Fx.aH (fun i=>g i 1) n r) (Fx.aH (mF g) n (.agg (Fx.ay 5 y))))(x:Nat->Int)(e0:x 0=o)(e1:x 1=r)(ey : ∀ j,j<5->y j=iJ x j) :
 Fx.gH w b k (fun i=>Fx.aH g n x i 0) (fun i=>Fx.aH g n x i 1) (mF (Fx.aH g n x)):=h.mM fun i _=>by
 unfold Fx.aH mF
 by_cases c:i=n
 ·subst c
  refine⟨?_,?_,?_⟩
  ·show(if i=i then o else g i 0)=(if i=i then x else g i) 0
   rw[if_pos rfl,if_pos rfl,e0]
  ·show(if i=i then r else g i 1)=(if i=i then x else g i) 1
   rw[if_pos rfl,if_pos rfl,e1]
  ·show(if i=i then Value.agg (Fx.ay 5 y)else _)=Value.agg (Fx.ay 5 (iJ (if i=i then x else g i)))
   rw[if_pos rfl,if_pos rfl,Fx.gy ey]
 ·refine⟨?_,?_,?_⟩
  ·show(if i=n then o else g i 0)=(if i=n then x else g i) 0
   rw[if_neg c,if_neg c]
  ·show(if i=n then r else g i 1)=(if i=n then x else g i) 1
   rw[if_neg c,if_neg c]
  ·show(if i=n then Value.agg (Fx.ay 5 y)else Value.agg (Fx.ay 5 (iJ (g i))))=Value.agg (Fx.ay 5 (iJ (if i=n then x else g i)))
   rw[if_neg c,if_neg c]
theorem Nu{w:World}{b n j:Nat}{g:Nat->Nat->Int}{x:Nat->Int}(h:Fx.gH w b n (fun i=>g i 0) (fun i=>g i 1) (Fx.aH (mF g) j (.agg (Fx.ay 5 (iJ x)))))(e0:x 0=g j 0)(e1:x 1=g j 1) :
 Fx.gH w b n (fun i=>Fx.aH g j x i 0) (fun i=>Fx.aH g j x i 1) (mF (Fx.aH g j x)):=h.mM fun i _=>by
 unfold Fx.aH mF
 show g i 0=(if i=j then x else g i) 0/\g i 1=(if i=j then x else g i) 1/\_=Value.agg (Fx.ay 5 (iJ (if i=j then x else g i)))
 by_cases c:i=j
 ·subst c; rw[if_pos rfl,if_pos rfl]; exact⟨e0.symm,e1.symm,rfl⟩
 ·rw[if_neg c,if_neg c]; exact⟨rfl,rfl,rfl⟩
theorem F6{w:World}{b k n:Nat}{o r:Nat->Int}{x y:Int}(h:Fx.gH w b k (Fx.aH o n x) (Fx.aH r n y) (Fx.aH vS n (.bool true))):Fx.gH w b k (Fx.aH o n x) (Fx.aH r n y) vS:=h.mM fun i _=>⟨rfl,rfl,by unfold Fx.aH vS; split <;> rfl⟩
theorem Vq(x:Nat->Int)(r:Int):Fx.eB (iJ x) 4 (.int .u64 r)=iJ (upd x 4 r):=by
 funext p
 unfold Fx.eB
 by_cases c:p=4
 ·subst c; rw[if_pos rfl]; rfl
 rw[if_neg c]; unfold iJ upd
 by_cases h0:p=0
 ·rw[if_pos h0,if_pos h0]; rfl
 rw[if_neg h0,if_neg h0]
 by_cases h3:p=3
 ·rw[if_pos h3,if_pos h3]; rfl
 rw[if_neg h3,if_neg h3,if_neg c]
def qP(a b:Int):Nat->Value:=fun p=>if p=0 then .int .i64 a else .int .u64 b
def K8(m:dD)(R':Nat->Nat->Int)(v:EvM):dD := { m with R:=R',an:=m.an+1,ao:=Fx.aH m.ao m.an v.o,ar:=Fx.aH m.ar m.an v.req,gn:=m.gn+1,g:=Fx.aH m.g m.gn (wC v) }
def F7(m:dD)(R':Nat->Nat->Int)(v:EvM)(j:Nat):dD := { m with R:=R',an:=m.an+1,ao:=Fx.aH m.ao m.an v.o,ar:=Fx.aH m.ar m.an v.req,g:=Fx.aH m.g j (upd (m.g j) 4 v.req) }
structure Bw(w0 w:World):Prop where
 b:Below w0.heap.size w0 w
theorem Bw.up{w0 w w':World}(h:Bw w0 w)(hb:Below w.heap.size w w'):Bw w0 w':=⟨yS h.b hb⟩
end Rt
theorem SE{y:Nat->Value}{a b:Int}(h0:y 0 = .int .i64 a)(h1:y 1 = .int .u64 b){w:World}{g:Nat}(h:Fx.aP w g 2 y 102):Fx.aP w g 2 (qP a b) 102:=h.congr fun j hj=>by
 rcases(show j=0\/j=1 by omega)with rfl|rfl
 ·exact h0
 ·exact h1
structure LtT(gl gq ge b:Nat):Prop where
 gl:gl<b
 gq:gq<b
 ge:ge<b
structure LtF(gl gq ge gg go b:Nat):Prop where
 gl:gl<b
 gq:gq<b
 ge:ge<b
 gg:gg<b
 go:go<b
theorem K9(m:dD)(lp B:Nat)(w:World)(h:iT w B lp m)(v:EvM)(hv:bZ v=true)(hwf:iI v)(R':Nat->Nat->Int)(b1 b0 fi:Nat)(SF:b0<=b1)(cap:Array Value)(hD:M5 w B lp m { m with R:=R' } b1 (.func (.func fi) #[] cap) fi cap)(gd:Nat)(gl:Nat)(gq:Nat)(ge:Nat)(hd:Fx.aP w gd 1 (fun _ => .func (.func fi) #[] cap) 94)(hl:Fx.aP w gl 1 (fun _=>(pt lp)) 44)(hq:Fx.aP w gq 2 (qP v.o v.req) 102)(he:Fx.aP w ge 14 (aW v) 28)(hlt:LtT gl gq ge b1)(hnz : ∀ i,i<m.an -> ¬ (m.ao i=v.o/\m.ar i=v.req))(hny : ∀ i,i<m.gn -> ¬ ((fun i=>m.g i 0) i=v.o/\(fun i=>m.g i 1) i=v.req)) :
 Calls Tryd.prog 160 #[(pt gd),(pt gl),(pt gq),(pt ge)] w fun e w'=>e = .returned (.tuple #[])/\iT w' B lp (K8 m R' v)/\Fx.jB (Kk m lp b0) w w':=by
 have hC:=h.c
 have hT:=h.t
 have hP:=h.p
 have hR:=h.r
 have hG:=h.g
 have hA:=h.a
 have hN:=h.ne
 have lC:=h.c.lt
 have lT:=h.t.lt
 have lP:=h.p.lt
 have lR:=h.r.lt
 have lG:=h.g.lt
 have lA:=h.a.lt
 have lgd:=hd.lt
 have OE:=hl.lt
 have lgq:=hq.lt
 have LX:=he.lt
 have hko:=wK hv hwf
 refine Fx.enter Tryd.func160 rfl (n:=25) rfl (by rfl) ?_
 refine Ws (Wl (Lv (.func (.func fi) #[] cap) (ak (x:=fun _ => .func (.func fi) #[] cap) rfl rfl (by kernel_rfl) hd.aL (i:=0) (by omega) (by omega) rfl) (Fx.L.call (by rfl) (Fx.FP (args := []) rfl rfl rfl (by simp) hD.f) rfl ((hD.s _ (Below.refl _ _)).mono ?_))))
 rintro e9 w1 ⟨he,Dk,F8⟩
 refine⟨_,he,?_⟩
 clear he
 have hW:=F8.mono (S':=Kk m lp b0) fun k hk=>hk.imp id (Nat.le_trans SF)
 have m1:Fx.aP w1 lp 29 (fM m) 93:=Dk.c
 have lm1:=m1.lt
 have m2:mD w1 B m.tp m.mb m.T:=Dk.t
 have lm2:=m2.lt
 have m3:Fx.Mp w1 m.pb m.T.n m.T.x (vR m.T):=Dk.p
 have lm3:=m3.lt
 have m4:Fx.Mp w1 m.rb m.T.n m.T.x (nX (R')):=Dk.r
 have lm4:=m4.lt
 have m5:Fx.gH w1 m.gb m.gn (fun i=>m.g i 0) (fun i=>m.g i 1) (mF m.g):=Dk.g
 have lm5:=m5.lt
 have m6:Fx.gH w1 m.ab m.an m.ao m.ar vS:=Dk.a
 have lm6:=m6.lt
 have m7:=h.AV hl (by decide) F8 hlt.gl
 have lm7:=m7.lt
 have m8:=h.AV hq (by decide) F8 hlt.gq
 have lm8:=m8.lt
 have m9:=h.AV he (by decide) F8 hlt.ge
 have lm9:=m9.lt
 refine Ln (sN (Ws ?_))
 -- region 1 draws
 refine Fx.W.bH [0,1,2,3,4,5] [4,0,0,4,4,3] Fx.Mk Fx.Mk.refl Fx.Mk.trans (aQ := [(5,0,[0]),(5,3,[3]),(5,4,[4])]) (by kernel_rfl) (by kernel_rfl) (by kernel_rfl) (by kernel_rfl) (by kernel_rfl) fun jc bT fE => ?_
 have s1:Fx.Stp w1.heap.size w1 jc:=Sb bT
 have m10:=m1.aC s1 m1.ne
 have m11:=m2.up s1.old
 have m12:=m3.up s1.old
 have m13:=m4.up s1.old
 have m14:=m5.up s1.old
 have m15:=m6.up s1.old
 have m16:=m7.aC s1 m7.ne
 have m17:=m8.aC s1 m8.ne
 have m18:=m9.aC s1 m9.ne
 have b1:=hW.then s1 (.inr hW.size)
 refine Fx.R.s ((pt lp)) (ak (x:=fun _=>(pt lp)) rfl rfl (by kernel_rfl) m16.aL (i:=0) (by omega) (by omega) rfl) ?_
 refine Rp ((pt lp)) (fun v1=>aO rfl rfl) (Rp ((pf lp 28)) (fun v1=>au rfl rfl Tryd.underlying93 rfl (s:=1) (by kernel_rfl) rfl (by show _+28=_; omega)) (Fx.R.s (.map (some m.ab)) (ak (x:=fM m) rfl rfl (by kernel_rfl) m10.aL (i:=28) (by omega) (by omega) rfl) ?_))
 refine Fx.R.s (.agg (Fx.ay 2 (qP v.o v.req))) (aK (x:=qP v.o v.req) (y:=qP v.o v.req) rfl rfl (by kernel_rfl) (by kernel_rfl) m17.aL (i:=0) (by omega) (by omega) (fun j _=>by rw[Nat.zero_add])) ?_
 refine Fx.R.fP (by rfl) ?_
 refine Fx.L.Ja (by rfl) rfl rfl rfl ((show Fx.ev _ _ = .agg (Fx.ay 2 (qP v.o v.req))from rfl).trans (Fx.qL (y:=qP v.o v.req) (a:=v.o) (b:=v.req) rfl rfl)) hko.1 rfl m15 Tryd.underlying90 yN hnz fun w2 m19 s2 z1 => ?_
 have hcm1:=m15.uX s2
 have m20:=m10.bY hcm1
 have m21:=m11.bY hcm1 (hN.ma)
 have m22:=m12.bY hcm1 (hN.pa)
 have m23:=m13.bY hcm1 (hN.ra)
 have m24:=m14.bY hcm1 (hN.ga)
 have qC:=m16.bY hcm1
 have oZ:=m17.bY hcm1
 have qU:=m18.bY hcm1
 have b2:=b1.then s2 (.inl (.inl (.inr (.inr (.inr (.inr (.inr rfl)))))))
 have qV:Fx.gH w2 m.ab (m.an+1) (Fx.aH m.ao m.an v.o) (Fx.aH m.ar m.an v.req) vS:=F6 m19
 refine Ln (Fx.R.nil (sN ?_))
 -- region 2 draws
 refine Fx.W.bH [5,7,9,11,0,1,2,3,4,6,8,10,12,13,14] [4,0,0,4,4,0,4,0,4,0,4,0,4,0,3] Fx.Mk Fx.Mk.refl Fx.Mk.trans (aQ := [(14,0,[0]),(14,3,[3]),(14,4,[4]),(14,6,[6]),(14,8,[8]),(14,10,[10]),(14,12,[12])]) (by kernel_rfl) (by kernel_rfl) (by kernel_rfl) (by kernel_rfl) (by kernel_rfl) fun sI fU mR => ?_
 have s3:Fx.Stp w2.heap.size w2 sI:=Sb fU
 have qD:=m20.aC s3 m20.ne
 have sJ:=m21.up s3.old
 have mH:=m22.up s3.old
 have m32:=m23.up s3.old
 have mI:=m24.up s3.old
 have nO:=qC.aC s3 qC.ne
 have qW:=oZ.aC s3 oZ.ne
 have nu:=qU.aC s3 qU.ne
 have vL:=qV.up s3.old
 have b3:=b2.then s3 (.inr b2.size)
 refine Rp ((pt ge)) (fun v1=>au rfl rfl Tryd.underlying28 rfl (s:=1) (by kernel_rfl) rfl rfl) (Rp ((pf ge 12)) (fun v1=>au rfl rfl Tryd.underlying28 rfl (s:=1) (by kernel_rfl) rfl (by show _+12=_; omega)) (Rp ((pf ge 9)) (fun v1=>au rfl rfl Tryd.underlying28 rfl (s:=1) (by kernel_rfl) rfl (by show _+9=_; omega)) (Rp ((pf ge 11)) (fun v1=>au rfl rfl Tryd.underlying28 rfl (s:=1) (by kernel_rfl) rfl (by show _+11=_; omega)) (Fx.R.s ((pt lp)) (ak (x:=fun _=>(pt lp)) rfl rfl (by kernel_rfl) nO.aL (i:=0) (by omega) (by omega) rfl) ?_))))
 refine Rp ((pt lp)) (fun v1=>aO rfl rfl) (Rp ((pf lp 27)) (fun v1=>au rfl rfl Tryd.underlying93 rfl (s:=1) (by kernel_rfl) rfl (by show _+27=_; omega)) (Fx.R.s (.map (some m.gb)) (ak (x:=fM m) rfl rfl (by kernel_rfl) qD.aL (i:=27) (by omega) (by omega) rfl) ?_))
 refine Fx.R.s (.agg (Fx.ay 2 (qP v.o v.req))) (aK (x:=qP v.o v.req) (y:=qP v.o v.req) rfl rfl (by kernel_rfl) (by kernel_rfl) qW.aL (i:=0) (by omega) (by omega) (fun j _=>by rw[Nat.zero_add])) ?_
 refine Fx.R.s (.int .i64 (v.o)) (ak (x:=aW v) rfl rfl (by kernel_rfl) nu.aL (i:=0) (by omega) (by omega) rfl) ?_
 refine Fx.R.s (.int .u64 (v.req)) (ak (x:=aW v) rfl rfl (by kernel_rfl) nu.aL (i:=12) (by omega) (by omega) rfl) ?_
 refine Fx.R.s (.int .u64 (v.node)) (ak (x:=aW v) rfl rfl (by kernel_rfl) nu.aL (i:=9) (by omega) (by omega) rfl) ?_
 refine Fx.R.s (.int .i64 (v.bL)) (ak (x:=aW v) rfl rfl (by kernel_rfl) nu.aL (i:=11) (by omega) (by omega) rfl) ?_
 refine Rp (.agg (Fx.ay 5 (Fx.aX (Fx.aX (Fx.aX (Fx.aX (fun zq=>if zq<1 then .int .i64 (0)else if zq<3 then .int .u64 (0)else if zq<4 then .int .i64 (0)else .int .u64 (0)) 0 1 (fun _ => .int .i64 (v.o))) 1 1 (fun _ => .int .u64 (v.req))) 2 1 (fun _ => .int .u64 (v.node))) 3 1 (fun _ => .int .i64 (v.bL))))) (fun v1=>bX (vs := [(0,.int .i64 (v.o)),(1,.int .u64 (v.req)),(2,.int .u64 (v.node)),(3,.int .i64 (v.bL))]) (places := #[(0,1),(1,1),(2,1),(3,1),(4,1)]) (m:=5) (x:=fun zq=>if zq<1 then .int .i64 (0)else if zq<3 then .int .u64 (0)else if zq<4 then .int .i64 (0)else .int .u64 (0)) rfl rfl Tryd.underlying99 (by kernel_rfl) (by kernel_rfl) (by rw[Fx.aG (off:=0) (s:=1) (y:=fun _ => .int .i64 (v.o)) (by kernel_rfl) (Fx.cells_one (by rfl)) (by rfl)]; rw[Fx.aG (off:=1) (s:=1) (y:=fun _ => .int .u64 (v.req)) (by kernel_rfl) (Fx.cells_one (by rfl)) (by rfl)]; rw[Fx.aG (off:=2) (s:=1) (y:=fun _ => .int .u64 (v.node)) (by kernel_rfl) (Fx.cells_one (by rfl)) (by rfl)]; rw[Fx.aG (off:=3) (s:=1) (y:=fun _ => .int .i64 (v.bL)) (by kernel_rfl) (Fx.cells_one (by rfl)) (by rfl)]; rfl)) (Fx.R.fP (by rfl) ?_)
 refine Fx.L.Ja (by rfl) rfl rfl rfl ((show Fx.ev _ _ = .agg (Fx.ay 2 (qP v.o v.req))from rfl).trans (Fx.qL (y:=qP v.o v.req) (a:=v.o) (b:=v.req) rfl rfl)) hko.1 rfl mI Tryd.underlying89 yN hny fun w3 vM s4 z2 => ?_
 have hcm2:=mI.uX s4
 have qE:=qD.bY hcm2
 have qm:=sJ.bY hcm2 (hN.mg)
 have nP:=mH.bY hcm2 (hN.pg)
 have oH:=m32.bY hcm2 (hN.rg)
 have oo:=nO.bY hcm2
 have tT:=qW.bY hcm2
 have pq:=nu.bY hcm2
 have qX:=vL.bY hcm2 ((Ne.symm hN.ga))
 have b4:=b3.then s4 (.inl (.inl (.inr (.inr (.inr (.inr (.inl rfl)))))))
 have uZ:Fx.gH w3 m.gb (m.gn+1) (fun i=>Fx.aH m.g m.gn (wC v) i 0) (fun i=>Fx.aH m.g m.gn (wC v) i 1) (mF (Fx.aH m.g m.gn (wC v))):=Nt vM (wC v) rfl rfl (by intro j hj; rcases(show j=0\/j=1\/j=2\/j=3\/j=4 by omega)with rfl|rfl|rfl|rfl|rfl <;> rfl)
 refine Ln (Fx.R.nil (⟨.tuple #[],Fx.jS Tryd.results160,?_⟩))
 unfold K8
 exact⟨rfl,{ c:=qE,t:=qm,p:=nP,r:=oH,g:=uZ,a:=qX,ne:=⟨hN.mp,hN.mr,hN.mg,hN.ma,hN.pr,hN.pg,hN.pa,hN.rg,hN.ra,hN.ga⟩,lB:=h.lB,pB:=h.pB,rB:=h.rB,gB:=h.gB,aB:=h.aB },b4⟩
theorem La(m:dD)(lp B:Nat)(w:World)(h:iT w B lp m)(v:EvM)(hv:bZ v=true)(hwf:iI v)(R':Nat->Nat->Int)(b1 b0 fi:Nat)(SF:b0<=b1)(cap:Array Value)(hD:M5 w B lp m { m with R:=R' } b1 (.func (.func fi) #[] cap) fi cap)(j:Nat)(gd:Nat)(gl:Nat)(gq:Nat)(ge:Nat)(gg:Nat)(go:Nat)(hd:Fx.aP w gd 1 (fun _ => .func (.func fi) #[] cap) 94)(hl:Fx.aP w gl 1 (fun _=>(pt lp)) 44)(hq:Fx.aP w gq 2 (qP v.o v.req) 102)(he:Fx.aP w ge 14 (aW v) 28)(hgr:Fx.aP w gg 5 (iJ (m.g j)) 99)(hof:Fx.aP w go 2 (qP v.o v.of) 102)(hgg:b0<=gg)(hlt:LtF gl gq ge gg go b1)(hnz : ∀ i,i<m.an -> ¬ (m.ao i=v.o/\m.ar i=v.req))(hjy:j<m.gn)(ejy:(fun i=>m.g i 0) j=v.o)(fjy:(fun i=>m.g i 1) j=v.of) :
 Calls Tryd.prog 163 #[(pt gd),(pt gl),(pt gq),(pt ge),(pt gg),(pt go)] w fun e w'=>e = .returned (.tuple #[])/\iT w' B lp (F7 m R' v j)/\Fx.jB (Kk m lp b0) w w':=by
 have hC:=h.c
 have hT:=h.t
 have hP:=h.p
 have hR:=h.r
 have hG:=h.g
 have hA:=h.a
 have hN:=h.ne
 have lC:=h.c.lt
 have lT:=h.t.lt
 have lP:=h.p.lt
 have lR:=h.r.lt
 have lG:=h.g.lt
 have lA:=h.a.lt
 have lgd:=hd.lt
 have OE:=hl.lt
 have lgq:=hq.lt
 have LX:=he.lt
 have lgg:=hgr.lt
 have lgo:=hof.lt
 have hko:=wK hv hwf
 have afg:=hjy
 refine Fx.enter Tryd.func163 rfl (n:=22) rfl (by rfl) ?_
 refine Ws (Wl (Lv (.func (.func fi) #[] cap) (ak (x:=fun _ => .func (.func fi) #[] cap) rfl rfl (by kernel_rfl) hd.aL (i:=0) (by omega) (by omega) rfl) (Fx.L.call (by rfl) (Fx.FP (args := []) rfl rfl rfl (by simp) hD.f) rfl ((hD.s _ (Below.refl _ _)).mono ?_))))
 rintro e9 w1 ⟨he,Dk,F8⟩
 refine⟨_,he,?_⟩
 clear he
 have hW:=F8.mono (S':=Kk m lp b0) fun k hk=>hk.imp id (Nat.le_trans SF)
 have m1:Fx.aP w1 lp 29 (fM m) 93:=Dk.c
 have lm1:=m1.lt
 have m2:mD w1 B m.tp m.mb m.T:=Dk.t
 have lm2:=m2.lt
 have m3:Fx.Mp w1 m.pb m.T.n m.T.x (vR m.T):=Dk.p
 have lm3:=m3.lt
 have m4:Fx.Mp w1 m.rb m.T.n m.T.x (nX (R')):=Dk.r
 have lm4:=m4.lt
 have m5:Fx.gH w1 m.gb m.gn (fun i=>m.g i 0) (fun i=>m.g i 1) (mF m.g):=Dk.g
 have lm5:=m5.lt
 have m6:Fx.gH w1 m.ab m.an m.ao m.ar vS:=Dk.a
 have lm6:=m6.lt
 have m7:=h.AV hl (by decide) F8 hlt.gl
 have lm7:=m7.lt
 have m8:=h.AV hq (by decide) F8 hlt.gq
 have lm8:=m8.lt
 have m9:=h.AV he (by decide) F8 hlt.ge
 have lm9:=m9.lt
 have m10:=h.AV hgr (by decide) F8 hlt.gg
 have afh:=m10.lt
 have m11:=h.AV hof (by decide) F8 hlt.go
 have afi:=m11.lt
 refine Ln (sN (Ws ?_))
 -- region 1 draws
 refine Fx.W.bH [0,1,2,3,4,5] [4,0,0,4,4,3] Fx.Mk Fx.Mk.refl Fx.Mk.trans (aQ := [(5,0,[0]),(5,3,[3]),(5,4,[4])]) (by kernel_rfl) (by kernel_rfl) (by kernel_rfl) (by kernel_rfl) (by kernel_rfl) fun jc bT fE => ?_
 have s1:Fx.Stp w1.heap.size w1 jc:=Sb bT
 have m12:=m1.aC s1 m1.ne
 have m13:=m2.up s1.old
 have m14:=m3.up s1.old
 have m15:=m4.up s1.old
 have m16:=m5.up s1.old
 have m17:=m6.up s1.old
 have m18:=m7.aC s1 m7.ne
 have m19:=m8.aC s1 m8.ne
 have m20:=m9.aC s1 m9.ne
 have m21:=m10.aC s1 m10.ne
 have m22:=m11.aC s1 m11.ne
 have b1:=hW.then s1 (.inr hW.size)
 refine Fx.R.s ((pt lp)) (ak (x:=fun _=>(pt lp)) rfl rfl (by kernel_rfl) m18.aL (i:=0) (by omega) (by omega) rfl) ?_
 refine Rp ((pt lp)) (fun v1=>aO rfl rfl) (Rp ((pf lp 28)) (fun v1=>au rfl rfl Tryd.underlying93 rfl (s:=1) (by kernel_rfl) rfl (by show _+28=_; omega)) (Fx.R.s (.map (some m.ab)) (ak (x:=fM m) rfl rfl (by kernel_rfl) m12.aL (i:=28) (by omega) (by omega) rfl) ?_))
 refine Fx.R.s (.agg (Fx.ay 2 (qP v.o v.req))) (aK (x:=qP v.o v.req) (y:=qP v.o v.req) rfl rfl (by kernel_rfl) (by kernel_rfl) m19.aL (i:=0) (by omega) (by omega) (fun j _=>by rw[Nat.zero_add])) ?_
 refine Fx.R.fP (by rfl) ?_
 refine Fx.L.Ja (by rfl) rfl rfl rfl ((show Fx.ev _ _ = .agg (Fx.ay 2 (qP v.o v.req))from rfl).trans (Fx.qL (y:=qP v.o v.req) (a:=v.o) (b:=v.req) rfl rfl)) hko.1 rfl m17 Tryd.underlying90 yN hnz fun w2 m23 s2 z1 => ?_
 have hcm1:=m17.uX s2
 have m24:=m12.bY hcm1
 have qC:=m13.bY hcm1 (hN.ma)
 have oZ:=m14.bY hcm1 (hN.pa)
 have qU:=m15.bY hcm1 (hN.ra)
 have qV:=m16.bY hcm1 (hN.ga)
 have qD:=m18.bY hcm1
 have sJ:=m19.bY hcm1
 have mH:=m20.bY hcm1
 have m32:=m21.bY hcm1
 have mI:=m22.bY hcm1
 have b2:=b1.then s2 (.inl (.inl (.inr (.inr (.inr (.inr (.inr rfl)))))))
 have nO:Fx.gH w2 m.ab (m.an+1) (Fx.aH m.ao m.an v.o) (Fx.aH m.ar m.an v.req) vS:=F6 m23
 refine Ln (Fx.R.nil (sN (Ws (Wl (Lv ((pf ge 12)) (au rfl rfl Tryd.underlying28 rfl (s:=1) (by kernel_rfl) rfl (by show _+12=_; omega)) (Lv (.int .u64 (v.req)) (ak (x:=aW v) rfl rfl (by kernel_rfl) mH.aL (i:=12) (by omega) (by omega) rfl) (Lv ((pf gg 4)) (au rfl rfl Tryd.underlying99 rfl (s:=1) (by kernel_rfl) rfl (by show _+4=_; omega)) (Fx.L.bV (x:=iJ (m.g j)) (u := .int .u64 (v.req)) (by rfl) rfl rfl rfl rfl (by rfl) (by kernel_rfl) m32 (i:=4) (by omega) fun w3 qW s3 z2 => ?_))))))))
 have nu:Fx.aP w3 gg 5 (iJ (upd (m.g j) 4 v.req)) 99:=qW.to (Vq _ _)
 have aT:=Fx.gD.bP s3 m32.ty
 have vL:=m24.aU aT (by decide)
 have vM:=qC.aU aT (by decide)
 have qE:=oZ.aU aT trivial
 have qm:=qU.aU aT trivial
 have nP:=qV.aU aT trivial
 have oH:=qD.aU aT (by decide)
 have oo:=sJ.aU aT (by decide)
 have tT:=mH.aU aT (by decide)
 have pq:=mI.aU aT (by decide)
 have qX:=nO.aU aT trivial
 have b3:=b2.then s3 (.inl (.inr hgg))
 refine Ln (sN ?_)
 -- region 3 draws
 refine Fx.W.bH [0,1,2,3,4,5,6] [4,0,0,4,4,4,3] Fx.Mk Fx.Mk.refl Fx.Mk.trans (aQ := [(6,0,[0]),(6,3,[3]),(6,4,[4]),(6,5,[5])]) (by kernel_rfl) (by kernel_rfl) (by kernel_rfl) (by kernel_rfl) (by kernel_rfl) fun sI fU mR => ?_
 have s4:Fx.Stp w3.heap.size w3 sI:=Sb fU
 have uZ:=vL.aC s4 vL.ne
 have zl:=vM.up s4.old
 have sK:=qE.up s4.old
 have ny:=qm.up s4.old
 have qo:=nP.up s4.old
 have tV:=oH.aC s4 oH.ne
 have sM:=oo.aC s4 oo.ne
 have rT:=tT.aC s4 tT.ne
 have vN:=pq.aC s4 pq.ne
 have uw:=qX.up s4.old
 have nQ:=nu.aC s4 nu.ne
 have b4:=b3.then s4 (.inr b3.size)
 refine Fx.R.s ((pt lp)) (ak (x:=fun _=>(pt lp)) rfl rfl (by kernel_rfl) tV.aL (i:=0) (by omega) (by omega) rfl) ?_
 refine Rp ((pt lp)) (fun v1=>aO rfl rfl) (Rp ((pf lp 27)) (fun v1=>au rfl rfl Tryd.underlying93 rfl (s:=1) (by kernel_rfl) rfl (by show _+27=_; omega)) (Fx.R.s (.map (some m.gb)) (ak (x:=fM m) rfl rfl (by kernel_rfl) uZ.aL (i:=27) (by omega) (by omega) rfl) ?_))
 refine Fx.R.s (.agg (Fx.ay 2 (qP v.o v.of))) (aK (x:=qP v.o v.of) (y:=qP v.o v.of) rfl rfl (by kernel_rfl) (by kernel_rfl) vN.aL (i:=0) (by omega) (by omega) (fun j _=>by rw[Nat.zero_add])) ?_
 refine Fx.R.s (.agg (Fx.ay 5 (iJ (upd (m.g j) 4 v.req)))) (aK (x:=iJ (upd (m.g j) 4 v.req)) (y:=iJ (upd (m.g j) 4 v.req)) rfl rfl (by kernel_rfl) (by kernel_rfl) nQ.aL (i:=0) (by omega) (by omega) (fun j _=>by rw[Nat.zero_add])) ?_
 refine Fx.R.fP (by rfl) ?_
 refine Fx.L.TR (by rfl) rfl rfl rfl ((show Fx.ev _ _ = .agg (Fx.ay 2 (qP v.o v.of))from rfl).trans (Fx.qL (y:=qP v.o v.of) (a:=v.o) (b:=v.of) rfl rfl)) hko.2 rfl qo Tryd.underlying89 yN hjy ejy fjy fun w4 qY s5 z3 => ?_
 have hcm2:=qo.uX s5
 have qM:=uZ.bY hcm2
 have lM:=zl.bY hcm2 (hN.mg)
 have qN:=sK.bY hcm2 (hN.pg)
 have oI:=ny.bY hcm2 (hN.rg)
 have sO:=tV.bY hcm2
 have m64:=sM.bY hcm2
 have xD:=rT.bY hcm2
 have zm:=vN.bY hcm2
 have yA:=uw.bY hcm2 ((Ne.symm hN.ga))
 have yB:=nQ.bY hcm2
 have b5:=b4.then s5 (.inl (.inl (.inr (.inr (.inr (.inr (.inl rfl)))))))
 have tX:Fx.gH w4 m.gb m.gn (fun i=>Fx.aH m.g j (upd (m.g j) 4 v.req) i 0) (fun i=>Fx.aH m.g j (upd (m.g j) 4 v.req) i 1) (mF (Fx.aH m.g j (upd (m.g j) 4 v.req))):=Nu qY rfl rfl
 refine Ln (Fx.R.nil (⟨.tuple #[],Fx.jS Tryd.results163,?_⟩))
 unfold F7
 exact⟨rfl,{ c:=qM,t:=lM,p:=qN,r:=oI,g:=tX,a:=yA,ne:=⟨hN.mp,hN.mr,hN.mg,hN.ma,hN.pr,hN.pg,hN.pa,hN.rg,hN.ra,hN.ga⟩,lB:=h.lB,pB:=h.pB,rB:=h.rB,gB:=h.gB,aB:=h.aB },b5⟩
end
set_option maxRecDepth 20000
set_option linter.unusedVariables false
namespace Rt
def jy(m:dD)(o r:Int):Bool:=yQ m.ao m.ar m.an o r
def Ba(m:dD)(o r:Int):Bool:=yQ (fun i=>m.g i 0) (fun i=>m.g i 1) m.gn o r
def lD(m:dD)(o r:Int):Nat:=Ns (fun i=>m.g i 0) (fun i=>m.g i 1) m.gn o r
noncomputable def Lb(m:dD)(v:EvM):dD:=kY m (fun x=>bf x v.o v.bL) (m.T.path v.node)
def jO(m:dD)(v:EvM):Int:=if jy m v.o v.req=true then 14 else if m.T.has v.node=false then 9 else bR m (fun x=>bf x v.o v.bL) (m.T.path v.node)
noncomputable def pX(m:dD)(v:EvM):dD:=K8 m (Lb m v).R v
noncomputable def Lc(m:dD)(v:EvM):dD:=kY m (fun x=>bA x v.o (m.g (lD m v.o v.of) 3)) (m.T.path (m.g (lD m v.o v.of) 2))
def iX(m:dD)(v:EvM):Int:=if jy m v.o v.req=true then 14 else if Ba m v.o v.of=false\/m.g (lD m v.o v.of) 4≠0 then 12 else bR m (fun x=>bA x v.o (m.g (lD m v.o v.of) 3)) (m.T.path (m.g (lD m v.o v.of) 2))
noncomputable def og(m:dD)(v:EvM):dD:=F7 m (Lc m v).R v (lD m v.o v.of)
def SG(m:dD):Prop := ∀ i,i<m.gn->jy m (m.g i 0) (m.g i 1)=true
end Rt
theorem Fx.Vr{f:Nat->Value}{x1 x2 x3 x4 x5 x6:Operand}{v1 v2 v3 v4 v5 v6:Value}(h1:Fx.ev f x1=v1)(h2:Fx.ev f x2=v2)(h3:Fx.ev f x3=v3)(h4:Fx.ev f x4=v4)(h5:Fx.ev f x5=v5)(h6:Fx.ev f x6=v6) : [x1,x2,x3,x4,x5,x6].map (Fx.ev f) = [v1,v2,v3,v4,v5,v6]:=by rw[List.map_cons,h1,Fx.TK h2 h3 h4 h5 h6]
theorem M5.up{w w':World}{B lp b0 fi:Nat}{m m':dD}{fv:Value}{cap:Array Value}(h:M5 w B lp m m' b0 fv fi cap)(hb:Below w.heap.size w w'):M5 w' B lp m m' b0 fv fi cap := { h with s:=fun w2 hb2=>h.s w2 (yS hb hb2) }
theorem Nv(m:dD)(lp B:Nat)(w:World)(h:iT w B lp m)(v:EvM)(hv:bZ v=true)(hwf:iI v)(hga:SG m) :
 Calls Tryd.prog 147 #[(pt lp),.agg (Fx.ay 14 (aW v))] w fun e w'=>Iz w B lp m (pX m v) (jO m v) e w':=by
 have hC:=h.c
 have hT:=h.t
 have hP:=h.p
 have hR:=h.r
 have hG:=h.g
 have hA:=h.a
 have hN:=h.ne
 have lC:=h.c.lt
 have lT:=h.t.lt
 have lP:=h.p.lt
 have lR:=h.r.lt
 have lG:=h.g.lt
 have lA:=h.a.lt
 obtain⟨a,ha,ho⟩ : ∃ a:Nat,a<6/\v.o=(a:Int)+1:=eF (ig hv)
 have hra:bC v=a:=by unfold bC; omega
 have hko:=wK hv hwf
 have Y6:1<=v.o/\v.o<=6:=by omega
 refine Fx.enter Tryd.func147 rfl (n:=40) rfl (by rfl) ?_
 refine Ws (Wl (Fx.L.box (m:=1) (y:=fun _=>(pt lp)) (by rfl) rfl rfl (Fx.cells_one (by rfl)) rfl fun g1 w1 aZ m1 s1 z1 => ?_))
 have m2:=hC.aC s1 hC.ne
 have m3:=hT.up s1.old
 have m4:=hP.up s1.old
 have m5:=hR.up s1.old
 have m6:=hG.up s1.old
 have m7:=hA.up s1.old
 have b1:=s1.below (Below.refl w.heap.size w) (Below.refl w.heap.size w).size (Below.refl w.heap.size w).size
 have kM:w.heap.size<=g1:=by rw[aZ]; exact(Below.refl w.heap.size w).size
 have jk:lp≠g1:=by rw[aZ]; exact Nat.ne_of_lt (hC.lt)
 have nk:m.pb≠g1:=by rw[aZ]; exact Nat.ne_of_lt (hP.lt)
 have oC:m.rb≠g1:=by rw[aZ]; exact Nat.ne_of_lt (hR.lt)
 have oD:m.gb≠g1:=by rw[aZ]; exact Nat.ne_of_lt (hG.lt)
 have oF:m.ab≠g1:=by rw[aZ]; exact Nat.ne_of_lt (hA.lt)
 have mO:g1<w1.heap.size:=m1.lt
 clear aZ
 refine Fx.L.box (m:=14) (y:=aW v) (by rfl) rfl rfl (Fx.aN _ _) rfl fun g2 w2 bS m8 s2 z2 => ?_
 have m9:=m2.aC s2 m2.ne
 have m10:=m3.up s2.old
 have m11:=m4.up s2.old
 have m12:=m5.up s2.old
 have m13:=m6.up s2.old
 have m14:=m7.up s2.old
 have m15:=m1.aC s2 m1.ne
 have b2:=s2.below b1 b1.size b1.size
 have su:w.heap.size<=g2:=by rw[bS]; exact b1.size
 have CY:lp≠g2:=by rw[bS]; exact Nat.ne_of_lt (m2.lt)
 have uI:m.pb≠g2:=by rw[bS]; exact Nat.ne_of_lt (m4.lt)
 have uJ:m.rb≠g2:=by rw[bS]; exact Nat.ne_of_lt (m5.lt)
 have rF:m.gb≠g2:=by rw[bS]; exact Nat.ne_of_lt (m6.lt)
 have rG:m.ab≠g2:=by rw[bS]; exact Nat.ne_of_lt (m7.lt)
 have pz:g1≠g2:=by rw[bS]; exact Nat.ne_of_lt (m1.lt)
 have vK:g2<w2.heap.size:=m8.lt
 clear bS
 refine Lv (.nilFunc) (aj rfl rfl) (Lv (.int .i64 (0)) (aj rfl rfl) (Ln (sN (Ws (Wl (Lv ((pt g2)) (au rfl rfl Tryd.underlying28 rfl (s:=1) (by kernel_rfl) rfl rfl) (Lv (.int .i64 (v.o)) (ak (x:=aW v) rfl rfl (by kernel_rfl) m8.aL (i:=0) (by omega) (by omega) rfl) (Lv ((pf g2 12)) (au rfl rfl Tryd.underlying28 rfl (s:=1) (by kernel_rfl) rfl (by show _+12=_; omega)) (Lv (.int .u64 (v.req)) (ak (x:=aW v) rfl rfl (by kernel_rfl) m8.aL (i:=12) (by omega) (by omega) rfl) (Lv (.agg (Fx.ay 2 (Fx.aX (Fx.aX (fun zq=>if zq<1 then .int .i64 (0)else .int .u64 (0)) 0 1 (fun _ => .int .i64 (v.o))) 1 1 (fun _ => .int .u64 (v.req))))) (bX (vs := [(0,.int .i64 (v.o)),(1,.int .u64 (v.req))]) (places := #[(0,1),(1,1)]) (m:=2) (x:=fun zq=>if zq<1 then .int .i64 (0)else .int .u64 (0)) rfl rfl Tryd.underlying102 (by kernel_rfl) (by kernel_rfl) (by rw[Fx.aG (off:=0) (s:=1) (y:=fun _ => .int .i64 (v.o)) (by kernel_rfl) (Fx.cells_one (by rfl)) (by rfl)]; rw[Fx.aG (off:=1) (s:=1) (y:=fun _ => .int .u64 (v.req)) (by kernel_rfl) (Fx.cells_one (by rfl)) (by rfl)]; rfl)) (Fx.L.new (m:=2) (y:=fun zq=>if zq<1 then .int .i64 (0)else .int .u64 (0)) (by rfl) rfl (by kernel_rfl) rfl fun g3 w3 iq m16 s3 z3 => ?_)))))))))))
 have m17:=m9.aC s3 m9.ne
 have m18:=m10.up s3.old
 have m19:=m11.up s3.old
 have m20:=m12.up s3.old
 have m21:=m13.up s3.old
 have m22:=m14.up s3.old
 have m23:=m15.aC s3 m15.ne
 have m24:=m8.aC s3 m8.ne
 have b3:=s3.below b2 b2.size b2.size
 have uY:w.heap.size<=g3:=by rw[iq]; exact b2.size
 have Y7:lp≠g3:=by rw[iq]; exact Nat.ne_of_lt (m9.lt)
 have Sw:m.pb≠g3:=by rw[iq]; exact Nat.ne_of_lt (m11.lt)
 have Y8:m.rb≠g3:=by rw[iq]; exact Nat.ne_of_lt (m12.lt)
 have K4:m.gb≠g3:=by rw[iq]; exact Nat.ne_of_lt (m13.lt)
 have Sy:m.ab≠g3:=by rw[iq]; exact Nat.ne_of_lt (m14.lt)
 have K5:g1≠g3:=by rw[iq]; exact Nat.ne_of_lt (m15.lt)
 have K6:g2≠g3:=by rw[iq]; exact Nat.ne_of_lt (m8.lt)
 have LW:g3<w3.heap.size:=m16.lt
 clear iq
 refine Fx.L.dY (x:=fun zq=>if zq<1 then .int .i64 (0)else .int .u64 (0)) (y:=Fx.aX (Fx.aX (fun zq=>if zq<1 then .int .i64 (0)else .int .u64 (0)) 0 1 (fun _ => .int .i64 (v.o))) 1 1 (fun _ => .int .u64 (v.req))) (by rfl) rfl rfl rfl rfl (Fx.jg (Fx.jg (fun jq _=>by show((fun zq=>if zq<1 then .int .i64 (0)else .int .u64 (0):Nat->Value) jq).oneCell'=true; simp only[]; repeat (first|rfl|split)) (fun _ _=>rfl)) (fun _ _=>rfl)) (by kernel_rfl) m16 (i:=0) (by omega) fun w4 qC s4 z4 => ?_
 have oZ:Fx.aP w4 g3 2 (Fx.aX (Fx.aX (fun zq=>if zq<1 then .int .i64 (0)else .int .u64 (0)) 0 1 (fun _ => .int .i64 (v.o))) 1 1 (fun _ => .int .u64 (v.req))) 102:=Fx.dF qC
 have qU:Fx.aP w4 g3 2 (qP v.o v.req) 102:=SE (Fx.rY (by omega) (Fx.lY (j:=0) (by omega) (by omega) rfl)) (Fx.lY (j:=0) (by omega) (by omega) rfl) oZ
 have aT:=Fx.gD.bP s4 m16.ty
 have qV:=m17.aU aT (by decide)
 have qD:=m18.aU aT (by decide)
 have sJ:=m19.aU aT trivial
 have mH:=m20.aU aT trivial
 have m32:=m21.aU aT trivial
 have mI:=m22.aU aT trivial
 have nO:=m23.aU aT (by decide)
 have qW:=m24.aU aT (by decide)
 have b4:=s4.below b3 b3.size (by omega)
 refine Ln (sN (Ws (Ws ?_)))
 -- region 2 draws
 refine Fx.W.bH [0,1,2,3,4,5] [4,0,0,4,4,4] Fx.Mk Fx.Mk.refl Fx.Mk.trans (aQ := []) (by kernel_rfl) (by kernel_rfl) (by kernel_rfl) (by kernel_rfl) (by kernel_rfl) fun jc bT fE => ?_
 have s5:Fx.Stp w4.heap.size w4 jc:=Sb bT
 have nu:=qV.aC s5 qV.ne
 have vL:=qD.up s5.old
 have vM:=sJ.up s5.old
 have qE:=mH.up s5.old
 have qm:=m32.up s5.old
 have nP:=mI.up s5.old
 have oH:=nO.aC s5 nO.ne
 have oo:=qW.aC s5 qW.ne
 have tT:=qU.aC s5 qU.ne
 have b5:=s5.below b4 b4.size b4.size
 refine Fx.R.s ((pt lp)) (ak (x:=fun _=>(pt lp)) rfl rfl (by kernel_rfl) oH.aL (i:=0) (by omega) (by omega) rfl) ?_
 refine Rp ((pt lp)) (fun v1=>aO rfl rfl) (Rp ((pf lp 28)) (fun v1=>au rfl rfl Tryd.underlying93 rfl (s:=1) (by kernel_rfl) rfl (by show _+28=_; omega)) (Fx.R.s (.map (some m.ab)) (ak (x:=fM m) rfl rfl (by kernel_rfl) nu.aL (i:=28) (by omega) (by omega) rfl) ?_))
 refine Fx.R.s (.agg (Fx.ay 2 (qP v.o v.req))) (aK (x:=qP v.o v.req) (y:=qP v.o v.req) rfl rfl (by kernel_rfl) (by kernel_rfl) tT.aL (i:=0) (by omega) (by omega) (fun j _=>by rw[Nat.zero_add])) ?_
 rcases Fx.oQ m.ao m.ar m.an v.o v.req with ⟨dh,gY,iA,Dl⟩|fJ
 ·refine Fx.R.s (.bool true) (Fx.BI (z := .bool false) rfl rfl ((show Fx.ev _ _ = .agg (Fx.ay 2 (qP v.o v.req))from rfl).trans (Fx.qL (y:=qP v.o v.req) (a:=v.o) (b:=v.req) rfl rfl)) hko.1 nP Tryd.underlying90 yN (by rfl) gY iA Dl rfl) ?_
  refine Fx.R.nil (sN (Wc (b:=true) rfl (fun _=>Ws (Wl (Lv (.nilFunc) (aj rfl rfl) ?_))) (fun h=>nomatch h)))
  refine Lv (.int .i64 (14)) (aj rfl rfl) (Ln (sN (Wr (sR (⟨.tuple #[.nilFunc,.int .i64 (14)],Fx.cB Tryd.results147 (by exact rfl) (by exact rfl),?_⟩)))))
  have hEq:jO m v=14:=by unfold jO; exact if_pos (tO gY iA Dl)
  exact⟨⟨.nilFunc,0,#[],by rw[hEq],rfl,fun e0=>absurd (hEq.symm.trans e0) (by first|decide|omega|assumption)⟩,b5⟩
 refine Fx.R.s (.bool false) (Fx.BH (z := .bool false) rfl rfl ((show Fx.ev _ _ = .agg (Fx.ay 2 (qP v.o v.req))from rfl).trans (Fx.qL (y:=qP v.o v.req) (a:=v.o) (b:=v.req) rfl rfl)) hko.1 nP Tryd.underlying90 yN (by rfl) fJ) ?_
 refine Fx.R.nil (sN (Wc (b:=false) rfl (fun h=>nomatch h) (fun _=>Wk (sN (Ws (Ws ?_))))))
 -- region 4 draws
 refine Fx.W.bH [4,0,1,2,3,5,6,7] [4,0,0,4,0,4,3,0] Fx.Mk Fx.Mk.refl Fx.Mk.trans (aQ := [(6,0,[3,2,1,0]),(6,3,[3]),(6,5,[5]),(7,6,[6])]) (by kernel_rfl) (by kernel_rfl) (by kernel_rfl) (by kernel_rfl) (by kernel_rfl) fun sI fU mR => ?_
 have s6:Fx.Stp jc.heap.size jc sI:=Sb fU
 have pq:=nu.aC s6 nu.ne
 have qX:=vL.up s6.old
 have uZ:=vM.up s6.old
 have zl:=qE.up s6.old
 have sK:=qm.up s6.old
 have ny:=nP.up s6.old
 have qo:=oH.aC s6 oH.ne
 have tV:=oo.aC s6 oo.ne
 have sM:=tT.aC s6 tT.ne
 have b6:=s6.below b5 b5.size b5.size
 refine Rp ((pf g2 9)) (fun v1=>au rfl rfl Tryd.underlying28 rfl (s:=1) (by kernel_rfl) rfl (by show _+9=_; omega)) (Fx.R.s ((pt lp)) (ak (x:=fun _=>(pt lp)) rfl rfl (by kernel_rfl) qo.aL (i:=0) (by omega) (by omega) rfl) ?_)
 refine Rp ((pt lp)) (fun v1=>aO rfl rfl) (Rp ((pf lp 18)) (fun v1=>au rfl rfl Tryd.underlying93 rfl (s:=1) (by kernel_rfl) rfl (by show _+18=_; omega)) (Fx.R.s ((pt m.tp)) (ak (x:=fM m) rfl rfl (by kernel_rfl) pq.aL (i:=18) (by omega) (by omega) rfl) ?_))
 refine Fx.R.s (.int .u64 (v.node)) (ak (x:=aW v) rfl rfl (by kernel_rfl) tV.aL (i:=9) (by omega) (by omega) rfl) ?_
 refine Fx.R.fP (by rfl) ?_
 by_cases F9:(cu.has m.T v.node)=true
 ·refine Fx.L.call (by rfl) (rC (args := [(pt m.tp),.int .u64 (v.node)]) rfl rfl Tryd.func72 rfl rfl) rfl ((OZ v.node qX).mono ?_)
  rintro e v1 ⟨he,hv1⟩
  subst v1
  refine⟨.bool true,by rw[he,F9],?_⟩
  clear he
  refine Ln (Rp (.bool false) (fun v1=>Fx.dZ rfl rfl) (Fx.R.nil (sN (Wc (b:=false) rfl (fun h=>nomatch h) (fun _=>Wk (sN (Ws (Wl (Lv ((pt lp)) (ak (x:=fun _=>(pt lp)) rfl rfl (by kernel_rfl) qo.aL (i:=0) (by omega) (by omega) rfl) ?_)))))))))
  refine Lv ((pf g2 9)) (au rfl rfl Tryd.underlying28 rfl (s:=1) (by kernel_rfl) rfl (by show _+9=_; omega)) (Lv (.int .u64 (v.node)) (ak (x:=aW v) rfl rfl (by kernel_rfl) tV.aL (i:=9) (by omega) (by omega) rfl) (Lv (.func (.func 158) #[] #[(pt g2)]) (Fx.jf (us := []) (vs := [(pt g2)]) rfl rfl rfl) (Fx.L.call (by rfl) (rC (args := [(pt lp),.int .u64 (v.node),.func (.func 158) #[] #[(pt g2)]]) rfl rfl Tryd.func157 rfl rfl) rfl ((K3 m lp B _ (h.up b6) v.node v Y6 g2 tV).mono ?_))))
  rintro e9 w5 ⟨⟨fv1,Vs,oG,he,ho1,hD1⟩,hb1⟩
  refine⟨_,he,?_⟩
  clear he
  have s7:=Sb hb1
  have rT:=pq.aC s7 pq.ne
  have uw:=uZ.up s7.old
  have nQ:=zl.up s7.old
  have qY:=sK.up s7.old
  have qM:=ny.up s7.old
  have lM:=qo.aC s7 qo.ne
  have qN:=tV.aC s7 tV.ne
  have oI:=sM.aC s7 sM.ne
  have b7:=s7.below b6 b6.size b6.size
  have Vt:Bw w5 w5:=⟨Below.refl _ _⟩
  refine Lv (.tuple #[fv1,.int .i64 (bR m (fun x=>bf x v.o v.bL) (m.T.path (v.node)))]) (ah rfl rfl) (Lv (fv1) (Fx.aD rfl rfl rfl) (Lv (.int .i64 (bR m (fun x=>bf x v.o v.bL) (m.T.path (v.node)))) (Fx.aD rfl rfl rfl) (Fx.L.new (m:=1) (y:=fun _ => .nilFunc) (by rfl) rfl (by kernel_rfl) rfl fun g4 w6 gT sO s8 z5 => ?_)))
  have yK:=lM.aC s8 lM.ne
  have vO:=qN.aC s8 qN.ne
  have xE:=oI.aC s8 oI.ne
  have sP:=Vt.up s8.old
  have b8:=s8.below b7 b7.size b7.size
  have wH:w.heap.size<=g4:=by rw[gT]; exact b7.size
  have Y9:lp≠g4:=by rw[gT]; exact Nat.ne_of_lt (rT.lt)
  have RU:m.pb≠g4:=by rw[gT]; exact Nat.ne_of_lt (uw.lt)
  have RV:m.rb≠g4:=by rw[gT]; exact Nat.ne_of_lt (nQ.lt)
  have RX:m.gb≠g4:=by rw[gT]; exact Nat.ne_of_lt (qY.lt)
  have RY:m.ab≠g4:=by rw[gT]; exact Nat.ne_of_lt (qM.lt)
  have RZ:g1≠g4:=by rw[gT]; exact Nat.ne_of_lt (lM.lt)
  have Za:g2≠g4:=by rw[gT]; exact Nat.ne_of_lt (qN.lt)
  have R3:g3≠g4:=by rw[gT]; exact Nat.ne_of_lt (oI.lt)
  have M6:g4<w6.heap.size:=sO.lt
  have kg4:w5.heap.size<=g4:=by rw[gT]; exact Vt.b.size
  clear gT
  refine Fx.L.bV (x:=fun _ => .nilFunc) (u:=fv1) (by rfl) rfl rfl rfl rfl ho1 (by kernel_rfl) sO (i:=0) (by omega) fun w7 zn s9 z6 => ?_
  have xG:Fx.aP w7 g4 1 (fun _=>fv1) 94:=Fx.je zn
  have dL:=Fx.gD.bP s9 sO.ty
  have Ar:=yK.aU dL (by decide)
  have DF:=vO.aU dL (by decide)
  have Fw:=xE.aU dL (by decide)
  have GY:=(⟨s9.below sP.b sP.b.size kg4⟩:Bw w5 _)
  have b9:=s9.below b8 b8.size (by omega)
  refine Lv (.int .i64 (bR m (fun x=>bf x v.o v.bL) (m.T.path (v.node)))) (aj rfl rfl) (Ln (sN (Ws (Ws (Wl (Lv (.int .i64 (bR m (fun x=>bf x v.o v.bL) (m.T.path (v.node)))) (ah rfl rfl) ?_))))))
  by_cases c37:(bR m (fun x=>bf x v.o v.bL) (m.T.path (v.node)))=0
  ·refine Lv (.bool false) (Fx.gu rfl rfl rfl c37) (Ln (sN (Wc (b:=false) rfl (fun h=>nomatch h) (fun _=>Wk (sN (Ws (Wl (Lv (.func (.func 160) #[] #[(pt g4),(pt g1),(pt g3),(pt g2)]) (Fx.jf (us := []) (vs := [(pt g4),(pt g1),(pt g3),(pt g2)]) rfl rfl rfl) (Lv (.func (.func 160) #[] #[(pt g4),(pt g1),(pt g3),(pt g2)]) (aj rfl rfl) (Lv (.int .i64 (0)) (aj rfl rfl) (Ln (sN (Wr (⟨.tuple #[.func (.func 160) #[] #[(pt g4),(pt g1),(pt g3),(pt g2)],.int .i64 (0)],Fx.cB Tryd.results147 (by exact rfl) (by exact rfl),?_⟩))))))))))))))
   have hD0:=hD1 c37
   have hfe:=hD0.e
   subst hfe
   have b01:w.heap.size<=sI.heap.size:=by omega
   have hEq:jO m v=0:=by unfold jO; rw[if_neg (show ¬ jy m v.o v.req=true by unfold jy; rw[lX fJ]; decide)]; rw[if_neg (by rw[F9]; decide)]; exact c37
   exact⟨⟨_,160,#[(pt g4),(pt g1),(pt g3),(pt g2)],by rw[hEq],rfl,fun _=>⟨rfl,⟨_,_,Tryd.func160,rfl,rfl⟩,fun w2 hb2=>(K9 m lp B w2 ((h.up b9).up hb2) v hv hwf (Lb m v).R sI.heap.size w.heap.size _ (by omega) _ (hD0.up (yS GY.b hb2)) _ _ _ _ (xG.aC (Sb hb2) (Nat.ne_of_lt xG.lt)) (Ar.aC (Sb hb2) (Nat.ne_of_lt Ar.lt)) (Fw.aC (Sb hb2) (Nat.ne_of_lt Fw.lt)) (DF.aC (Sb hb2) (Nat.ne_of_lt DF.lt)) ⟨by omega,by omega,by omega⟩ fJ (fun i hi e=>by have q9:=hga i hi; obtain⟨j9,hj9,e9,f9⟩:=lu.1 q9; exact fJ j9 hj9 ⟨e9.trans e.1,f9.trans e.2⟩)).mono fun _ _ hc=>⟨hc.1,hc.2.1,hc.2.2.mono fun _ hk=>hk⟩⟩⟩,b9⟩
  refine Lv (.bool true) (Fx.jd rfl rfl rfl c37) (Ln (sN (Wc (b:=true) rfl (fun _=>Ws (Wl (Lv (.int .i64 (bR m (fun x=>bf x v.o v.bL) (m.T.path (v.node)))) (ah rfl rfl) ?_))) (fun h=>nomatch h))))
  refine Lv (.nilFunc) (aj rfl rfl) (Lv (.int .i64 (bR m (fun x=>bf x v.o v.bL) (m.T.path (v.node)))) (aj rfl rfl) (Ln (sN (Wr (sR (⟨.tuple #[.nilFunc,.int .i64 (bR m (fun x=>bf x v.o v.bL) (m.T.path (v.node)))],Fx.cB Tryd.results147 (by exact rfl) (by exact rfl),?_⟩))))))
  have hEq:jO m v=bR m (fun x=>bf x v.o v.bL) (m.T.path (v.node)):=by unfold jO; rw[if_neg (show ¬ jy m v.o v.req=true by unfold jy; rw[lX fJ]; decide)]; rw[if_neg (by rw[F9]; decide)]
  exact⟨⟨.nilFunc,0,#[],by rw[hEq],rfl,fun e0=>absurd (hEq.symm.trans e0) (by first|decide|omega|assumption)⟩,b9⟩
 rw[Bool.not_eq_true]at F9
 refine Fx.L.call (by rfl) (rC (args := [(pt m.tp),.int .u64 (v.node)]) rfl rfl Tryd.func72 rfl rfl) rfl ((OZ v.node qX).mono ?_)
 rintro e v1 ⟨he,hv1⟩
 subst v1
 refine⟨.bool false,by rw[he,F9],?_⟩
 clear he
 refine Ln (Rp (.bool true) (fun v1=>Fx.eH rfl rfl) (Fx.R.nil (sN (Wc (b:=true) rfl (fun _=>Ws (Wl (Lv (.nilFunc) (aj rfl rfl) ?_))) (fun h=>nomatch h)))))
 refine Lv (.int .i64 (9)) (aj rfl rfl) (Ln (sN (Wr (sR (⟨.tuple #[.nilFunc,.int .i64 (9)],Fx.cB Tryd.results147 (by exact rfl) (by exact rfl),?_⟩)))))
 have hEq:jO m v=9:=by unfold jO; rw[if_neg (show ¬ jy m v.o v.req=true by unfold jy; rw[lX fJ]; decide)]; exact if_pos F9
 exact⟨⟨.nilFunc,0,#[],by rw[hEq],rfl,fun e0=>absurd (hEq.symm.trans e0) (by first|decide|omega|assumption)⟩,b6⟩
theorem Nw(m:dD)(lp B:Nat)(w:World)(h:iT w B lp m)(v:EvM)(hv:bZ v=true)(hwf:iI v) :
 Calls Tryd.prog 148 #[(pt lp),.agg (Fx.ay 14 (aW v))] w fun e w'=>Iz w B lp m (og m v) (iX m v) e w':=by
 have hC:=h.c
 have hT:=h.t
 have hP:=h.p
 have hR:=h.r
 have hG:=h.g
 have hA:=h.a
 have hN:=h.ne
 have lC:=h.c.lt
 have lT:=h.t.lt
 have lP:=h.p.lt
 have lR:=h.r.lt
 have lG:=h.g.lt
 have lA:=h.a.lt
 obtain⟨a,ha,ho⟩ : ∃ a:Nat,a<6/\v.o=(a:Int)+1:=eF (ig hv)
 have hra:bC v=a:=by unfold bC; omega
 have hko:=wK hv hwf
 have Y6:1<=v.o/\v.o<=6:=by omega
 refine Fx.enter Tryd.func148 rfl (n:=56) rfl (by rfl) ?_
 refine Ws (Wl (Fx.L.box (m:=1) (y:=fun _=>(pt lp)) (by rfl) rfl rfl (Fx.cells_one (by rfl)) rfl fun g1 w1 aZ m1 s1 z1 => ?_))
 have m2:=hC.aC s1 hC.ne
 have m4:=hP.up s1.old
 have m5:=hR.up s1.old
 have m6:=hG.up s1.old
 have m7:=hA.up s1.old
 have b1:=s1.below (Below.refl w.heap.size w) (Below.refl w.heap.size w).size (Below.refl w.heap.size w).size
 have kM:w.heap.size<=g1:=by rw[aZ]; exact(Below.refl w.heap.size w).size
 have jk:lp≠g1:=by rw[aZ]; exact Nat.ne_of_lt (hC.lt)
 have nk:m.pb≠g1:=by rw[aZ]; exact Nat.ne_of_lt (hP.lt)
 have oC:m.rb≠g1:=by rw[aZ]; exact Nat.ne_of_lt (hR.lt)
 have oD:m.gb≠g1:=by rw[aZ]; exact Nat.ne_of_lt (hG.lt)
 have oF:m.ab≠g1:=by rw[aZ]; exact Nat.ne_of_lt (hA.lt)
 have mO:g1<w1.heap.size:=m1.lt
 clear aZ
 refine Fx.L.box (m:=14) (y:=aW v) (by rfl) rfl rfl (Fx.aN _ _) rfl fun g2 w2 bS m8 s2 z2 => ?_
 have m9:=m2.aC s2 m2.ne
 have m11:=m4.up s2.old
 have m12:=m5.up s2.old
 have m13:=m6.up s2.old
 have m14:=m7.up s2.old
 have m15:=m1.aC s2 m1.ne
 have b2:=s2.below b1 b1.size b1.size
 have su:w.heap.size<=g2:=by rw[bS]; exact b1.size
 have CY:lp≠g2:=by rw[bS]; exact Nat.ne_of_lt (m2.lt)
 have uI:m.pb≠g2:=by rw[bS]; exact Nat.ne_of_lt (m4.lt)
 have uJ:m.rb≠g2:=by rw[bS]; exact Nat.ne_of_lt (m5.lt)
 have rF:m.gb≠g2:=by rw[bS]; exact Nat.ne_of_lt (m6.lt)
 have rG:m.ab≠g2:=by rw[bS]; exact Nat.ne_of_lt (m7.lt)
 have pz:g1≠g2:=by rw[bS]; exact Nat.ne_of_lt (m1.lt)
 have vK:g2<w2.heap.size:=m8.lt
 clear bS
 refine Lv (.nilFunc) (aj rfl rfl) (Lv (.int .i64 (0)) (aj rfl rfl) (Ln (sN (Ws ?_))))
 -- region 1 draws
 refine Fx.W.two (T1:=102) (T2:=102) (Wm:=102) (T2':=102) (a1 := .tmp 6) (v1 := .tmp 16) (a2 := .tmp 7) (v2 := .tmp 21) (m1:=2) (m2:=2) (z1:=fun zq=>if zq<1 then .int .i64 (0)else .int .u64 (0)) (y1:=Fx.aX (Fx.aX (fun zq=>if zq<1 then .int .i64 (0)else .int .u64 (0)) 0 1 (fun _ => .int .i64 (v.o))) 1 1 (fun _ => .int .u64 (v.req))) (z2:=fun zq=>if zq<1 then .int .i64 (0)else .int .u64 (0)) (y2:=Fx.aX (Fx.aX (fun zq=>if zq<1 then .int .i64 (0)else .int .u64 (0)) 0 1 (fun _ => .int .i64 (v.o))) 1 1 (fun _ => .int .u64 (v.of))) (u1 := .agg (Fx.ay 2 (Fx.aX (Fx.aX (fun zq=>if zq<1 then .int .i64 (0)else .int .u64 (0)) 0 1 (fun _ => .int .i64 (v.o))) 1 1 (fun _ => .int .u64 (v.req))))) (u2 := .agg (Fx.ay 2 (Fx.aX (Fx.aX (fun zq=>if zq<1 then .int .i64 (0)else .int .u64 (0)) 0 1 (fun _ => .int .i64 (v.o))) 1 1 (fun _ => .int .u64 (v.of))))) 10 11 12 13 [[],[],[],[],[],[],[],[],[],[],[],[],[(0,[10]),(1,[11])],[(0,[10]),(1,[11]),(2,[12])]] [[(2,[0]),(3,[0])],[(2,[1]),(3,[1])],[(2,[2]),(3,[2])],[(2,[3]),(3,[3])],[(2,[4]),(3,[4])],[(3,[5])],[(3,[6])],[(3,[7])],[(3,[8])],[(3,[9])],[(2,[10]),(3,[10])],[(2,[11]),(3,[11])],[(3,[12])],[]] #[(pt g2),.int .i64 (v.o),(pf g2 12),.int .u64 (v.req),.agg (Fx.ay 2 (Fx.aX (Fx.aX (fun zq=>if zq<1 then .int .i64 (0)else .int .u64 (0)) 0 1 (fun _ => .int .i64 (v.o))) 1 1 (fun _ => .int .u64 (v.req)))),(pt g2),.int .i64 (v.o),(pf g2 13),.int .u64 (v.of),.agg (Fx.ay 2 (Fx.aX (Fx.aX (fun zq=>if zq<1 then .int .i64 (0)else .int .u64 (0)) 0 1 (fun _ => .int .i64 (v.o))) 1 1 (fun _ => .int .u64 (v.of)))),undef,undef,undef,undef] (by kernel_rfl) (by kernel_rfl) (by kernel_rfl) (by kernel_rfl) (by kernel_rfl) (by kernel_rfl) (by kernel_rfl) (by kernel_rfl) (by kernel_rfl) (by kernel_rfl) rfl rfl (by kernel_rfl) (by kernel_rfl) rfl rfl rfl rfl (by kernel_rfl) (by kernel_rfl) (fun g3 g4=>(show Fx.ev _ (.tmp 6)=(pt g3)from by kernel_rfl)) (fun g3 g4=>(show Fx.ev _ (.tmp 7)=(pt g4)from by kernel_rfl)) (fun g3 g4=>(show Fx.ev _ (.tmp 16) = .agg (Fx.ay 2 (Fx.aX (Fx.aX (fun zq=>if zq<1 then .int .i64 (0)else .int .u64 (0)) 0 1 (fun _ => .int .i64 (v.o))) 1 1 (fun _ => .int .u64 (v.req))))from by kernel_rfl)) (fun g3 g4=>(show Fx.ev _ (.tmp 21) = .agg (Fx.ay 2 (Fx.aX (Fx.aX (fun zq=>if zq<1 then .int .i64 (0)else .int .u64 (0)) 0 1 (fun _ => .int .i64 (v.o))) 1 1 (fun _ => .int .u64 (v.of))))from by kernel_rfl)) (Fx.aN _ _) (Fx.aN _ _) (Fx.jg (Fx.jg (fun jq _=>by show((fun zq=>if zq<1 then .int .i64 (0)else .int .u64 (0):Nat->Value) jq).oneCell'=true; simp only[]; repeat (first|rfl|split)) (fun _ _=>rfl)) (fun _ _=>rfl)) (Fx.jg (Fx.jg (fun jq _=>by show((fun zq=>if zq<1 then .int .i64 (0)else .int .u64 (0):Nat->Value) jq).oneCell'=true; simp only[]; repeat (first|rfl|split)) (fun _ _=>rfl)) (fun _ _=>rfl)) (fun g3 g4 => ?_) ?_
 ·refine⟨?_,?_,?_,?_,?_,?_,?_,?_,?_,?_,?_,?_,?_,?_,trivial⟩
  ·exact .inr (Fx.gW (v:=(pt g2)) (by kernel_rfl) (by kernel_rfl) (Fx.Bu fun v1 hv1=>au rfl (show Fx.ev _ (.tmp 3)=(pt g2)from by kernel_rfl) Tryd.underlying28 rfl (s:=1) (by kernel_rfl) rfl rfl))
  ·exact .inr (Fx.gW (v := .int .i64 (v.o)) (by kernel_rfl) (by kernel_rfl) (Fx.Bu fun v1 hv1=>ak (x:=aW v) rfl (show Fx.ev _ (.tmp 12)=(pt g2)from by kernel_rfl) (by kernel_rfl) (m8.aL.below hv1 (by have:=m8.lt; omega)) (i:=0) (by omega) (by omega) rfl))
  ·exact .inr (Fx.gW (v:=(pf g2 12)) (by kernel_rfl) (by kernel_rfl) (Fx.Bu fun v1 hv1=>au rfl (show Fx.ev _ (.tmp 3)=(pt g2)from by kernel_rfl) Tryd.underlying28 rfl (s:=1) (by kernel_rfl) rfl (by show _+12=_; omega)))
  ·exact .inr (Fx.gW (v := .int .u64 (v.req)) (by kernel_rfl) (by kernel_rfl) (Fx.Bu fun v1 hv1=>ak (x:=aW v) rfl (show Fx.ev _ (.tmp 14)=(pf g2 12)from by kernel_rfl) (by kernel_rfl) (m8.aL.below hv1 (by have:=m8.lt; omega)) (i:=12) (by omega) (by omega) rfl))
  ·exact .inr (Fx.gW (v := .agg (Fx.ay 2 (Fx.aX (Fx.aX (fun zq=>if zq<1 then .int .i64 (0)else .int .u64 (0)) 0 1 (fun _ => .int .i64 (v.o))) 1 1 (fun _ => .int .u64 (v.req))))) (by kernel_rfl) (by kernel_rfl) (Fx.Bu fun v1 hv1=>bX (vs := [(0,.int .i64 (v.o)),(1,.int .u64 (v.req))]) (places := #[(0,1),(1,1)]) (m:=2) (x:=fun zq=>if zq<1 then .int .i64 (0)else .int .u64 (0)) rfl (Fx.I4 (show Fx.ev _ (.tmp 13) = .int .i64 (v.o)from by kernel_rfl) (show Fx.ev _ (.tmp 15) = .int .u64 (v.req)from by kernel_rfl)) Tryd.underlying102 (by kernel_rfl) (by kernel_rfl) (by rw[Fx.aG (off:=0) (s:=1) (y:=fun _ => .int .i64 (v.o)) (by kernel_rfl) (Fx.cells_one (by rfl)) (by rfl)]; rw[Fx.aG (off:=1) (s:=1) (y:=fun _ => .int .u64 (v.req)) (by kernel_rfl) (Fx.cells_one (by rfl)) (by rfl)]; rfl)))
  ·exact .inr (Fx.gW (v:=(pt g2)) (by kernel_rfl) (by kernel_rfl) (Fx.Bu fun v1 hv1=>au rfl (show Fx.ev _ (.tmp 3)=(pt g2)from by kernel_rfl) Tryd.underlying28 rfl (s:=1) (by kernel_rfl) rfl rfl))
  ·exact .inr (Fx.gW (v := .int .i64 (v.o)) (by kernel_rfl) (by kernel_rfl) (Fx.Bu fun v1 hv1=>ak (x:=aW v) rfl (show Fx.ev _ (.tmp 17)=(pt g2)from by kernel_rfl) (by kernel_rfl) (m8.aL.below hv1 (by have:=m8.lt; omega)) (i:=0) (by omega) (by omega) rfl))
  ·exact .inr (Fx.gW (v:=(pf g2 13)) (by kernel_rfl) (by kernel_rfl) (Fx.Bu fun v1 hv1=>au rfl (show Fx.ev _ (.tmp 3)=(pt g2)from by kernel_rfl) Tryd.underlying28 rfl (s:=1) (by kernel_rfl) rfl (by show _+13=_; omega)))
  ·exact .inr (Fx.gW (v := .int .u64 (v.of)) (by kernel_rfl) (by kernel_rfl) (Fx.Bu fun v1 hv1=>ak (x:=aW v) rfl (show Fx.ev _ (.tmp 19)=(pf g2 13)from by kernel_rfl) (by kernel_rfl) (m8.aL.below hv1 (by have:=m8.lt; omega)) (i:=13) (by omega) (by omega) rfl))
  ·exact .inr (Fx.gW (v := .agg (Fx.ay 2 (Fx.aX (Fx.aX (fun zq=>if zq<1 then .int .i64 (0)else .int .u64 (0)) 0 1 (fun _ => .int .i64 (v.o))) 1 1 (fun _ => .int .u64 (v.of))))) (by kernel_rfl) (by kernel_rfl) (Fx.Bu fun v1 hv1=>bX (vs := [(0,.int .i64 (v.o)),(1,.int .u64 (v.of))]) (places := #[(0,1),(1,1)]) (m:=2) (x:=fun zq=>if zq<1 then .int .i64 (0)else .int .u64 (0)) rfl (Fx.I4 (show Fx.ev _ (.tmp 18) = .int .i64 (v.o)from by kernel_rfl) (show Fx.ev _ (.tmp 20) = .int .u64 (v.of)from by kernel_rfl)) Tryd.underlying102 (by kernel_rfl) (by kernel_rfl) (by rw[Fx.aG (off:=0) (s:=1) (y:=fun _ => .int .i64 (v.o)) (by kernel_rfl) (Fx.cells_one (by rfl)) (by rfl)]; rw[Fx.aG (off:=1) (s:=1) (y:=fun _ => .int .u64 (v.of)) (by kernel_rfl) (Fx.cells_one (by rfl)) (by rfl)]; rfl)))
  ·exact .inl rfl
  ·exact .inl rfl
  ·exact .inl rfl
  exact .inl rfl
 rintro g3 g4 w3 f1 hf1 uY wH ne1 m16 m17 hb1
 have s3:=Sb hb1
 have U5:lp≠g3:=Nat.ne_of_lt (Nat.lt_of_lt_of_le (m9.lt) uY)
 have SH:m.pb≠g3:=Nat.ne_of_lt (Nat.lt_of_lt_of_le (m11.lt) uY)
 have Zb:m.rb≠g3:=Nat.ne_of_lt (Nat.lt_of_lt_of_le (m12.lt) uY)
 have Zc:m.gb≠g3:=Nat.ne_of_lt (Nat.lt_of_lt_of_le (m13.lt) uY)
 have Zd:m.ab≠g3:=Nat.ne_of_lt (Nat.lt_of_lt_of_le (m14.lt) uY)
 have Ze:g1≠g3:=Nat.ne_of_lt (Nat.lt_of_lt_of_le (m15.lt) uY)
 have Ku:g2≠g3:=Nat.ne_of_lt (Nat.lt_of_lt_of_le (m8.lt) uY)
 have acv:lp≠g4:=Nat.ne_of_lt (Nat.lt_of_lt_of_le (m9.lt) wH)
 have Zf:m.pb≠g4:=Nat.ne_of_lt (Nat.lt_of_lt_of_le (m11.lt) wH)
 have Zg:m.rb≠g4:=Nat.ne_of_lt (Nat.lt_of_lt_of_le (m12.lt) wH)
 have Zh:m.gb≠g4:=Nat.ne_of_lt (Nat.lt_of_lt_of_le (m13.lt) wH)
 have SI:m.ab≠g4:=Nat.ne_of_lt (Nat.lt_of_lt_of_le (m14.lt) wH)
 have SK:g1≠g4:=Nat.ne_of_lt (Nat.lt_of_lt_of_le (m15.lt) wH)
 have acw:g2≠g4:=Nat.ne_of_lt (Nat.lt_of_lt_of_le (m8.lt) wH)
 have m18:=m9.aC s3 m9.ne
 have m20:=m11.up s3.old
 have m21:=m12.up s3.old
 have m22:=m13.up s3.old
 have m23:=m14.up s3.old
 have m24:=m15.aC s3 m15.ne
 have qC:=m8.aC s3 m8.ne
 have b3:=s3.below b2 b2.size b2.size
 have uY:w.heap.size<=g3:=Nat.le_trans b2.size uY
 have LW:g3<w3.heap.size:=m16.lt
 have wH:w.heap.size<=g4:=Nat.le_trans b2.size wH
 have M6:g4<w3.heap.size:=m17.lt
 have q1:f1 2=(pt g1):=by rw[hf1]; kernel_rfl
 have q2:f1 3=(pt g2):=by rw[hf1]; kernel_rfl
 have q3:f1 4 = .nilFunc:=by rw[hf1]; kernel_rfl
 have q4:f1 5 = .int .i64 (0):=by rw[hf1]; kernel_rfl
 have q5:f1 6=(pt g3):=by rw[hf1]; kernel_rfl
 have q6:f1 7=(pt g4):=by rw[hf1]; kernel_rfl
 clear hf1
 refine sN (Ws (Ws ?_))
 -- region 2 draws
 refine Fx.W.bH [0,1,2,3,4,5] [4,0,0,4,4,4] Fx.Mk Fx.Mk.refl Fx.Mk.trans (aQ := []) (by kernel_rfl) (by kernel_rfl) (by kernel_rfl) (by kernel_rfl) (by kernel_rfl) fun jc bT fE => ?_
 have s4:Fx.Stp w3.heap.size w3 jc:=Sb bT
 have oZ:=m18.aC s4 m18.ne
 have qV:=m20.up s4.old
 have qD:=m21.up s4.old
 have sJ:=m22.up s4.old
 have mH:=m23.up s4.old
 have m32:=m24.aC s4 m24.ne
 have mI:=qC.aC s4 qC.ne
 have nO:=m16.aC s4 m16.ne
 have qW:=m17.aC s4 m17.ne
 have b4:=s4.below b3 b3.size b3.size
 refine Fx.R.s ((pt lp)) (ak (x:=fun _=>(pt lp)) rfl q1 (by kernel_rfl) m32.aL (i:=0) (by omega) (by omega) rfl) ?_
 refine Rp ((pt lp)) (fun v1=>aO rfl rfl) (Rp ((pf lp 28)) (fun v1=>au rfl rfl Tryd.underlying93 rfl (s:=1) (by kernel_rfl) rfl (by show _+28=_; omega)) (Fx.R.s (.map (some m.ab)) (ak (x:=fM m) rfl rfl (by kernel_rfl) oZ.aL (i:=28) (by omega) (by omega) rfl) ?_))
 refine Fx.R.s (.agg (Fx.ay 2 (Fx.aX (Fx.aX (fun zq=>if zq<1 then .int .i64 (0)else .int .u64 (0)) 0 1 (fun _ => .int .i64 (v.o))) 1 1 (fun _ => .int .u64 (v.req))))) (aK (x:=Fx.aX (Fx.aX (fun zq=>if zq<1 then .int .i64 (0)else .int .u64 (0)) 0 1 (fun _ => .int .i64 (v.o))) 1 1 (fun _ => .int .u64 (v.req))) (y:=Fx.aX (Fx.aX (fun zq=>if zq<1 then .int .i64 (0)else .int .u64 (0)) 0 1 (fun _ => .int .i64 (v.o))) 1 1 (fun _ => .int .u64 (v.req))) rfl q5 (by kernel_rfl) (by kernel_rfl) nO.aL (i:=0) (by omega) (by omega) (fun j _=>by rw[Nat.zero_add])) ?_
 rcases Fx.oQ m.ao m.ar m.an v.o v.req with ⟨dh,gY,iA,Dl⟩|fJ
 ·refine Fx.R.s (.bool true) (Fx.BI (z := .bool false) rfl rfl ((show Fx.ev _ _ = .agg (Fx.ay 2 (Fx.aX (Fx.aX (fun zq=>if zq<1 then .int .i64 (0)else .int .u64 (0)) 0 1 (fun _ => .int .i64 (v.o))) 1 1 (fun _ => .int .u64 (v.req))))from rfl).trans (Fx.qL (y:=Fx.aX (Fx.aX (fun zq=>if zq<1 then .int .i64 (0)else .int .u64 (0)) 0 1 (fun _ => .int .i64 (v.o))) 1 1 (fun _ => .int .u64 (v.req))) (a:=v.o) (b:=v.req) (Fx.rY (by omega) (Fx.lY (j:=0) (by omega) (by omega) rfl)) (Fx.lY (j:=0) (by omega) (by omega) rfl))) hko.1 mH Tryd.underlying90 yN (by rfl) gY iA Dl rfl) ?_
  refine Fx.R.nil (sN (Wc (b:=true) rfl (fun _=>Ws (Wl (Lv (.nilFunc) (aj rfl rfl) ?_))) (fun h=>nomatch h)))
  refine Lv (.int .i64 (14)) (aj rfl rfl) (Ln (sN (Wr (sR (⟨.tuple #[.nilFunc,.int .i64 (14)],Fx.cB Tryd.results148 (by exact rfl) (by exact rfl),?_⟩)))))
  have hEq:iX m v=14:=by unfold iX; exact if_pos (tO gY iA Dl)
  exact⟨⟨.nilFunc,0,#[],by rw[hEq],rfl,fun e0=>absurd (hEq.symm.trans e0) (by first|decide|omega|assumption)⟩,b4⟩
 refine Fx.R.s (.bool false) (Fx.BH (z := .bool false) rfl rfl ((show Fx.ev _ _ = .agg (Fx.ay 2 (Fx.aX (Fx.aX (fun zq=>if zq<1 then .int .i64 (0)else .int .u64 (0)) 0 1 (fun _ => .int .i64 (v.o))) 1 1 (fun _ => .int .u64 (v.req))))from rfl).trans (Fx.qL (y:=Fx.aX (Fx.aX (fun zq=>if zq<1 then .int .i64 (0)else .int .u64 (0)) 0 1 (fun _ => .int .i64 (v.o))) 1 1 (fun _ => .int .u64 (v.req))) (a:=v.o) (b:=v.req) (Fx.rY (by omega) (Fx.lY (j:=0) (by omega) (by omega) rfl)) (Fx.lY (j:=0) (by omega) (by omega) rfl))) hko.1 mH Tryd.underlying90 yN (by rfl) fJ) ?_
 refine Fx.R.nil (sN (Wc (b:=false) rfl (fun h=>nomatch h) (fun _=>Wk (sN (Ws ?_)))))
 -- region 4 draws
 refine Fx.W.bH [0,1,2,3,4,5,6,7,8,9,10,11] [1,0,0,1,1,1,0,0,0,2,3,0] Fx.Mk Fx.Mk.refl Fx.Mk.trans (aQ := [(10,0,[0]),(10,3,[3]),(10,4,[4]),(10,5,[5]),(10,9,[9]),(11,9,[9]),(11,10,[10])]) (by kernel_rfl) (by kernel_rfl) (by kernel_rfl) (by kernel_rfl) (by kernel_rfl) fun sI fU mR => ?_
 have s5:Fx.Stp jc.heap.size jc sI:=Sb fU
 have nu:=oZ.aC s5 oZ.ne
 have vM:=qV.up s5.old
 have qE:=qD.up s5.old
 have qm:=sJ.up s5.old
 have nP:=mH.up s5.old
 have oH:=m32.aC s5 m32.ne
 have oo:=mI.aC s5 mI.ne
 have tT:=nO.aC s5 nO.ne
 have pq:=qW.aC s5 qW.ne
 have b5:=s5.below b4 b4.size b4.size
 refine Fx.R.read (v:=(pt lp)) (by rfl) (by rfl) (Fx.Mk.refl _) (fun v1 hv1=>ak (x:=fun _=>(pt lp)) rfl q1 (by kernel_rfl) (oH.aL.below hv1 (by have:=oH.lt; omega)) (i:=0) (by omega) (by omega) rfl) ?_
 refine Rp ((pt lp)) (fun v1=>aO rfl rfl) (Rp ((pf lp 27)) (fun v1=>au rfl rfl Tryd.underlying93 rfl (s:=1) (by kernel_rfl) rfl (by show _+27=_; omega)) (Fx.R.read (v := .map (some m.gb)) (by rfl) (by rfl) (Fx.Mk.refl _) (fun v1 hv1=>ak (x:=fM m) rfl rfl (by kernel_rfl) (nu.aL.below hv1 (by have:=nu.lt; omega)) (i:=27) (by omega) (by omega) rfl) ?_))
 refine Fx.R.read (v := .agg (Fx.ay 2 (Fx.aX (Fx.aX (fun zq=>if zq<1 then .int .i64 (0)else .int .u64 (0)) 0 1 (fun _ => .int .i64 (v.o))) 1 1 (fun _ => .int .u64 (v.of))))) (by rfl) (by rfl) (Fx.Mk.refl _) (fun v1 hv1=>aK (x:=Fx.aX (Fx.aX (fun zq=>if zq<1 then .int .i64 (0)else .int .u64 (0)) 0 1 (fun _ => .int .i64 (v.o))) 1 1 (fun _ => .int .u64 (v.of))) (y:=Fx.aX (Fx.aX (fun zq=>if zq<1 then .int .i64 (0)else .int .u64 (0)) 0 1 (fun _ => .int .i64 (v.o))) 1 1 (fun _ => .int .u64 (v.of))) rfl q6 (by kernel_rfl) (by kernel_rfl) (pq.aL.below hv1 (by have:=pq.lt; omega)) (i:=0) (by omega) (by omega) (fun j _=>by rw[Nat.zero_add])) ?_
 rcases Fx.oQ (fun i=>m.g i 0) (fun i=>m.g i 1) m.gn v.o v.of with ⟨gG,yg,yh,yj⟩|Pm
 ·refine Fx.R.read (v := .tuple #[.agg (Fx.ay 5 (iJ (m.g gG))),.bool true]) (by rfl) (by rfl) (Fx.Mk.refl _) (fun v1 hv1=>Fx.GN (z := .agg (Fx.ay 5 (fun zq=>if zq<1 then .int .i64 (0)else if zq<3 then .int .u64 (0)else if zq<4 then .int .i64 (0)else .int .u64 (0)))) rfl rfl ((show Fx.ev _ _ = .agg (Fx.ay 2 (Fx.aX (Fx.aX (fun zq=>if zq<1 then .int .i64 (0)else .int .u64 (0)) 0 1 (fun _ => .int .i64 (v.o))) 1 1 (fun _ => .int .u64 (v.of))))from rfl).trans (Fx.qL (y:=Fx.aX (Fx.aX (fun zq=>if zq<1 then .int .i64 (0)else .int .u64 (0)) 0 1 (fun _ => .int .i64 (v.o))) 1 1 (fun _ => .int .u64 (v.of))) (a:=v.o) (b:=v.of) (Fx.rY (by omega) (Fx.lY (j:=0) (by omega) (by omega) rfl)) (Fx.lY (j:=0) (by omega) (by omega) rfl))) hko.2 (qm.up hv1) Tryd.underlying89 yN (by kernel_rfl) yg yh yj rfl) ?_
  refine Rp (.tuple #[.agg (Fx.ay 5 (iJ (m.g gG))),.bool true]) (fun v1=>ah rfl rfl) (Rp (.agg (Fx.ay 5 (iJ (m.g gG)))) (fun v1=>Fx.aD rfl rfl rfl) (Rp (.bool true) (fun v1=>Fx.aD rfl rfl rfl) (Fx.R.make (by rfl) ?_)))
  refine Fx.L.new (m:=5) (y:=fun zq=>if zq<1 then .int .i64 (0)else if zq<3 then .int .u64 (0)else if zq<4 then .int .i64 (0)else .int .u64 (0)) (by rfl) rfl (by kernel_rfl) rfl fun g5 w4 wL qX s6 z3 => ?_
  have uZ:=nu.aC s6 nu.ne
  have sK:=vM.up s6.old
  have ny:=qE.up s6.old
  have qo:=qm.up s6.old
  have tV:=nP.up s6.old
  have sM:=oH.aC s6 oH.ne
  have rT:=oo.aC s6 oo.ne
  have vN:=tT.aC s6 tT.ne
  have uw:=pq.aC s6 pq.ne
  have b6:=s6.below b5 b5.size b5.size
  have Wn:w.heap.size<=g5:=by rw[wL]; exact b5.size
  have Zi:lp≠g5:=by rw[wL]; exact Nat.ne_of_lt (nu.lt)
  have Zj:m.pb≠g5:=by rw[wL]; exact Nat.ne_of_lt (vM.lt)
  have Zk:m.rb≠g5:=by rw[wL]; exact Nat.ne_of_lt (qE.lt)
  have Zl:m.gb≠g5:=by rw[wL]; exact Nat.ne_of_lt (qm.lt)
  have Zm:m.ab≠g5:=by rw[wL]; exact Nat.ne_of_lt (nP.lt)
  have Zn:g1≠g5:=by rw[wL]; exact Nat.ne_of_lt (oH.lt)
  have Zo:g2≠g5:=by rw[wL]; exact Nat.ne_of_lt (oo.lt)
  have Zp:g3≠g5:=by rw[wL]; exact Nat.ne_of_lt (tT.lt)
  have Zq:g4≠g5:=by rw[wL]; exact Nat.ne_of_lt (pq.lt)
  have tg5:g5<w4.heap.size:=qX.lt
  clear wL
  refine Ln ⟨s6.old,?_⟩
  refine Fx.R.fP (by rfl) ?_
  refine Fx.L.dY (x:=fun zq=>if zq<1 then .int .i64 (0)else if zq<3 then .int .u64 (0)else if zq<4 then .int .i64 (0)else .int .u64 (0)) (y:=iJ (m.g gG)) (by rfl) rfl rfl rfl rfl (fun j hj=>by rcases j with _|_|_|_|_|_|_|_|_|_|_|_|_|_|j <;> first|rfl|omega) (by kernel_rfl) qX (i:=0) (by omega) fun w5 nQ s7 z4 => ?_
  have qY:Fx.aP w5 g5 5 (iJ (m.g gG)) 99:=Fx.dF nQ
  have qM:Fx.aP w5 g5 5 (iJ (m.g gG)) 99:=qY
  have aT:=Fx.gD.bP s7 qX.ty
  have lM:=uZ.aU aT (by decide)
  have oI:=sK.aU aT trivial
  have sO:=ny.aU aT trivial
  have m64:=qo.aU aT trivial
  have xD:=tV.aU aT trivial
  have zm:=sM.aU aT (by decide)
  have yA:=rT.aU aT (by decide)
  have yB:=vN.aU aT (by decide)
  have tX:=uw.aU aT (by decide)
  have b7:=s7.below b6 b6.size (by omega)
  refine Ln (Rp (.bool true) (fun v1=>aj rfl rfl) (Fx.R.nil (sN (Ws (Ws (Wl (Lv (.bool true) (ah rfl rfl) ?_)))))))
  refine Lv (.bool false) (Fx.dZ rfl rfl) (Lv (.bool false) (ah rfl rfl) (Lv ((pf g5 4)) (au rfl rfl Tryd.underlying99 rfl (s:=1) (by kernel_rfl) rfl (by show _+4=_; omega)) (Lv (.int .u64 ((m.g gG) 4)) (ak (x:=iJ (m.g gG)) rfl rfl (by kernel_rfl) qM.aL (i:=4) (by omega) (by omega) rfl) ?_)))
  by_cases OM:((m.g gG) 4)=0
  ·refine Lv (.bool false) (Fx.gu rfl rfl rfl OM) (Lv (.bool false) (aJ rfl rfl rfl) (Ln (sN (Wc (b:=false) rfl (fun h=>nomatch h) (fun _=>Wk (sN (Ws (Wl (Lv ((pt lp)) (ak (x:=fun _=>(pt lp)) rfl q1 (by kernel_rfl) zm.aL (i:=0) (by omega) (by omega) rfl) (Lv ((pf g5 2)) (au rfl rfl Tryd.underlying99 rfl (s:=1) (by kernel_rfl) rfl (by show _+2=_; omega)) (Lv (.int .u64 ((m.g gG) 2)) (ak (x:=iJ (m.g gG)) rfl rfl (by kernel_rfl) qM.aL (i:=2) (by omega) (by omega) rfl) (Lv (.func (.func 161) #[] #[(pt g2),(pt g5)]) (Fx.jf (us := []) (vs := [(pt g2),(pt g5)]) rfl rfl (Fx.args2 q2 rfl)) (Fx.L.call (by rfl) (rC (args := [(pt lp),.int .u64 ((m.g gG) 2),.func (.func 161) #[] #[(pt g2),(pt g5)]]) rfl rfl Tryd.func157 rfl rfl) rfl ((K7 m lp B _ (h.up b7) ((m.g gG) 2) v (m.g gG) Y6 g2 g5 yA qM).mono ?_))))))))))))))
   rintro e9 w6 ⟨⟨fv1,Vs,oG,he,ho1,hD1⟩,hb2⟩
   refine⟨_,he,?_⟩
   clear he
   have s8:=Sb hb2
   have yK:=lM.aC s8 lM.ne
   have xE:=oI.up s8.old
   have sP:=sO.up s8.old
   have zn:=m64.up s8.old
   have xG:=xD.up s8.old
   have Aq:=zm.aC s8 zm.ne
   have Ce:=yA.aC s8 yA.ne
   have Cg:=yB.aC s8 yB.ne
   have Ch:=tX.aC s8 tX.ne
   have vP:=qM.aC s8 qM.ne
   have b8:=s8.below b7 b7.size b7.size
   have Vt:Bw w6 w6:=⟨Below.refl _ _⟩
   refine Lv (.tuple #[fv1,.int .i64 (bR m (fun x=>bA x v.o (m.g gG 3)) (m.T.path ((m.g gG) 2)))]) (ah rfl rfl) (Lv (fv1) (Fx.aD rfl rfl rfl) (Lv (.int .i64 (bR m (fun x=>bA x v.o (m.g gG 3)) (m.T.path ((m.g gG) 2)))) (Fx.aD rfl rfl rfl) (Fx.L.new (m:=1) (y:=fun _ => .nilFunc) (by rfl) rfl (by kernel_rfl) rfl fun g6 w7 zS yC s9 z5 => ?_)))
   have D9:=Aq.aC s9 Aq.ne
   have G5:=Ce.aC s9 Ce.ne
   have Fy:=Cg.aC s9 Cg.ne
   have IC:=Ch.aC s9 Ch.ne
   have IE:=vP.aC s9 vP.ne
   have F4:=Vt.up s9.old
   have b9:=s9.below b8 b8.size b8.size
   have lg6:w.heap.size<=g6:=by rw[zS]; exact b8.size
   have Zr:lp≠g6:=by rw[zS]; exact Nat.ne_of_lt (yK.lt)
   have Zt:m.pb≠g6:=by rw[zS]; exact Nat.ne_of_lt (xE.lt)
   have Zu:m.rb≠g6:=by rw[zS]; exact Nat.ne_of_lt (sP.lt)
   have Zv:m.gb≠g6:=by rw[zS]; exact Nat.ne_of_lt (zn.lt)
   have Zw:m.ab≠g6:=by rw[zS]; exact Nat.ne_of_lt (xG.lt)
   have Zx:g1≠g6:=by rw[zS]; exact Nat.ne_of_lt (Aq.lt)
   have Zy:g2≠g6:=by rw[zS]; exact Nat.ne_of_lt (Ce.lt)
   have Zz:g3≠g6:=by rw[zS]; exact Nat.ne_of_lt (Cg.lt)
   have ZA:g4≠g6:=by rw[zS]; exact Nat.ne_of_lt (Ch.lt)
   have ZB:g5≠g6:=by rw[zS]; exact Nat.ne_of_lt (vP.lt)
   have tg6:g6<w7.heap.size:=yC.lt
   have kg6:w6.heap.size<=g6:=by rw[zS]; exact Vt.b.size
   clear zS
   refine Fx.L.bV (x:=fun _ => .nilFunc) (u:=fv1) (by rfl) rfl rfl rfl rfl ho1 (by kernel_rfl) yC (i:=0) (by omega) fun w8 H8 s10 z6 => ?_
   have DL:Fx.aP w8 g6 1 (fun _=>fv1) 94:=Fx.je H8
   have dL:=Fx.gD.bP s10 yC.ty
   have vW:=D9.aU dL (by decide)
   have vX:=G5.aU dL (by decide)
   have Dh:=Fy.aU dL (by decide)
   have xX:=IC.aU dL (by decide)
   have xY:=IE.aU dL (by decide)
   have xZ:=(⟨s10.below F4.b F4.b.size kg6⟩:Bw w6 _)
   have b10:=s10.below b9 b9.size (by omega)
   refine Lv (.int .i64 (bR m (fun x=>bA x v.o (m.g gG 3)) (m.T.path ((m.g gG) 2)))) (aj rfl rfl) (Ln (sN (Ws (Ws (Wl (Lv (.int .i64 (bR m (fun x=>bA x v.o (m.g gG 3)) (m.T.path ((m.g gG) 2)))) (ah rfl rfl) ?_))))))
   by_cases c53:(bR m (fun x=>bA x v.o (m.g gG 3)) (m.T.path ((m.g gG) 2)))=0
   ·refine Lv (.bool false) (Fx.gu rfl rfl rfl c53) (Ln (sN (Wc (b:=false) rfl (fun h=>nomatch h) (fun _=>Wk (sN (Ws (Wl (Lv (.func (.func 163) #[] #[(pt g6),(pt g1),(pt g3),(pt g2),(pt g5),(pt g4)]) (Fx.jf (us := []) (vs := [(pt g6),(pt g1),(pt g3),(pt g2),(pt g5),(pt g4)]) rfl rfl (Fx.Vr rfl q1 q5 q2 rfl q6)) (Lv (.func (.func 163) #[] #[(pt g6),(pt g1),(pt g3),(pt g2),(pt g5),(pt g4)]) (aj rfl rfl) (Lv (.int .i64 (0)) (aj rfl rfl) (Ln (sN (Wr (⟨.tuple #[.func (.func 163) #[] #[(pt g6),(pt g1),(pt g3),(pt g2),(pt g5),(pt g4)],.int .i64 (0)],Fx.cB Tryd.results148 (by exact rfl) (by exact rfl),?_⟩))))))))))))))
    have eg:lD m v.o v.of=gG:=tQ h.g.inj yg yh yj
    have hD0:=hD1 c53
    have hfe:=hD0.e
    subst hfe
    have em:og m v=F7 m (kY m (fun x=>bA x v.o (m.g gG 3)) (m.T.path (m.g gG 2))).R v gG:=by unfold og Lc; rw[eg]
    rw[em]
    have hEq:iX m v=0:=by unfold iX; rw[if_neg (show ¬ jy m v.o v.req=true by unfold jy; rw[lX fJ]; decide)]; rw[if_neg (show ¬ (Ba m v.o v.of=false\/m.g (lD m v.o v.of) 4≠0) by rw[eg,show Ba m v.o v.of=true from tO yg yh yj]; rintro (q|q) <;> first|(exact absurd q (by decide))|omega),eg]; exact c53
    exact⟨⟨_,163,#[(pt g6),(pt g1),(pt g3),(pt g2),(pt g5),(pt g4)],by rw[hEq],rfl,fun _=>⟨rfl,⟨_,_,Tryd.func163,rfl,rfl⟩,fun w2 hb2=>(La m lp B w2 ((h.up b10).up hb2) v hv hwf _ w5.heap.size w.heap.size _ (by omega) _ (hD0.up (yS xZ.b hb2)) gG _ _ _ _ _ _ (DL.aC (Sb hb2) (Nat.ne_of_lt DL.lt)) (vW.aC (Sb hb2) (Nat.ne_of_lt vW.lt)) (Dh.aC (Sb hb2) (Nat.ne_of_lt Dh.lt)) (vX.aC (Sb hb2) (Nat.ne_of_lt vX.lt)) (xY.aC (Sb hb2) (Nat.ne_of_lt xY.lt)) (xX.aC (Sb hb2) (Nat.ne_of_lt xX.lt)) Wn ⟨by omega,by omega,by omega,by omega,by omega⟩ fJ yg yh yj).mono fun _ _ hc=>⟨hc.1,hc.2.1,hc.2.2.mono fun _ hk=>hk⟩⟩⟩,b10⟩
   refine Lv (.bool true) (Fx.jd rfl rfl rfl c53) (Ln (sN (Wc (b:=true) rfl (fun _=>Ws (Wl (Lv (.int .i64 (bR m (fun x=>bA x v.o (m.g gG 3)) (m.T.path ((m.g gG) 2)))) (ah rfl rfl) ?_))) (fun h=>nomatch h))))
   refine Lv (.nilFunc) (aj rfl rfl) (Lv (.int .i64 (bR m (fun x=>bA x v.o (m.g gG 3)) (m.T.path ((m.g gG) 2)))) (aj rfl rfl) (Ln (sN (Wr (sR (⟨.tuple #[.nilFunc,.int .i64 (bR m (fun x=>bA x v.o (m.g gG 3)) (m.T.path ((m.g gG) 2)))],Fx.cB Tryd.results148 (by exact rfl) (by exact rfl),?_⟩))))))
   have eg:lD m v.o v.of=gG:=tQ h.g.inj yg yh yj
   have hEq:iX m v=bR m (fun x=>bA x v.o (m.g gG 3)) (m.T.path ((m.g gG) 2)):=by unfold iX; rw[if_neg (show ¬ jy m v.o v.req=true by unfold jy; rw[lX fJ]; decide)]; rw[if_neg (show ¬ (Ba m v.o v.of=false\/m.g (lD m v.o v.of) 4≠0) by rw[eg,show Ba m v.o v.of=true from tO yg yh yj]; rintro (q|q) <;> first|(exact absurd q (by decide))|omega),eg]
   exact⟨⟨.nilFunc,0,#[],by rw[hEq],rfl,fun e0=>absurd (hEq.symm.trans e0) (by first|decide|omega|assumption)⟩,b10⟩
  refine Lv (.bool true) (Fx.jd rfl rfl rfl OM) (Lv (.bool true) (aJ rfl rfl rfl) (Ln (sN (Wc (b:=true) rfl (fun _=>Ws (Wl (Lv (.nilFunc) (aj rfl rfl) ?_))) (fun h=>nomatch h)))))
  refine Lv (.int .i64 (12)) (aj rfl rfl) (Ln (sN (Wr (sR (⟨.tuple #[.nilFunc,.int .i64 (12)],Fx.cB Tryd.results148 (by exact rfl) (by exact rfl),?_⟩)))))
  have eg:lD m v.o v.of=gG:=tQ h.g.inj yg yh yj
  have hEq:iX m v=12:=by unfold iX; rw[if_neg (show ¬ jy m v.o v.req=true by unfold jy; rw[lX fJ]; decide)]; exact if_pos (.inr (by rw[eg]; omega))
  exact⟨⟨.nilFunc,0,#[],by rw[hEq],rfl,fun e0=>absurd (hEq.symm.trans e0) (by first|decide|omega|assumption)⟩,b7⟩
 refine Fx.R.read (v := .tuple #[.agg (Fx.ay 5 (fun zq=>if zq<1 then .int .i64 (0)else if zq<3 then .int .u64 (0)else if zq<4 then .int .i64 (0)else .int .u64 (0))),.bool false]) (by rfl) (by rfl) (Fx.Mk.refl _) (fun v1 hv1=>Fx.GL (z := .agg (Fx.ay 5 (fun zq=>if zq<1 then .int .i64 (0)else if zq<3 then .int .u64 (0)else if zq<4 then .int .i64 (0)else .int .u64 (0)))) rfl rfl ((show Fx.ev _ _ = .agg (Fx.ay 2 (Fx.aX (Fx.aX (fun zq=>if zq<1 then .int .i64 (0)else .int .u64 (0)) 0 1 (fun _ => .int .i64 (v.o))) 1 1 (fun _ => .int .u64 (v.of))))from rfl).trans (Fx.qL (y:=Fx.aX (Fx.aX (fun zq=>if zq<1 then .int .i64 (0)else .int .u64 (0)) 0 1 (fun _ => .int .i64 (v.o))) 1 1 (fun _ => .int .u64 (v.of))) (a:=v.o) (b:=v.of) (Fx.rY (by omega) (Fx.lY (j:=0) (by omega) (by omega) rfl)) (Fx.lY (j:=0) (by omega) (by omega) rfl))) hko.2 (qm.up hv1) Tryd.underlying89 yN (by kernel_rfl) Pm) ?_
 refine Rp (.tuple #[.agg (Fx.ay 5 (fun zq=>if zq<1 then .int .i64 (0)else if zq<3 then .int .u64 (0)else if zq<4 then .int .i64 (0)else .int .u64 (0))),.bool false]) (fun v1=>ah rfl rfl) (Rp (.agg (Fx.ay 5 (fun zq=>if zq<1 then .int .i64 (0)else if zq<3 then .int .u64 (0)else if zq<4 then .int .i64 (0)else .int .u64 (0)))) (fun v1=>Fx.aD rfl rfl rfl) (Rp (.bool false) (fun v1=>Fx.aD rfl rfl rfl) (Fx.R.make (by rfl) ?_)))
 refine Fx.L.new (m:=5) (y:=fun zq=>if zq<1 then .int .i64 (0)else if zq<3 then .int .u64 (0)else if zq<4 then .int .i64 (0)else .int .u64 (0)) (by rfl) rfl (by kernel_rfl) rfl fun g7 w9 Ld vY s11 z7 => ?_
 have b11:=s11.below b5 b5.size b5.size
 have lg7:w.heap.size<=g7:=by rw[Ld]; exact b5.size
 have Wo:lp≠g7:=by rw[Ld]; exact Nat.ne_of_lt (nu.lt)
 have Wp:m.pb≠g7:=by rw[Ld]; exact Nat.ne_of_lt (vM.lt)
 have Wq:m.rb≠g7:=by rw[Ld]; exact Nat.ne_of_lt (qE.lt)
 have Wt:m.gb≠g7:=by rw[Ld]; exact Nat.ne_of_lt (qm.lt)
 have Wu:m.ab≠g7:=by rw[Ld]; exact Nat.ne_of_lt (nP.lt)
 have Wv:g1≠g7:=by rw[Ld]; exact Nat.ne_of_lt (oH.lt)
 have Ww:g2≠g7:=by rw[Ld]; exact Nat.ne_of_lt (oo.lt)
 have Wx:g3≠g7:=by rw[Ld]; exact Nat.ne_of_lt (tT.lt)
 have Wy:g4≠g7:=by rw[Ld]; exact Nat.ne_of_lt (pq.lt)
 have tg7:g7<w9.heap.size:=vY.lt
 clear Ld
 refine Ln ⟨s11.old,?_⟩
 refine Fx.R.fP (by rfl) ?_
 refine Fx.L.dY (x:=fun zq=>if zq<1 then .int .i64 (0)else if zq<3 then .int .u64 (0)else if zq<4 then .int .i64 (0)else .int .u64 (0)) (y:=fun zq=>if zq<1 then .int .i64 (0)else if zq<3 then .int .u64 (0)else if zq<4 then .int .i64 (0)else .int .u64 (0)) (by rfl) rfl rfl rfl rfl (fun j hj=>by rcases j with _|_|_|_|_|_|_|_|_|_|_|_|_|_|j <;> first|rfl|omega) (by kernel_rfl) vY (i:=0) (by omega) fun wo yP s12 z8 => ?_
 have KW:Fx.aP wo g7 5 (fun zq=>if zq<1 then .int .i64 (0)else if zq<3 then .int .u64 (0)else if zq<4 then .int .i64 (0)else .int .u64 (0)) 99:=Fx.dF yP
 have b12:=s12.below b11 b11.size (by omega)
 refine Ln (Rp (.bool false) (fun v1=>aj rfl rfl) (Fx.R.nil (sN (Ws (Ws (Wl (Lv (.bool false) (ah rfl rfl) ?_)))))))
 refine Lv (.bool true) (Fx.eH rfl rfl) (Lv (.bool true) (ah rfl rfl) (Lk (by rfl) rfl (Lk (by rfl) rfl (Lk (by rfl) rfl (Lv (.bool true) (aA rfl rfl rfl) (Ln (sN (Wc (b:=true) rfl (fun _=>Ws (Wl (Lv (.nilFunc) (aj rfl rfl) ?_))) (fun h=>nomatch h)))))))))
 refine Lv (.int .i64 (12)) (aj rfl rfl) (Ln (sN (Wr (sR (⟨.tuple #[.nilFunc,.int .i64 (12)],Fx.cB Tryd.results148 (by exact rfl) (by exact rfl),?_⟩)))))
 have hEq:iX m v=12:=by unfold iX; rw[if_neg (show ¬ jy m v.o v.req=true by unfold jy; rw[lX fJ]; decide)]; exact if_pos (.inl (lX Pm))
 exact⟨⟨.nilFunc,0,#[],by rw[hEq],rfl,fun e0=>absurd (hEq.symm.trans e0) (by first|decide|omega|assumption)⟩,b12⟩
set_option maxRecDepth 20000
set_option linter.unusedVariables false
namespace Rt
noncomputable def fZ(m:dD)(v:EvM):dD:=if v.kind=1 then zO m v else if v.kind=2 then rE m v else if v.kind=3 then pX m v else if v.kind=4 then og m v else if v.kind=5 then CV m v else if v.kind=6 then CW m v else xS m v
def eT(m:dD)(v:EvM):Int:=if v.kind=1 then jw m v else if v.kind=2 then jv m v else if v.kind=3 then jO m v else if v.kind=4 then iX m v else if v.kind=5 then jN m v else if v.kind=6 then 0 else 0
def bB(m:dD)(v:EvM):Int:=if bZ v=false then 1 else if vg m.known v=true then 14 else if fV m.known v=false then 13 else if m.inn (bC v)=false\/m.left (bC v)=true then 10 else eT m v
structure Vu(m:dD):Prop where
 own : ∀ a,a<6->0<=m.own a/\m.own a<=1000
 row : ∀ i,i<m.T.n -> ∀ p,p<54->0<=m.R i p/\m.R i p<=1125899906842624
 ga:SG m
 kn:JH m.known
def Vv(k:Nat):Nat:=if k=1 then 145 else if k=2 then 146 else if k=3 then 147 else if k=4 then 148 else if k=5 then 149 else if k=6 then 150 else 151
def yR:Nat->Value:=fun p=>if p=0 then .nilFunc else .func (.func (Vv p)) #[] #[]
theorem Ny{p:Nat}(h:1<=p):yR p = .func (.func (Vv p)) #[] #[]:=if_neg (by omega)
end Rt
theorem Vw {k : Nat} (h1 : 1 ≤ k) (h7 : k ≤ 7) : ∃ fn c, Tryd.prog.funcs[Vv k]? = some fn ∧ (fn.name == "runtime.NumGoroutine") = false ∧ fn.body = some c := by
 rcases(show k=1\/k=2\/k=3\/k=4\/k=5\/k=6\/k=7 by omega)with rfl|rfl|rfl|rfl|rfl|rfl|rfl
 ·exact⟨_,_,Tryd.func145,rfl,rfl⟩
 ·exact⟨_,_,Tryd.func146,rfl,rfl⟩
 ·exact⟨_,_,Tryd.func147,rfl,rfl⟩
 ·exact⟨_,_,Tryd.func148,rfl,rfl⟩
 ·exact⟨_,_,Tryd.func149,rfl,rfl⟩
 ·exact⟨_,_,Tryd.func150,rfl,rfl⟩
 exact⟨_,_,Tryd.func151,rfl,rfl⟩
theorem M5.low{w:World}{B lp b0 b1 fi:Nat}{m m':dD}{fv:Value}{cap:Array Value}(h:M5 w B lp m m' b0 fv fi cap)(hb:b1<=b0):M5 w B lp m m' b1 fv fi cap := { h with s:=fun w2 hb2=>(h.s w2 hb2).mono fun _ _ hc=>⟨hc.1,hc.2.1,hc.2.2.mono fun k hk=>hk.imp id (Nat.le_trans hb)⟩ }
theorem Nz(m:dD)(lp B:Nat)(w:World)(h:iT w B lp m)(v:EvM)(hv:bZ v=true)(hwf:iI v)(hm:Vu m)(k:Nat)(hkd:v.kind=(k:Int))(hk1:1<=k/\k<=7) :
 Calls Tryd.prog (Vv k) #[(pt lp),.agg (Fx.ay 14 (aW v))] w (Iz w B lp m (fZ m v) (eT m v)):=by
 rcases(show k=1\/k=2\/k=3\/k=4\/k=5\/k=6\/k=7 by omega)with rfl|rfl|rfl|rfl|rfl|rfl|rfl
 ·have hk:v.kind=1:=by omega
  rw[show fZ m v=zO m v by unfold fZ; rw[if_pos (by omega)],show eT m v=jw m v by unfold eT; rw[if_pos (by omega)]]
  exact Nq m lp B w h v hv hm.own
 ·have hk:v.kind=2:=by omega
  rw[show fZ m v=rE m v by unfold fZ; rw[if_neg (by omega),if_pos (by omega)],show eT m v=jv m v by unfold eT; rw[if_neg (by omega),if_pos (by omega)]]
  exact KC m lp B w h v hv hk hm.row
 ·have hk:v.kind=3:=by omega
  rw[show fZ m v=pX m v by unfold fZ; rw[if_neg (by omega),if_neg (by omega),if_pos (by omega)],show eT m v=jO m v by unfold eT; rw[if_neg (by omega),if_neg (by omega),if_pos (by omega)]]
  exact Nv m lp B w h v hv hwf hm.ga
 ·have hk:v.kind=4:=by omega
  rw[show fZ m v=og m v by unfold fZ; rw[if_neg (by omega),if_neg (by omega),if_neg (by omega),if_pos (by omega)],show eT m v=iX m v by unfold eT; rw[if_neg (by omega),if_neg (by omega),if_neg (by omega),if_pos (by omega)]]
  exact Nw m lp B w h v hv hwf
 ·have hk:v.kind=5:=by omega
  rw[show fZ m v=CV m v by unfold fZ; rw[if_neg (by omega),if_neg (by omega),if_neg (by omega),if_neg (by omega),if_pos (by omega)],show eT m v=jN m v by unfold eT; rw[if_neg (by omega),if_neg (by omega),if_neg (by omega),if_neg (by omega),if_pos (by omega)]]
  exact M8 m lp B w h v hv hk
 ·have hk:v.kind=6:=by omega
  rw[show fZ m v=CW m v by unfold fZ; rw[if_neg (by omega),if_neg (by omega),if_neg (by omega),if_neg (by omega),if_neg (by omega),if_pos (by omega)],show eT m v=0 by unfold eT; rw[if_neg (by omega),if_neg (by omega),if_neg (by omega),if_neg (by omega),if_neg (by omega),if_pos (by omega)]]
  obtain⟨b,hb,hd⟩:=Hq hv hk
  exact M9 m lp B w h v hv b hb hd
 have hk:v.kind=7:=by omega
 rw[show fZ m v=xS m v by unfold fZ; rw[if_neg (by omega),if_neg (by omega),if_neg (by omega),if_neg (by omega),if_neg (by omega),if_neg (by omega)],show eT m v=0 by unfold eT; rw[if_neg (by omega),if_neg (by omega),if_neg (by omega),if_neg (by omega),if_neg (by omega),if_neg (by omega)]]
 exact KG m lp B w h v hv
theorem Ga(m:dD)(lp B:Nat)(w:World)(h:iT w B lp m)(v:EvM)(hwf:iI v)(hm:Vu m)(hB:1<=B)(hK:Fx.jT w 0 0 8 yR) :
 Calls Tryd.prog 29 #[(pt lp),.agg (Fx.ay 14 (aW v))] w fun e w'=>Iz w B lp m (fZ m v) (bB m v) e w':=by
 have hC:=h.c
 have hT:=h.t
 have hP:=h.p
 have hR:=h.r
 have hG:=h.g
 have hA:=h.a
 have hN:=h.ne
 have lC:=h.c.lt
 have lT:=h.t.lt
 have lP:=h.p.lt
 have lR:=h.r.lt
 have lG:=h.g.lt
 have lA:=h.a.lt
 obtain⟨kd,hkd⟩ : ∃ kd:Nat,v.kind=(kd:Int):=⟨v.kind.toNat,by have:=hwf.kind; omega⟩
 have hKr:Kr m.known:=fun i hi=>by have:=hm.kn i hi; exact⟨by omega,by omega⟩
 refine Fx.enter Tryd.func29 rfl (n:=55) rfl (by rfl) ?_
 refine Ws (Wl (Fx.L.box (m:=14) (y:=aW v) (by rfl) rfl rfl (Fx.aN _ _) rfl fun g1 w1 aZ m1 s1 z1 => ?_))
 have m2:=hC.aC s1 hC.ne
 have m8:=hK.aC s1 (Nat.ne_of_lt (hK.lt (by omega)))
 have b1:=s1.below (Below.refl w.heap.size w) (Below.refl w.heap.size w).size (Below.refl w.heap.size w).size
 have kM:w.heap.size<=g1:=by rw[aZ]; exact(Below.refl w.heap.size w).size
 have jk:lp≠g1:=by rw[aZ]; exact Nat.ne_of_lt (hC.lt)
 have nk:m.pb≠g1:=by rw[aZ]; exact Nat.ne_of_lt (hP.lt)
 have oC:m.rb≠g1:=by rw[aZ]; exact Nat.ne_of_lt (hR.lt)
 have oD:m.gb≠g1:=by rw[aZ]; exact Nat.ne_of_lt (hG.lt)
 have oF:m.ab≠g1:=by rw[aZ]; exact Nat.ne_of_lt (hA.lt)
 have F5:0≠g1:=by rw[aZ]; exact Nat.ne_of_lt (hK.lt (by omega))
 have mO:g1<w1.heap.size:=m1.lt
 clear aZ
 refine Lv (.nilFunc) (aj rfl rfl) (Lv (.int .i64 (0)) (aj rfl rfl) (Ln (sN (Ws (Fx.W.block (Ws (Wl (Lv ((pt lp)) (ah rfl rfl) (Lv (.bool false) (Fx.nG rfl rfl rfl (by kernel_rfl)) (Lv (.bool false) (aj rfl rfl) (Ln (sN (Wc (b:=false) rfl (fun h=>nomatch h) (fun _=>Ws (Wl (Lv (.agg (Fx.ay 14 (aW v))) (aK (x:=aW v) (y:=aW v) rfl rfl (by kernel_rfl) (by kernel_rfl) m1.aL (i:=0) (by omega) (by omega) (fun j _=>by rw[Nat.zero_add])) ?_))))))))))))))))
 by_cases c11:(bZ v)=true
 ·have hmay:bZ v=true:=c11
  obtain⟨a,ha,ho⟩ : ∃ a:Nat,a<6/\v.o=(a:Int)+1:=eF (ig hmay)
  have hra:bC v=a:=by unfold bC; omega
  have hkr:=lV hmay
  refine Fx.L.call (by rfl) (rC (args := [.agg (Fx.ay 14 (aW v))]) rfl rfl Tryd.func44 rfl rfl) rfl ((zI v _ hwf).mono ?_)
  rintro e w2 ⟨he,hb1⟩
  refine⟨.bool true,by rw[he,c11],?_⟩
  clear he
  have s2:=Sb hb1
  have m9:=m2.aC s2 m2.ne
  have m15:=m8.aC s2 (Nat.ne_of_lt (m8.lt (by omega)))
  have m16:=m1.aC s2 m1.ne
  have b2:=s2.below b1 b1.size b1.size
  refine Lv (.bool false) (Fx.dZ rfl rfl) (Lv (.bool false) (aj rfl rfl) (Ln (sN (Wc (b:=false) rfl (fun h=>nomatch h) (fun _=>Ws ?_)))))
  -- region 5 draws
  refine Fx.W.bH [0,1,2,3,4,5,6] [0,0,0,4,4,3,0] Fx.Mk Fx.Mk.refl Fx.Mk.trans (aQ := [(5,3,[3]),(5,4,[4]),(6,5,[5])]) (by kernel_rfl) (by kernel_rfl) (by kernel_rfl) (by kernel_rfl) (by kernel_rfl) fun jc bT fE => ?_
  have s3:Fx.Stp w2.heap.size w2 jc:=Sb bT
  have m17:=m9.aC s3 m9.ne
  have m23:=m15.aC s3 (Nat.ne_of_lt (m15.lt (by omega)))
  have m24:=m16.aC s3 m16.ne
  have b3:=s3.below b2 b2.size b2.size
  refine Rp ((pt lp)) (fun v1=>ah rfl rfl) (Rp ((pt lp)) (fun v1=>aO rfl rfl) (Rp ((pf lp 12)) (fun v1=>au rfl rfl Tryd.underlying93 rfl (s:=6) (by kernel_rfl) rfl (by show _+12=_; omega)) (Fx.R.s (.agg (Fx.ay 6 (Fx.rv .u64 m.known))) (aK (x:=fM m) (y:=Fx.rv .u64 m.known) rfl rfl (by kernel_rfl) (by kernel_rfl) m17.aL (i:=12) (by omega) (by omega) (fun j hj=>ni (p:=j) (by omega) (by omega))) ?_)))
  refine Fx.R.s (.agg (Fx.ay 14 (aW v))) (aK (x:=aW v) (y:=aW v) rfl rfl (by kernel_rfl) (by kernel_rfl) m24.aL (i:=0) (by omega) (by omega) (fun j _=>by rw[Nat.zero_add])) ?_
  refine Fx.R.fP (by rfl) ?_
  by_cases c19:(vg m.known v)=true
  ·refine Fx.L.call (by rfl) (rC (args := [.agg (Fx.ay 6 (Fx.rv .u64 m.known)),.agg (Fx.ay 14 (aW v))]) rfl rfl Tryd.func45 rfl rfl) rfl ((Ky m.known v _ hwf).mono ?_)
   rintro e w3 ⟨he,hb2⟩
   refine⟨.bool true,by rw[he,c19],?_⟩
   clear he
   have s4:=Sb hb2
   have b4:=s4.below b3 b3.size b3.size
   refine Ln (Rp (.bool true) (fun v1=>aj rfl rfl) (Fx.R.nil (sN (Wc (b:=true) rfl (fun _=>Ws (Wl (Lv (.nilFunc) (aj rfl rfl) ?_))) (fun h=>nomatch h)))))
   refine Lv (.int .i64 (14)) (aj rfl rfl) (Ln (sN (Wr (Fx.dH (sR (⟨.tuple #[.nilFunc,.int .i64 (14)],Fx.cB Tryd.results29 (by exact rfl) (by exact rfl),?_⟩))))))
   have hEq:bB m v=14:=by unfold bB; rw[if_neg (by rw[c11]; decide)]; exact if_pos c19
   exact⟨⟨.nilFunc,0,#[],by rw[hEq],rfl,fun e0=>absurd (hEq.symm.trans e0) (by first|decide|omega|assumption)⟩,b4⟩
  rw[Bool.not_eq_true]at c19
  refine Fx.L.call (by rfl) (rC (args := [.agg (Fx.ay 6 (Fx.rv .u64 m.known)),.agg (Fx.ay 14 (aW v))]) rfl rfl Tryd.func45 rfl rfl) rfl ((Ky m.known v _ hwf).mono ?_)
  rintro e w4 ⟨he,hb3⟩
  refine⟨.bool false,by rw[he,c19],?_⟩
  clear he
  have s5:=Sb hb3
  have mI:=m17.aC s5 m17.ne
  have qE:=m23.aC s5 (Nat.ne_of_lt (m23.lt (by omega)))
  have qm:=m24.aC s5 m24.ne
  have b5:=s5.below b3 b3.size b3.size
  refine Ln (Rp (.bool false) (fun v1=>aj rfl rfl) (Fx.R.nil (sN (Wc (b:=false) rfl (fun h=>nomatch h) (fun _=>Ws ?_)))))
  -- region 7 draws
  refine Fx.W.bH [0,1,2,3,4,5,6,7] [0,0,0,4,4,3,0,0] Fx.Mk Fx.Mk.refl Fx.Mk.trans (aQ := [(5,3,[3]),(5,4,[4]),(6,5,[5]),(7,5,[5])]) (by kernel_rfl) (by kernel_rfl) (by kernel_rfl) (by kernel_rfl) (by kernel_rfl) fun sI fU mR => ?_
  have s6:Fx.Stp w4.heap.size w4 sI:=Sb fU
  have nP:=mI.aC s6 mI.ne
  have uZ:=qE.aC s6 (Nat.ne_of_lt (qE.lt (by omega)))
  have zl:=qm.aC s6 qm.ne
  have b6:=s6.below b5 b5.size b5.size
  refine Rp ((pt lp)) (fun v1=>ah rfl rfl) (Rp ((pt lp)) (fun v1=>aO rfl rfl) (Rp ((pf lp 12)) (fun v1=>au rfl rfl Tryd.underlying93 rfl (s:=6) (by kernel_rfl) rfl (by show _+12=_; omega)) (Fx.R.s (.agg (Fx.ay 6 (Fx.rv .u64 m.known))) (aK (x:=fM m) (y:=Fx.rv .u64 m.known) rfl rfl (by kernel_rfl) (by kernel_rfl) nP.aL (i:=12) (by omega) (by omega) (fun j hj=>ni (p:=j) (by omega) (by omega))) ?_)))
  refine Fx.R.s (.agg (Fx.ay 14 (aW v))) (aK (x:=aW v) (y:=aW v) rfl rfl (by kernel_rfl) (by kernel_rfl) zl.aL (i:=0) (by omega) (by omega) (fun j _=>by rw[Nat.zero_add])) ?_
  refine Fx.R.fP (by rfl) ?_
  by_cases F9:(fV m.known v)=true
  ·refine Fx.L.call (by rfl) (rC (args := [.agg (Fx.ay 6 (Fx.rv .u64 m.known)),.agg (Fx.ay 14 (aW v))]) rfl rfl Tryd.func46 rfl rfl) rfl ((FU m.known v _ hwf hKr).mono ?_)
   rintro e w5 ⟨he,hb4⟩
   refine⟨.bool true,by rw[he,F9],?_⟩
   clear he
   have s7:=Sb hb4
   have sK:=nP.aC s7 nP.ne
   have vN:=uZ.aC s7 (Nat.ne_of_lt (uZ.lt (by omega)))
   have uw:=zl.aC s7 zl.ne
   have b7:=s7.below b6 b6.size b6.size
   refine Ln (Rp (.bool false) (fun v1=>Fx.dZ rfl rfl) (Rp (.bool false) (fun v1=>aj rfl rfl) (Fx.R.nil (sN (Wc (b:=false) rfl (fun h=>nomatch h) (fun _=>Ws (Ws ?_)))))))
   -- region 9 draws
   refine Fx.W.bH [0,1,4,5,2,3,6,7,8,9] [0,0,4,0,0,0,0,4,0,0] Fx.Mk Fx.Mk.refl Fx.Mk.trans (aQ := []) (by kernel_rfl) (by kernel_rfl) (by kernel_rfl) (by kernel_rfl) (by kernel_rfl) fun GU oV BS => ?_
   have s8:Fx.Stp w5.heap.size w5 GU:=Sb oV
   have nQ:=sK.aC s8 sK.ne
   have sO:=vN.aC s8 (Nat.ne_of_lt (vN.lt (by omega)))
   have m64:=uw.aC s8 uw.ne
   have b8:=s8.below b7 b7.size b7.size
   refine Rp ((pt lp)) (fun v1=>ah rfl rfl) (Rp ((pt g1)) (fun v1=>au rfl rfl Tryd.underlying28 rfl (s:=1) (by kernel_rfl) rfl rfl) (Rp ((pt lp)) (fun v1=>aO rfl rfl) (Rp ((pt lp)) (fun v1=>au rfl rfl Tryd.underlying93 rfl (s:=6) (by kernel_rfl) rfl rfl) (Fx.R.s (.int .i64 (v.o)) (ak (x:=aW v) rfl rfl (by kernel_rfl) m64.aL (i:=0) (by omega) (by omega) rfl) ?_))))
   refine Rp (.int .i64 ((a:Int))) (fun v1=>Fx.bD rfl rfl rfl Fx.io) (Rp ((pf lp a)) (fun v1=>bF rfl rfl rfl Tryd.underlying47 (s:=1) (by kernel_rfl) (by omega) (by omega) (by omega)) ?_)
   by_cases Vx:(m.inn a)=true
   ·refine Fx.R.s (.bool true) (ak (x:=fM m) rfl rfl (by kernel_rfl) nQ.aL (i:=a) (by omega) (by omega) ((uH (by omega)).trans (congrArg Value.bool Vx))) ?_
    refine Rp (.bool false) (fun v1=>Fx.dZ rfl rfl) (Rp (.bool false) (fun v1=>aj rfl rfl) (Fx.R.nil (sN (Wc (b:=false) rfl (fun h=>nomatch h) (fun _ => ?_)))))
    -- region 10 draws
    refine Fx.W.bH [0,1,4,5,2,3,6,7,8] [0,0,4,0,0,0,0,4,0] Fx.Mk Fx.Mk.refl Fx.Mk.trans (aQ := []) (by kernel_rfl) (by kernel_rfl) (by kernel_rfl) (by kernel_rfl) (by kernel_rfl) fun Qp Cb OO => ?_
    have s9:Fx.Stp GU.heap.size GU Qp:=Sb Cb
    have xD:=nQ.aC s9 nQ.ne
    have vO:=sO.aC s9 (Nat.ne_of_lt (sO.lt (by omega)))
    have xE:=m64.aC s9 m64.ne
    have b9:=s9.below b8 b8.size b8.size
    refine Rp ((pt lp)) (fun v1=>ah rfl rfl) (Rp ((pt g1)) (fun v1=>au rfl rfl Tryd.underlying28 rfl (s:=1) (by kernel_rfl) rfl rfl) (Rp ((pt lp)) (fun v1=>aO rfl rfl) (Rp ((pf lp 6)) (fun v1=>au rfl rfl Tryd.underlying93 rfl (s:=6) (by kernel_rfl) rfl (by show _+6=_; omega)) (Fx.R.s (.int .i64 (v.o)) (ak (x:=aW v) rfl rfl (by kernel_rfl) xE.aL (i:=0) (by omega) (by omega) rfl) ?_))))
    refine Rp (.int .i64 ((a:Int))) (fun v1=>Fx.bD rfl rfl rfl Fx.io) (Rp ((pf lp (a+6))) (fun v1=>bF rfl rfl rfl Tryd.underlying47 (s:=1) (by kernel_rfl) (by omega) (by omega) (by omega)) ?_)
    by_cases Ez:(m.left a)=true
    ·refine Fx.R.s (.bool true) (ak (x:=fM m) rfl rfl (by kernel_rfl) xD.aL (i:=a+6) (by omega) (by omega) ((sZ (p:=a) (by omega) (by omega)).trans (congrArg Value.bool Ez))) ?_
     refine Rp (.bool true) (fun v1=>aj rfl rfl) (Fx.R.nil (sN (Wc (b:=true) rfl (fun _=>Ws (Wl (Lv (.nilFunc) (aj rfl rfl) ?_))) (fun h=>nomatch h))))
     refine Lv (.int .i64 (10)) (aj rfl rfl) (Ln (sN (Wr (Fx.dH (sR (⟨.tuple #[.nilFunc,.int .i64 (10)],Fx.cB Tryd.results29 (by exact rfl) (by exact rfl),?_⟩))))))
     have hEq:bB m v=10:=by unfold bB; rw[if_neg (by rw[c11]; decide)]; rw[if_neg (by rw[c19]; decide)]; rw[if_neg (by rw[F9]; decide)]; exact if_pos (.inr (by rw[hra]; exact Ez))
     exact⟨⟨.nilFunc,0,#[],by rw[hEq],rfl,fun e0=>absurd (hEq.symm.trans e0) (by first|decide|omega|assumption)⟩,b9⟩
    rw[Bool.not_eq_true]at Ez
    refine Fx.R.s (.bool false) (ak (x:=fM m) rfl rfl (by kernel_rfl) xD.aL (i:=a+6) (by omega) (by omega) ((sZ (p:=a) (by omega) (by omega)).trans (congrArg Value.bool Ez))) ?_
    refine Rp (.bool false) (fun v1=>aj rfl rfl) (Fx.R.nil (sN (Wc (b:=false) rfl (fun h=>nomatch h) (fun _=>Wk (Fx.dV (sN (Ws ?_)))))))
    -- region 12 draws
    refine Fx.W.bH [0,4,1,2,3,5,6,7,8,9,10] [0,4,0,4,0,4,3,0,0,0,0] Fx.Mk Fx.Mk.refl Fx.Mk.trans (aQ := [(6,1,[3,2,1]),(6,3,[3]),(6,5,[5]),(7,6,[6]),(8,6,[6]),(9,6,[6]),(10,6,[6])]) (by kernel_rfl) (by kernel_rfl) (by kernel_rfl) (by kernel_rfl) (by kernel_rfl) fun Xl Jy Uw => ?_
    have s10:Fx.Stp Qp.heap.size Qp Xl:=Sb Jy
    have Ch:=vO.aC s10 (Nat.ne_of_lt (vO.lt (by omega)))
    have vP:=xE.aC s10 xE.ne
    have b10:=s10.below b9 b9.size b9.size
    refine Rp ((pf g1 8)) (fun v1=>au rfl rfl Tryd.underlying28 rfl (s:=1) (by kernel_rfl) rfl (by show _+8=_; omega)) (Rp ((pt lp)) (fun v1=>ah rfl rfl) (Fx.R.s (.int .u8 ((kd:Int))) (ak (x:=aW v) rfl rfl (by kernel_rfl) vP.aL (i:=8) (by omega) (by omega) (congrArg (Value.int IntKind.u8) hkd)) ?_))
    refine Rp ((pf 0 kd)) (fun v1=>bF rfl rfl rfl Tryd.underlying118 (s:=1) (by kernel_rfl) (by omega) (by omega) (by omega)) (Fx.R.s (.func (.func (Vv kd)) #[] #[]) (ak (x:=yR) rfl rfl (by kernel_rfl) Ch (i:=kd) (by omega) (by omega) (Ny (by omega))) ?_)
    refine Fx.R.s (.agg (Fx.ay 14 (aW v))) (aK (x:=aW v) (y:=aW v) rfl rfl (by kernel_rfl) (by kernel_rfl) vP.aL (i:=0) (by omega) (by omega) (fun j _=>by rw[Nat.zero_add])) ?_
    refine Fx.R.fP (by rfl) ?_
    refine Fx.L.call (by rfl) (Fx.FP (args := [(pt lp),.agg (Fx.ay 14 (aW v))]) rfl rfl rfl (by rfl) (Vw (by omega) (by omega))) rfl ((Nz m lp B _ (h.up b10) v hmay hwf hm kd hkd (by omega)).mono ?_)
    rintro e9 w6 ⟨⟨fv1,Vs,oG,he,ho1,hD1⟩,hb5⟩
    refine⟨_,he,?_⟩
    clear he
    have s11:=Sb hb5
    have b11:=s11.below b10 b10.size b10.size
    refine Ln (Rp (fv1) (fun v1=>Fx.aD rfl rfl rfl) (Rp (.int .i64 (eT m v)) (fun v1=>Fx.aD rfl rfl rfl) (Rp (fv1) (fun v1=>aj rfl rfl) (Rp (.int .i64 (eT m v)) (fun v1=>aj rfl rfl) (Fx.R.nil (sN (Wr (⟨.tuple #[fv1,.int .i64 (eT m v)],Fx.cB Tryd.results29 (by exact rfl) (by exact rfl),?_⟩))))))))
    have hEq:bB m v=eT m v:=by unfold bB; rw[if_neg (by rw[c11]; decide)]; rw[if_neg (by rw[c19]; decide)]; rw[if_neg (by rw[F9]; decide)]; exact if_neg (by rw[hra,Vx,Ez]; decide)
    exact⟨⟨_,_,_,by rw[hEq],ho1,fun e0=>(hD1 (hEq.symm.trans e0)).low b10.size⟩,b11⟩
   rw[Bool.not_eq_true]at Vx
   refine Fx.R.s (.bool false) (ak (x:=fM m) rfl rfl (by kernel_rfl) nQ.aL (i:=a) (by omega) (by omega) ((uH (by omega)).trans (congrArg Value.bool Vx))) ?_
   refine Rp (.bool true) (fun v1=>Fx.eH rfl rfl) (Rp (.bool true) (fun v1=>aj rfl rfl) (Fx.R.nil (sN (Wc (b:=true) rfl (fun _=>Wk (sN (Wc (b:=true) rfl (fun _=>Ws (Wl (Lv (.nilFunc) (aj rfl rfl) ?_))) (fun h=>nomatch h)))) (fun h=>nomatch h)))))
   refine Lv (.int .i64 (10)) (aj rfl rfl) (Ln (sN (Wr (Fx.dH (sR (⟨.tuple #[.nilFunc,.int .i64 (10)],Fx.cB Tryd.results29 (by exact rfl) (by exact rfl),?_⟩))))))
   have hEq:bB m v=10:=by unfold bB; rw[if_neg (by rw[c11]; decide)]; rw[if_neg (by rw[c19]; decide)]; rw[if_neg (by rw[F9]; decide)]; exact if_pos (.inl (by rw[hra]; exact Vx))
   exact⟨⟨.nilFunc,0,#[],by rw[hEq],rfl,fun e0=>absurd (hEq.symm.trans e0) (by first|decide|omega|assumption)⟩,b8⟩
  rw[Bool.not_eq_true]at F9
  refine Fx.L.call (by rfl) (rC (args := [.agg (Fx.ay 6 (Fx.rv .u64 m.known)),.agg (Fx.ay 14 (aW v))]) rfl rfl Tryd.func46 rfl rfl) rfl ((FU m.known v _ hwf hKr).mono ?_)
  rintro e w7 ⟨he,hb6⟩
  refine⟨.bool false,by rw[he,F9],?_⟩
  clear he
  have s12:=Sb hb6
  have b12:=s12.below b6 b6.size b6.size
  refine Ln (Rp (.bool true) (fun v1=>Fx.eH rfl rfl) (Rp (.bool true) (fun v1=>aj rfl rfl) (Fx.R.nil (sN (Wc (b:=true) rfl (fun _=>Ws (Wl (Lv (.nilFunc) (aj rfl rfl) ?_))) (fun h=>nomatch h))))))
  refine Lv (.int .i64 (13)) (aj rfl rfl) (Ln (sN (Wr (Fx.dH (sR (⟨.tuple #[.nilFunc,.int .i64 (13)],Fx.cB Tryd.results29 (by exact rfl) (by exact rfl),?_⟩))))))
  have hEq:bB m v=13:=by unfold bB; rw[if_neg (by rw[c11]; decide)]; rw[if_neg (by rw[c19]; decide)]; exact if_pos F9
  exact⟨⟨.nilFunc,0,#[],by rw[hEq],rfl,fun e0=>absurd (hEq.symm.trans e0) (by first|decide|omega|assumption)⟩,b12⟩
 rw[Bool.not_eq_true]at c11
 refine Fx.L.call (by rfl) (rC (args := [.agg (Fx.ay 14 (aW v))]) rfl rfl Tryd.func44 rfl rfl) rfl ((zI v _ hwf).mono ?_)
 rintro e w8 ⟨he,UE⟩
 refine⟨.bool false,by rw[he,c11],?_⟩
 clear he
 have s13:=Sb UE
 have b13:=s13.below b1 b1.size b1.size
 refine Lv (.bool true) (Fx.eH rfl rfl) (Lv (.bool true) (aj rfl rfl) (Ln (sN (Wc (b:=true) rfl (fun _=>Ws (Wl (Lv (.nilFunc) (aj rfl rfl) ?_))) (fun h=>nomatch h)))))
 refine Lv (.int .i64 (1)) (aj rfl rfl) (Ln (sN (Wr (Fx.dH (sR (⟨.tuple #[.nilFunc,.int .i64 (1)],Fx.cB Tryd.results29 (by exact rfl) (by exact rfl),?_⟩))))))
 have hEq:bB m v=1:=by unfold bB; exact if_pos c11
 exact⟨⟨.nilFunc,0,#[],by rw[hEq],rfl,fun e0=>absurd (hEq.symm.trans e0) (by first|decide|omega|assumption)⟩,b13⟩
set_option maxRecDepth 20000
set_option linter.unusedVariables false
namespace Rt
noncomputable def jA(m:dD)(v:EvM):dD:=if bB m v=0 then { fZ m v with known:=aY (fZ m v).known (bC v) ((fZ m v).known (bC v)+1) } else m
theorem Dm(m:dD)(v:EvM):(fZ m v).known=m.known:=by
 unfold fZ
 repeat (first|rfl|split)
def Gb:Nat->Int:=fun _=>0
def jR(m:dD)(k:Int):Nat->Int:=if m.T.has k=true then tN m k else Gb
end Rt
theorem iT.known{w w':World}{B lp:Nat}{m:dD}{K:Nat->Int}(h:iT w B lp m)(hs:Fx.Stp lp w w')(hc:Fx.aP w' lp 29 (fM { m with known:=K }) 93):iT w' B lp { m with known:=K }:=by
 have hct:=Fx.gD.bP hs h.c.ty
 exact { c:=hc,t:=h.t.aU hct (by decide),p:=h.p.aU hct trivial,r:=h.r.aU hct trivial,g:=h.g.aU hct trivial,a:=h.a.aU hct trivial,ne:=⟨h.ne.mp,h.ne.mr,h.ne.mg,h.ne.ma,h.ne.pr,h.ne.pg,h.ne.pa,h.ne.rg,h.ne.ra,h.ne.ga⟩,lB:=h.lB,pB:=h.pB,rB:=h.rB,gB:=h.gB,aB:=h.aB }
theorem pY{m:dD}{v:EvM}(h:bB m v=0):bZ v=true:=by
 cases hc:bZ v with
 | true=>rfl
 | false=>unfold bB at h; rw[if_pos hc]at h; cases h
theorem vF{m:dD}{v:EvM}(h:bB m v=0):v.seq=m.known (bC v)+1/\eT m v=0/\m.inn (bC v)=true/\m.left (bC v)=false:=by
 have hm:=pY h
 unfold bB at h
 rw[if_neg (by rw[hm]; decide)]at h
 by_cases h1:vg m.known v=true
 ·rw[if_pos h1]at h; cases h
 rw[if_neg h1]at h
 by_cases h2:fV m.known v=false
 ·rw[if_pos h2]at h; cases h
 rw[if_neg h2]at h
 by_cases h3:m.inn (bC v)=false\/m.left (bC v)=true
 ·rw[if_pos h3]at h; cases h
 rw[if_neg h3]at h
 refine⟨?_,h,?_,?_⟩
 ·have h2:fV m.known v=true:=by cases e:fV m.known v with|true=>rfl|false=>exact absurd e h2
  unfold fV at h2
  simp only[Bool.and_eq_true,decide_eq_true_iff]at h2
  exact h2.1.2
 ·cases e:m.inn (bC v)with|true=>rfl|false=>exact absurd (.inl e) h3
 cases e:m.left (bC v)with|false=>rfl|true=>exact absurd (.inr e) h3
theorem ZC(m:dD)(lp B:Nat)(w:World)(h:iT w B lp m)(v:EvM)(hwf:iI v)(hm:Vu m)(hB:1<=B)(hK:Fx.jT w 0 0 8 yR) :
 Calls Tryd.prog 15 #[(pt lp),.agg (Fx.ay 14 (aW v))] w fun e w'=>e = .returned (.int .i64 (bB m v))/\Below w.heap.size w w':=by
 have hC:=h.c
 have hT:=h.t
 have hP:=h.p
 have hR:=h.r
 have hG:=h.g
 have hA:=h.a
 have hN:=h.ne
 have lC:=h.c.lt
 have lT:=h.t.lt
 have lP:=h.p.lt
 have lR:=h.r.lt
 have lG:=h.g.lt
 have lA:=h.a.lt
 refine Fx.enter Tryd.func15 rfl (n:=14) rfl (by rfl) ?_
 refine Ws (Wl (Fx.L.box (m:=14) (y:=aW v) (by rfl) rfl rfl (Fx.aN _ _) rfl fun g1 w1 aZ m1 s1 z1 => ?_))
 have m8:=hK.aC s1 (Nat.ne_of_lt (hK.lt (by omega)))
 have b1:=s1.below (Below.refl w.heap.size w) (Below.refl w.heap.size w).size (Below.refl w.heap.size w).size
 have kM:w.heap.size<=g1:=by rw[aZ]; exact(Below.refl w.heap.size w).size
 have jk:lp≠g1:=by rw[aZ]; exact Nat.ne_of_lt (hC.lt)
 have nk:m.pb≠g1:=by rw[aZ]; exact Nat.ne_of_lt (hP.lt)
 have oC:m.rb≠g1:=by rw[aZ]; exact Nat.ne_of_lt (hR.lt)
 have oD:m.gb≠g1:=by rw[aZ]; exact Nat.ne_of_lt (hG.lt)
 have oF:m.ab≠g1:=by rw[aZ]; exact Nat.ne_of_lt (hA.lt)
 have F5:0≠g1:=by rw[aZ]; exact Nat.ne_of_lt (hK.lt (by omega))
 have mO:g1<w1.heap.size:=m1.lt
 clear aZ
 refine Lv (.int .i64 (0)) (aj rfl rfl) (Ln (sN (Ws (Wl (Lv ((pt lp)) (ah rfl rfl) (Lv (.agg (Fx.ay 14 (aW v))) (aK (x:=aW v) (y:=aW v) rfl rfl (by kernel_rfl) (by kernel_rfl) m1.aL (i:=0) (by omega) (by omega) (fun j _=>by rw[Nat.zero_add])) (Fx.L.call (by rfl) (rC (args := [(pt lp),.agg (Fx.ay 14 (aW v))]) rfl rfl Tryd.func29 rfl rfl) rfl ((Ga m lp B _ (h.up b1) v hwf hm hB m8).mono ?_))))))))
 rintro e9 w2 ⟨⟨fv1,Vs,oG,he,ho1,hD1⟩,hb1⟩
 refine⟨_,he,?_⟩
 clear he
 have s2:=Sb hb1
 have b2:=s2.below b1 b1.size b1.size
 refine Lv (.tuple #[fv1,.int .i64 (bB m v)]) (ah rfl rfl) (Lv (fv1) (Fx.aD rfl rfl rfl) (Lv (.int .i64 (bB m v)) (Fx.aD rfl rfl rfl) (Lv (fv1) (aj rfl rfl) (Lv (.int .i64 (bB m v)) (aj rfl rfl) (Ln (sN (Ws (Wl (Lv (.int .i64 (bB m v)) (ah rfl rfl) (Lv (.int .i64 (bB m v)) (aj rfl rfl) (Ln (sN (Wr (⟨.int .i64 (bB m v),rV Tryd.results15 (by exact rfl),?_⟩))))))))))))))
 exact⟨rfl,b2⟩
theorem NA(m:dD)(lp B:Nat)(w:World)(h:iT w B lp m)(v:EvM)(hwf:iI v)(hm:Vu m)(hB:1<=B)(hK:Fx.jT w 0 0 8 yR) :
 Calls Tryd.prog 14 #[(pt lp),.agg (Fx.ay 14 (aW v))] w fun e w'=>e = .returned (.int .i64 (bB m v))/\iT w' B lp (jA m v)/\Fx.jB (Kk m lp w.heap.size) w w':=by
 have hC:=h.c
 have hT:=h.t
 have hP:=h.p
 have hR:=h.r
 have hG:=h.g
 have hA:=h.a
 have hN:=h.ne
 have lC:=h.c.lt
 have lT:=h.t.lt
 have lP:=h.p.lt
 have lR:=h.r.lt
 have lG:=h.g.lt
 have lA:=h.a.lt
 refine Fx.enter Tryd.func14 rfl (n:=30) rfl (by rfl) ?_
 refine Ws (Wl (Fx.L.box (m:=14) (y:=aW v) (by rfl) rfl rfl (Fx.aN _ _) rfl fun g1 w1 aZ m1 s1 z1 => ?_))
 have m2:=hC.aC s1 hC.ne
 have m8:=hK.aC s1 (Nat.ne_of_lt (hK.lt (by omega)))
 have b1:=s1.below (Below.refl w.heap.size w) (Below.refl w.heap.size w).size (Below.refl w.heap.size w).size
 have kM:w.heap.size<=g1:=by rw[aZ]; exact(Below.refl w.heap.size w).size
 have jk:lp≠g1:=by rw[aZ]; exact Nat.ne_of_lt (hC.lt)
 have nk:m.pb≠g1:=by rw[aZ]; exact Nat.ne_of_lt (hP.lt)
 have oC:m.rb≠g1:=by rw[aZ]; exact Nat.ne_of_lt (hR.lt)
 have oD:m.gb≠g1:=by rw[aZ]; exact Nat.ne_of_lt (hG.lt)
 have oF:m.ab≠g1:=by rw[aZ]; exact Nat.ne_of_lt (hA.lt)
 have F5:0≠g1:=by rw[aZ]; exact Nat.ne_of_lt (hK.lt (by omega))
 have mO:g1<w1.heap.size:=m1.lt
 clear aZ
 refine Lv (.int .i64 (0)) (aj rfl rfl) (Ln (sN (Ws (Wl (Lv ((pt lp)) (ah rfl rfl) (Lv (.agg (Fx.ay 14 (aW v))) (aK (x:=aW v) (y:=aW v) rfl rfl (by kernel_rfl) (by kernel_rfl) m1.aL (i:=0) (by omega) (by omega) (fun j _=>by rw[Nat.zero_add])) (Fx.L.call (by rfl) (rC (args := [(pt lp),.agg (Fx.ay 14 (aW v))]) rfl rfl Tryd.func29 rfl rfl) rfl ((Ga m lp B _ (h.up b1) v hwf hm hB m8).mono ?_))))))))
 rintro e9 w2 ⟨⟨fv1,Vs,oG,he,ho1,hD1⟩,hb1⟩
 refine⟨_,he,?_⟩
 clear he
 have s2:=Sb hb1
 have m16:=m1.aC s2 m1.ne
 have b2:=s2.below b1 b1.size b1.size
 refine Lv (.tuple #[fv1,.int .i64 (bB m v)]) (ah rfl rfl) (Lv (fv1) (Fx.aD rfl rfl rfl) (Lv (.int .i64 (bB m v)) (Fx.aD rfl rfl rfl) (Lv (fv1) (aj rfl rfl) (Lv (.int .i64 (bB m v)) (aj rfl rfl) (Ln (sN (Ws (Ws (Wl (Lv (.int .i64 (bB m v)) (ah rfl rfl) ?_))))))))))
 by_cases c14:(bB m v)=0
 ·refine Lv (.bool false) (Fx.gu rfl rfl rfl c14) (Ln (sN (Wc (b:=false) rfl (fun h=>nomatch h) (fun _=>Wk (sN (Ws ?_))))))
  have hD0:=hD1 c14
  have hfe:=hD0.e
  subst hfe
  refine Wl (Lv (.func (.func Vs) #[] oG) (ah rfl rfl) (Fx.L.call (by rfl) (Fx.FP (args := []) rfl rfl rfl (by simp) hD0.f) rfl ((hD0.s _ (Below.refl _ _)).mono ?_)))
  rintro e9 w3 ⟨he,Dk,F8⟩
  refine⟨_,he,?_⟩
  clear he
  have hW1:Fx.jB (Kk m lp w.heap.size) w w3:=(Fx.jB.of_below b2) |> fun q=>Fx.jB.trans _ _ _ q (F8.mono fun k hk=>hk.imp id (Nat.le_trans b1.size))
  obtain⟨m2,ZE⟩ : ∃ q,q=fZ m v:=⟨_,rfl⟩
  rw[<- ZE]at Dk
  have eK:m2.known=m.known:=by rw[ZE,Dm]
  have hC2:=Dk.c
  have lC2:=hC2.lt
  have hkb:=(vF c14).1
  have hv:=pY c14
  obtain⟨a,ha,ho⟩ : ∃ a:Nat,a<6/\v.o=(a:Int)+1:=eF (ig hv)
  have hra:bC v=a:=by unfold bC; omega
  have hbd:=kX hv
  have hka:=hm.kn a ha
  have m17:=(h.up b2).AV (w':=w3) (m16) (by decide) F8 (by have:=m16.lt; have:=b1.size; omega)
  have afo:=m17.lt
  refine Ln (sN (Ws ?_))
  -- region 5 draws
  refine Fx.W.bH [0,1,4,5,9,10,2,3,6,7,8,11,12] [0,0,4,0,0,0,0,4,0,0,0,0,3] Fx.Mk Fx.Mk.refl Fx.Mk.trans (aQ := [(12,2,[2]),(12,7,[7])]) (by kernel_rfl) (by kernel_rfl) (by kernel_rfl) (by kernel_rfl) (by kernel_rfl) fun jc bT fE => ?_
  have s3:Fx.Stp w3.heap.size w3 jc:=Sb bT
  have m18:=hC2.aC s3 hC2.ne
  have m19:=Dk.up s3.old
  have m20:=m17.aC s3 m17.ne
  have b3:=hW1.then s3 (.inr hW1.size)
  refine Rp ((pt lp)) (fun v1=>ah rfl rfl) (Rp ((pt g1)) (fun v1=>au rfl rfl Tryd.underlying28 rfl (s:=1) (by kernel_rfl) rfl rfl) (Rp ((pt lp)) (fun v1=>aO rfl rfl) (Rp ((pf lp 12)) (fun v1=>au rfl rfl Tryd.underlying93 rfl (s:=6) (by kernel_rfl) rfl (by show _+12=_; omega)) (Rp ((pt lp)) (fun v1=>aO rfl rfl) (Rp ((pf lp 12)) (fun v1=>au rfl rfl Tryd.underlying93 rfl (s:=6) (by kernel_rfl) rfl (by show _+12=_; omega)) (Fx.R.s (.int .i64 (v.o)) (ak (x:=aW v) rfl rfl (by kernel_rfl) m20.aL (i:=0) (by omega) (by omega) rfl) ?_))))))
  refine Rp (.int .i64 ((a:Int))) (fun v1=>Fx.bD rfl rfl rfl Fx.io) (Rp ((pf lp (a+12))) (fun v1=>bF rfl rfl rfl Tryd.underlying26 (s:=1) (by kernel_rfl) (by omega) (by omega) (by omega)) (Fx.R.s (.int .u64 (m2.known a)) (ak (x:=fM m2) rfl rfl (by kernel_rfl) m18.aL (i:=a+12) (by omega) (by omega) (ni (p:=a) (by omega) (by omega))) ?_))
  refine Rp (.int .u64 (m2.known a+1)) (fun v1=>Fx.aS rfl rfl rfl (Fx.rX (by rw[eK]; omega) rfl)) (Rp ((pf lp (a+12))) (fun v1=>bF rfl rfl rfl Tryd.underlying26 (s:=1) (by kernel_rfl) (by omega) (by omega) (by omega)) (Fx.R.fP (by rfl) ?_))
  refine Fx.L.bV (x:=fM m2) (u := .int .u64 (m2.known a+1)) (by rfl) rfl rfl rfl rfl (by rfl) (by kernel_rfl) m18 (i:=a+12) (by omega) fun w4 m21 s4 z2 => ?_
  have m22:Fx.aP w4 lp 29 (fM { m2 with known:=aY m2.known a (m2.known a+1) }) 93:=m21.to (Hy ha (by omega) _)
  have b4:=b3.then s4 (.inl (.inl (.inl rfl)))
  refine Ln (Fx.R.nil (sN (Ws (Wl (Lv (.int .i64 (0)) (aj rfl rfl) (Ln (sN (Wr (⟨.int .i64 (0),rV Tryd.results14 (by exact rfl),?_⟩)))))))))
  refine⟨by rw[c14],?_,b4⟩
  rw[show jA m v = { m2 with known:=aY m2.known a (m2.known a+1) } by unfold jA; rw[if_pos c14,<- ZE,hra]]
  exact m19.known s4 m22
 refine Lv (.bool true) (Fx.jd rfl rfl rfl c14) (Ln (sN (Wc (b:=true) rfl (fun _=>Ws (Wl (Lv (.int .i64 (bB m v)) (ah rfl rfl) ?_))) (fun h=>nomatch h))))
 refine Lv (.int .i64 (bB m v)) (aj rfl rfl) (Ln (sN (Wr (sR (⟨.int .i64 (bB m v),rV Tryd.results14 (by exact rfl),?_⟩)))))
 refine⟨rfl,?_,Fx.jB.of_below b2⟩
 rw[show jA m v=m by unfold jA; exact if_neg c14]; exact h.up b2
set_option maxRecDepth 20000
set_option linter.unusedVariables false
namespace Rt
def rP(k tp mb pb rb gb ab:Nat):dD := { inn:=fun i=>decide (i<k),left:=fun _=>false,known:=fun _=>0,own:=fun _=>0,T:=cu.zero,R:=fun _ _=>0,gn:=0,g:=fun _ _=>0,an:=0,ao:=fun _=>0,ar:=fun _=>0,tp:=tp,mb:=mb,pb:=pb,rb:=rb,gb:=gb,ab:=ab }
end Rt
theorem Le(k tp mb pb rb gb ab:Nat)(hk:k<6):Fx.eB (fM (rP k tp mb pb rb gb ab)) k (.bool true)=fM (rP (k+1) tp mb pb rb gb ab):=by
 rw[Ki hk]
 have:aY (rP k tp mb pb rb gb ab).inn k true=(rP (k+1) tp mb pb rb gb ab).inn:=by
  funext i
  show(if i=k then true else decide (i<k))=decide (i<k+1)
  by_cases e:i=k
  ·subst e; rw[if_pos rfl]; exact(decide_eq_true (by omega)).symm
  ·rw[if_neg e]; exact decide_eq_decide.2 (by omega)
 show fM { rP k tp mb pb rb gb ab with inn:=_ }=_
 rw[this]; rfl
theorem Lf(w:World) :
 Calls Tryd.prog 16 #[.pointer none] w fun e w'=>e = .returned (.agg (Fx.ay 6 (Fx.rv .u64 fun _=>0)))/\Below w.heap.size w w':=by
 refine Fx.enter Tryd.func16 rfl (n:=10) rfl (by rfl) ?_
 refine Ws (Wl (Fx.L.new (m:=6) (y:=Fx.rv .u64 (fun _=>0)) (by rfl) rfl (by kernel_rfl) rfl fun g1 w1 aZ m1 s1 z1 => ?_))
 have b1:=s1.below (Below.refl w.heap.size w) (Below.refl w.heap.size w).size (Below.refl w.heap.size w).size
 have kM:w.heap.size<=g1:=by rw[aZ]; exact(Below.refl w.heap.size w).size
 have mO:g1<w1.heap.size:=m1.lt
 clear aZ
 refine Ln (sN (Ws (Ws (Wl (Lv (.pointer none) (ah rfl rfl) (Lv (.bool true) (Fx.oN rfl rfl rfl (by kernel_rfl)) (Ln (sN (Wc (b:=true) rfl (fun _=>Ws (Wl (Lv (.agg (Fx.ay 6 (Fx.rv .u64 (fun _=>0)))) (Fx.jJ (vs := []) (s:=1) (m:=6) (x:=Fx.rv .u64 (fun _=>0)) rfl rfl Tryd.underlying26 (by kernel_rfl) (by kernel_rfl) (by rfl)) ?_))) (fun h=>nomatch h))))))))))
 refine Fx.L.dY (x:=Fx.rv .u64 (fun _=>0)) (y:=Fx.rv .u64 (fun _=>0)) (by rfl) rfl rfl rfl rfl (fun _ _=>rfl) (by kernel_rfl) m1 (i:=0) (by omega) fun w2 m2 s2 z2 => ?_
 have m3:Fx.aP w2 g1 6 (Fx.rv .u64 (fun _=>0)) 26:=Fx.dF m2
 have b2:=s2.below b1 b1.size (by omega)
 refine Ln (sN (Wr (sR (⟨.agg (Fx.ay 6 (Fx.rv .u64 (fun _=>0))),rV Tryd.results16 ⟨_,rfl,Fx.iE m3.aL (by kernel_rfl) (by kernel_rfl)⟩,?_⟩))))
 exact⟨rfl,b2⟩
theorem NC(m:dD)(lp B:Nat)(w:World)(h:iT w B lp m)(i node:Int)(hi : -9223372036854775808<=i/\i<=9223372036854775807) :
 Calls Tryd.prog 17 #[(pt lp),.int .i64 (i),.int .u64 (node)] w fun e w'=>e = .returned (.int .i64 (dM (jR m node) i))/\Below w.heap.size w w':=by
 have hC:=h.c
 have hT:=h.t
 have hP:=h.p
 have hR:=h.r
 have hG:=h.g
 have hA:=h.a
 have hN:=h.ne
 have lC:=h.c.lt
 have lT:=h.t.lt
 have lP:=h.p.lt
 have lR:=h.r.lt
 have lG:=h.g.lt
 have lA:=h.a.lt
 refine Fx.enter Tryd.func17 rfl (n:=17) rfl (by rfl) ?_
 refine Ws (Wl (Lv (.int .i64 (0)) (aj rfl rfl) (Ln (sN (Ws (Ws (Wl (Lv ((pt lp)) (ah rfl rfl) (Lv (.bool false) (Fx.nG rfl rfl rfl (by kernel_rfl)) (Ln (sN (Wc (b:=false) rfl (fun h=>nomatch h) (fun _=>Wk (sN (Ws (Wl (Lv ((pt lp)) (ah rfl rfl) (Lv ((pt lp)) (aO rfl rfl) (Lv ((pf lp 20)) (au rfl rfl Tryd.underlying93 rfl (s:=1) (by kernel_rfl) rfl (by show _+20=_; omega)) (Lv (.map (some m.rb)) (ak (x:=fM m) rfl rfl (by kernel_rfl) hC.aL (i:=20) (by omega) (by omega) rfl) (Lv (.int .u64 (node)) (ah rfl rfl) ?_)))))))))))))))))))))
 rcases Fx.kV m.T.x m.T.n node with ⟨dh,gY,iA⟩|fJ
 ·refine Lv (.agg (Fx.ay 54 (Fx.rv .i64 (m.R dh)))) (Fx.nJ (z := .agg (Fx.ay 54 (Fx.rv .i64 (fun _=>0)))) rfl rfl rfl hR Tryd.underlying88 Tryd.underlying22 (by kernel_rfl) gY iA rfl) (Lv (.int .i64 (i)) (ah rfl rfl) (Fx.L.call (by rfl) (rC (args := [.agg (Fx.ay 54 (Fx.rv .i64 (m.R dh))),.int .i64 (i)]) rfl rfl Tryd.func30 rfl rfl) rfl ((nT (m.R dh) i _ hi).mono ?_)))
  rintro e w1 ⟨he,hb1⟩
  refine⟨.int .i64 (dM (m.R dh) i),by rw[he],?_⟩
  clear he
  have s1:=Sb hb1
  have b1:=s1.below (Below.refl w.heap.size w) (Below.refl w.heap.size w).size (Below.refl w.heap.size w).size
  refine Lv (.int .i64 (dM (m.R dh) i)) (aj rfl rfl) (Ln (sN (Wr (⟨.int .i64 (dM (m.R dh) i),rV Tryd.results17 (by exact rfl),?_⟩))))
  have er:jR m node=m.R dh:=by unfold jR tN; rw[if_pos (show m.T.has node=true from fQ gY iA),show m.idx node=dh from iU h.t.inv.inj gY iA]
  exact⟨congrArg (fun q=>Ending.returned (Value.int .i64 (dM q i))) er.symm,b1⟩
 refine Lv (.agg (Fx.ay 54 (Fx.rv .i64 (fun _=>0)))) (Fx.Fg (z := .agg (Fx.ay 54 (Fx.rv .i64 (fun _=>0)))) rfl rfl rfl hR Tryd.underlying88 Tryd.underlying22 (by kernel_rfl) fJ) (Lv (.int .i64 (i)) (ah rfl rfl) (Fx.L.call (by rfl) (rC (args := [.agg (Fx.ay 54 (Fx.rv .i64 (fun _=>0))),.int .i64 (i)]) rfl rfl Tryd.func30 rfl rfl) rfl ((nT (fun _=>0) i _ hi).mono ?_)))
 rintro e w2 ⟨he,hb2⟩
 refine⟨.int .i64 (dM (fun _=>0) i),by rw[he],?_⟩
 clear he
 have s2:=Sb hb2
 have b2:=s2.below (Below.refl w.heap.size w) (Below.refl w.heap.size w).size (Below.refl w.heap.size w).size
 refine Lv (.int .i64 (dM (fun _=>0) i)) (aj rfl rfl) (Ln (sN (Wr (⟨.int .i64 (dM (fun _=>0) i),rV Tryd.results17 (by exact rfl),?_⟩))))
 have er:jR m node=Gb:=by unfold jR; exact if_neg (by rw[show m.T.has node=false from qh fJ]; decide)
 exact⟨congrArg (fun q=>Ending.returned (Value.int .i64 (dM q i))) er.symm,b2⟩
theorem Lg(w:World)(i node:Int) :
 Calls Tryd.prog 17 #[.pointer none,.int .i64 (i),.int .u64 (node)] w fun e w'=>e = .returned (.int .i64 0)/\Below w.heap.size w w':=by
 refine Fx.enter Tryd.func17 rfl (n:=17) rfl (by rfl) ?_
 refine Ws (Wl (Lv (.int .i64 (0)) (aj rfl rfl) (Ln (sN (Ws (Ws (Wl (Lv (.pointer none) (ah rfl rfl) (Lv (.bool true) (Fx.oN rfl rfl rfl (by kernel_rfl)) (Ln (sN (Wc (b:=true) rfl (fun _=>Ws (Wl (Lv (.int .i64 (0)) (aj rfl rfl) ?_))) (fun h=>nomatch h)))))))))))))
 refine Ln (sN (Wr (sR (⟨.int .i64 (0),rV Tryd.results17 (by exact rfl),?_⟩))))
 exact⟨rfl,(Below.refl w.heap.size w)⟩
theorem ND(w:World)(node:Int) :
 Calls Tryd.prog 18 #[.pointer none,.int .u64 (node)] w fun e w'=>e = .returned (.slice none 0 0)/\Below w.heap.size w w':=by
 refine Fx.enter Tryd.func18 rfl (n:=13) rfl (by rfl) ?_
 refine Ws (Wl (Lv (.slice none 0 0) (aj rfl rfl) (Ln (sN (Ws (Ws (Wl (Lv (.pointer none) (ah rfl rfl) (Lv (.bool true) (Fx.oN rfl rfl rfl (by kernel_rfl)) (Ln (sN (Wc (b:=true) rfl (fun _=>Ws (Wl (Lv (.slice none 0 0) (aj rfl rfl) ?_))) (fun h=>nomatch h)))))))))))))
 refine Ln (sN (Wr (sR (⟨.slice none 0 0,rV Tryd.results18 (by exact rfl),?_⟩))))
 exact⟨rfl,(Below.refl w.heap.size w)⟩
theorem Dn(v:EvM)(w:World) :
 Calls Tryd.prog 29 #[.pointer none,.agg (Fx.ay 14 (aW v))] w fun e w'=>e = .returned (.tuple #[.nilFunc,.int .i64 2])/\Below w.heap.size w w':=by
 refine Fx.enter Tryd.func29 rfl (n:=55) rfl (by rfl) ?_
 refine Ws (Wl (Fx.L.box (m:=14) (y:=aW v) (by rfl) rfl rfl (Fx.aN _ _) rfl fun g1 w1 aZ m1 s1 z1 => ?_))
 have b1:=s1.below (Below.refl w.heap.size w) (Below.refl w.heap.size w).size (Below.refl w.heap.size w).size
 have kM:w.heap.size<=g1:=by rw[aZ]; exact(Below.refl w.heap.size w).size
 have mO:g1<w1.heap.size:=m1.lt
 clear aZ
 refine Lv (.nilFunc) (aj rfl rfl) (Lv (.int .i64 (0)) (aj rfl rfl) (Ln (sN (Ws (Fx.W.block (Ws (Wl (Lv (.pointer none) (ah rfl rfl) (Lv (.bool true) (Fx.oN rfl rfl rfl (by kernel_rfl)) (Lv (.bool true) (aj rfl rfl) (Ln (sN (Wc (b:=true) rfl (fun _=>Ws (Wl (Lv (.nilFunc) (aj rfl rfl) ?_))) (fun h=>nomatch h))))))))))))))
 refine Lv (.int .i64 (2)) (aj rfl rfl) (Ln (sN (Wr (Fx.dH (sR (⟨.tuple #[.nilFunc,.int .i64 (2)],Fx.cB Tryd.results29 (by exact rfl) (by exact rfl),?_⟩))))))
 exact⟨rfl,b1⟩
theorem Vy(v:EvM)(w:World) :
 Calls Tryd.prog 15 #[.pointer none,.agg (Fx.ay 14 (aW v))] w fun e w'=>e = .returned (.int .i64 2)/\Below w.heap.size w w':=by
 refine Fx.enter Tryd.func15 rfl (n:=14) rfl (by rfl) ?_
 refine Ws (Wl (Fx.L.box (m:=14) (y:=aW v) (by rfl) rfl rfl (Fx.aN _ _) rfl fun g1 w1 aZ m1 s1 z1 => ?_))
 have b1:=s1.below (Below.refl w.heap.size w) (Below.refl w.heap.size w).size (Below.refl w.heap.size w).size
 have kM:w.heap.size<=g1:=by rw[aZ]; exact(Below.refl w.heap.size w).size
 have mO:g1<w1.heap.size:=m1.lt
 clear aZ
 refine Lv (.int .i64 (0)) (aj rfl rfl) (Ln (sN (Ws (Wl (Lv (.pointer none) (ah rfl rfl) (Lv (.agg (Fx.ay 14 (aW v))) (aK (x:=aW v) (y:=aW v) rfl rfl (by kernel_rfl) (by kernel_rfl) m1.aL (i:=0) (by omega) (by omega) (fun j _=>by rw[Nat.zero_add])) (Fx.L.call (by rfl) (rC (args := [.pointer none,.agg (Fx.ay 14 (aW v))]) rfl rfl Tryd.func29 rfl rfl) rfl ((Dn v _).mono ?_))))))))
 rintro e w2 ⟨he,hb1⟩
 refine⟨.tuple #[.nilFunc,.int .i64 (2)],by rw[he],?_⟩
 clear he
 have s2:=Sb hb1
 have b2:=s2.below b1 b1.size b1.size
 refine Lv (.tuple #[.nilFunc,.int .i64 (2)]) (ah rfl rfl) (Lv (.nilFunc) (Fx.aD rfl rfl rfl) (Lv (.int .i64 (2)) (Fx.aD rfl rfl rfl) (Lv (.nilFunc) (aj rfl rfl) (Lv (.int .i64 (2)) (aj rfl rfl) (Ln (sN (Ws (Wl (Lv (.int .i64 (2)) (ah rfl rfl) (Lv (.int .i64 (2)) (aj rfl rfl) (Ln (sN (Wr (⟨.int .i64 (2),rV Tryd.results15 (by exact rfl),?_⟩))))))))))))))
 exact⟨rfl,b2⟩
theorem Lh(v:EvM)(w:World) :
 Calls Tryd.prog 14 #[.pointer none,.agg (Fx.ay 14 (aW v))] w fun e w'=>e = .returned (.int .i64 2)/\Below w.heap.size w w':=by
 refine Fx.enter Tryd.func14 rfl (n:=30) rfl (by rfl) ?_
 refine Ws (Wl (Fx.L.box (m:=14) (y:=aW v) (by rfl) rfl rfl (Fx.aN _ _) rfl fun g1 w1 aZ m1 s1 z1 => ?_))
 have b1:=s1.below (Below.refl w.heap.size w) (Below.refl w.heap.size w).size (Below.refl w.heap.size w).size
 have kM:w.heap.size<=g1:=by rw[aZ]; exact(Below.refl w.heap.size w).size
 have mO:g1<w1.heap.size:=m1.lt
 clear aZ
 refine Lv (.int .i64 (0)) (aj rfl rfl) (Ln (sN (Ws (Wl (Lv (.pointer none) (ah rfl rfl) (Lv (.agg (Fx.ay 14 (aW v))) (aK (x:=aW v) (y:=aW v) rfl rfl (by kernel_rfl) (by kernel_rfl) m1.aL (i:=0) (by omega) (by omega) (fun j _=>by rw[Nat.zero_add])) (Fx.L.call (by rfl) (rC (args := [.pointer none,.agg (Fx.ay 14 (aW v))]) rfl rfl Tryd.func29 rfl rfl) rfl ((Dn v _).mono ?_))))))))
 rintro e w2 ⟨he,hb1⟩
 refine⟨.tuple #[.nilFunc,.int .i64 (2)],by rw[he],?_⟩
 clear he
 have s2:=Sb hb1
 have b2:=s2.below b1 b1.size b1.size
 refine Lv (.tuple #[.nilFunc,.int .i64 (2)]) (ah rfl rfl) (Lv (.nilFunc) (Fx.aD rfl rfl rfl) (Lv (.int .i64 (2)) (Fx.aD rfl rfl rfl) (Lv (.nilFunc) (aj rfl rfl) (Lv (.int .i64 (2)) (aj rfl rfl) (Ln (sN (Ws (Ws (Wl (Lv (.int .i64 (2)) (ah rfl rfl) (Lv (.bool true) (Fx.jd rfl rfl rfl (by decide)) (Ln (sN (Wc (b:=true) rfl (fun _=>Ws (Wl (Lv (.int .i64 (2)) (ah rfl rfl) ?_))) (fun h=>nomatch h)))))))))))))))
 refine Lv (.int .i64 (2)) (aj rfl rfl) (Ln (sN (Wr (sR (⟨.int .i64 (2),rV Tryd.results14 (by exact rfl),?_⟩)))))
 exact⟨rfl,b2⟩
theorem Vz(k:Nat)(hk:1<=k/\k<=6)(w:World) :
 Calls Tryd.prog 13 #[.int .i64 ((k:Int))] w fun e w' => ∃ lp m,e = .returned (.tuple #[(pt lp),.int .i64 0])/\(∃ tp mb pb rb gb ab,m=rP k tp mb pb rb gb ab)/\iT w' w.heap.size lp m/\Below w.heap.size w w':=by
 refine Fx.enter Tryd.func13 rfl (n:=30) rfl (by rfl) ?_
 refine Ws (Wl (Lv (.pointer none) (aj rfl rfl) (Lv (.int .i64 (0)) (aj rfl rfl) (Ln (sN (Ws (Ws (Wl (Lv (.int .i64 ((k:Int))) (ah rfl rfl) (Lv (.bool false) (Fx.dX rfl rfl rfl (by omega)) (Lv (.bool false) (ah rfl rfl) (Lv (.int .i64 ((k:Int))) (ah rfl rfl) (Lv (.bool false) (dw rfl rfl rfl (by omega)) (Lv (.bool false) (aJ rfl rfl rfl) (Ln (sN (Wc (b:=false) rfl (fun h=>nomatch h) (fun _=>Wk (sN (Ws (Wl (Fx.L.call (by rfl) (rC (args := []) rfl rfl Tryd.func28 rfl rfl) rfl ((OY _).mono ?_)))))))))))))))))))))))
 rintro e9 w1 ⟨rH,rJ,he,hg1,m1,hb1⟩
 refine⟨_,he,?_⟩
 clear he
 have s1:=Sb hb1
 have b1:=s1.below (Below.refl w.heap.size w) (Below.refl w.heap.size w).size (Below.refl w.heap.size w).size
 have m2:mD w1 (w.heap.size) rH rJ cu.zero:=m1.weak (Below.refl w.heap.size w).size
 clear m1 hg1
 refine Fx.L.Bz (by rfl) rfl rfl fun g1 w2 aZ m3 s2 z1 => ?_
 have m4:=m2.up s2.old
 have b2:=s2.below b1 b1.size b1.size
 have kM:w.heap.size<=g1:=by rw[aZ]; exact b1.size
 have SL:rJ≠g1:=by rw[aZ]; exact Nat.ne_of_lt m2.lt
 have mO:g1<w2.heap.size:=m3.lt
 clear aZ
 refine Fx.L.Bz (by rfl) rfl rfl fun g2 w3 bS m5 s3 z2 => ?_
 have m6:=m4.up s3.old
 have m7:=m3.up s3.old
 have b3:=s3.below b2 b2.size b2.size
 have su:w.heap.size<=g2:=by rw[bS]; exact b2.size
 have SN:rJ≠g2:=by rw[bS]; exact Nat.ne_of_lt m4.lt
 have O8:g1≠g2:=by rw[bS]; exact Nat.ne_of_lt (m3.lt)
 have vK:g2<w3.heap.size:=m5.lt
 clear bS
 refine Fx.L.Jb (by rfl) rfl rfl fun g3 w4 iq m8 s4 z3 => ?_
 have m9:=m6.up s4.old
 have m10:=m7.up s4.old
 have m11:=m5.up s4.old
 have b4:=s4.below b3 b3.size b3.size
 have uY:w.heap.size<=g3:=by rw[iq]; exact b3.size
 have SQ:rJ≠g3:=by rw[iq]; exact Nat.ne_of_lt m6.lt
 have ZF:g1≠g3:=by rw[iq]; exact Nat.ne_of_lt (m7.lt)
 have SH:g2≠g3:=by rw[iq]; exact Nat.ne_of_lt (m5.lt)
 have LW:g3<w4.heap.size:=m8.lt
 clear iq
 refine Fx.L.Jb (by rfl) rfl rfl fun g4 w5 gT m12 s5 z4 => ?_
 have m13:=m9.up s5.old
 have m14:=m10.up s5.old
 have m15:=m11.up s5.old
 have m16:=m8.up s5.old
 have b5:=s5.below b4 b4.size b4.size
 have wH:w.heap.size<=g4:=by rw[gT]; exact b4.size
 have SS:rJ≠g4:=by rw[gT]; exact Nat.ne_of_lt m9.lt
 have SI:g1≠g4:=by rw[gT]; exact Nat.ne_of_lt (m10.lt)
 have SK:g2≠g4:=by rw[gT]; exact Nat.ne_of_lt (m11.lt)
 have ZG:g3≠g4:=by rw[gT]; exact Nat.ne_of_lt (m8.lt)
 have M6:g4<w5.heap.size:=m12.lt
 clear gT
 refine Lv (.agg (Fx.ay 29 (Fx.aX (Fx.aX (Fx.aX (Fx.aX (Fx.aX (fun zq=>if zq<12 then .bool false else if zq<18 then .int .u64 (0)else if zq<19 then .pointer none else if zq<21 then .map none else if zq<27 then .int .i64 (0)else .map none) 18 1 (fun _=>(pt rH))) 19 1 (fun _ => .map (some g1))) 20 1 (fun _ => .map (some g2))) 27 1 (fun _ => .map (some g3))) 28 1 (fun _ => .map (some g4))))) (bX (vs := [(3,(pt rH)),(4,.map (some g1)),(5,.map (some g2)),(7,.map (some g3)),(8,.map (some g4))]) (places := #[(0,6),(6,6),(12,6),(18,1),(19,1),(20,1),(21,6),(27,1),(28,1)]) (m:=29) (x:=fun zq=>if zq<12 then .bool false else if zq<18 then .int .u64 (0)else if zq<19 then .pointer none else if zq<21 then .map none else if zq<27 then .int .i64 (0)else .map none) rfl rfl Tryd.underlying93 (by kernel_rfl) (by kernel_rfl) (by rw[Fx.aG (off:=18) (s:=1) (y:=fun _=>(pt rH)) (by kernel_rfl) (Fx.cells_one (by rfl)) (by rfl)]; rw[Fx.aG (off:=19) (s:=1) (y:=fun _ => .map (some g1)) (by kernel_rfl) (Fx.cells_one (by rfl)) (by rfl)]; rw[Fx.aG (off:=20) (s:=1) (y:=fun _ => .map (some g2)) (by kernel_rfl) (Fx.cells_one (by rfl)) (by rfl)]; rw[Fx.aG (off:=27) (s:=1) (y:=fun _ => .map (some g3)) (by kernel_rfl) (Fx.cells_one (by rfl)) (by rfl)]; rw[Fx.aG (off:=28) (s:=1) (y:=fun _ => .map (some g4)) (by kernel_rfl) (Fx.cells_one (by rfl)) (by rfl)]; rfl)) (Fx.L.box (m:=29) (y:=Fx.aX (Fx.aX (Fx.aX (Fx.aX (Fx.aX (fun zq=>if zq<12 then .bool false else if zq<18 then .int .u64 (0)else if zq<19 then .pointer none else if zq<21 then .map none else if zq<27 then .int .i64 (0)else .map none) 18 1 (fun _=>(pt rH))) 19 1 (fun _ => .map (some g1))) 20 1 (fun _ => .map (some g2))) 27 1 (fun _ => .map (some g3))) 28 1 (fun _ => .map (some g4))) (by rfl) rfl rfl (Fx.aN _ _) rfl fun g5 w6 wL m17 s6 z5 => ?_)
 have m18:=m13.up s6.old
 have m19:=m14.up s6.old
 have m20:=m15.up s6.old
 have m21:=m16.up s6.old
 have m22:=m12.up s6.old
 have b6:=s6.below b5 b5.size b5.size
 have Wn:w.heap.size<=g5:=by rw[wL]; exact b5.size
 have ZH:g1≠g5:=by rw[wL]; exact Nat.ne_of_lt (m14.lt)
 have ZI:g2≠g5:=by rw[wL]; exact Nat.ne_of_lt (m15.lt)
 have ZJ:g3≠g5:=by rw[wL]; exact Nat.ne_of_lt (m16.lt)
 have ZK:g4≠g5:=by rw[wL]; exact Nat.ne_of_lt (m12.lt)
 have tg5:g5<w6.heap.size:=m17.lt
 have hne:QlN (rP 0 rH rJ g1 g2 g3 g4):=⟨SL,SN,SQ,SS,by assumption,by assumption,by assumption,by assumption,by assumption,by assumption⟩
 have m23:Fx.aP w6 g5 29 (fM (rP 0 rH rJ g1 g2 g3 g4)) 93:=m17.congr (fun j hj=>match j,hj with|0,_=>rfl|1,_=>rfl|2,_=>rfl|3,_=>rfl|4,_=>rfl|5,_=>rfl|6,_=>rfl|7,_=>rfl|8,_=>rfl|9,_=>rfl|10,_=>rfl|11,_=>rfl|12,_=>rfl|13,_=>rfl|14,_=>rfl|15,_=>rfl|16,_=>rfl|17,_=>rfl|18,_=>rfl|19,_=>rfl|20,_=>rfl|21,_=>rfl|22,_=>rfl|23,_=>rfl|24,_=>rfl|25,_=>rfl|26,_=>rfl|27,_=>rfl|28,_=>rfl|j+29,h=>absurd h (by omega))
 clear wL
 refine Lv ((pt g5)) (aj rfl rfl) (Ln (sN (Ws (Ws (Wl (Lv (.int .i64 ((k:Int))) (ah rfl rfl) (Lv (.int .i64 (0)) (ah rfl rfl) (Ln (sN (Fx.W.block (Fx.W.loop (fun f w_ => ∃ i:Nat,i<=k/\f 4=(pt g5)/\f 19 = .int .i64 ((k:Int))/\f 20 = .int .i64 ((i:Int))/\mD w_ (w.heap.size) rH rJ cu.zero/\Fx.Mp w_ g1 0 (fun _=>0) (fun _ => .pointer none)/\Fx.Mp w_ g2 0 (fun _=>0) (fun _ => .pointer none)/\Fx.gH w_ g3 0 (fun _=>0) (fun _=>0) (fun _ => .pointer none)/\Fx.gH w_ g4 0 (fun _=>0) (fun _=>0) (fun _ => .pointer none)/\Fx.aP w_ g5 29 (fM (rP i rH rJ g1 g2 g3 g4)) 93/\Below w.heap.size w w_) (fun f _=>((k:Int)-intOf (f 20)).toNat) ⟨0,(by omega),(by rfl),Fx.ic,Fx.ic,m18,m19,m20,m21,m22,m23,b6⟩ ?_)))))))))))
 rintro f1 w7 ⟨i,hi,h1,h2,h3,m24,qC,oZ,qU,qV,qD,b7⟩
 refine Ws (Wl ?_)
 by_cases c21:(i:Int)<(k:Int)
 ·refine Lv (.bool true) (Fx.eG rfl h3 h2 c21) (Ln (sN (Ws (Wc (b:=true) rfl (fun _=>Wk (sN (Ws (Fx.W.block (Ws (Wl (Lv (.int .i64 ((i:Int))) (ah rfl h3) ?_))))))) (fun h=>nomatch h)))))
  refine Lv (.int .i64 ((i:Int))) (aj rfl rfl) (Ln (sN (Wl (Lv ((pt g5)) (ah rfl h1) (Lv (.int .i64 ((i:Int))) (ah rfl rfl) (Lv ((pt g5)) (aO rfl rfl) (Lv ((pt g5)) (au rfl rfl Tryd.underlying93 rfl (s:=6) (by kernel_rfl) rfl rfl) (Lv ((pf g5 i)) (bF rfl rfl rfl Tryd.underlying47 (s:=1) (by kernel_rfl) (by omega) (by omega) (by omega)) (Fx.L.bV (x:=fM (rP i rH rJ g1 g2 g3 g4)) (u := .bool true) (by rfl) rfl rfl rfl rfl (by rfl) (by kernel_rfl) qD (i:=i) (by omega) fun w8 sJ s7 z6 => ?_)))))))))
  have mH:Fx.aP w8 g5 29 (fM (rP (i+1) rH rJ g1 g2 g3 g4)) 93:=sJ.to (Le i _ _ _ _ _ _ (by omega))
  have aT:=Fx.gD.bP s7 qD.ty
  have m32:=m24.aU aT (by decide)
  have mI:=qC.aU aT trivial
  have nO:=oZ.aU aT trivial
  have qW:=qU.aU aT trivial
  have nu:=qV.aU aT trivial
  have b8:=s7.below b7 b7.size (by omega)
  refine Ln (Fx.dV (sN (Wl (Lv (.int .i64 ((i:Int)+1)) (Fx.aS rfl h3 rfl Fx.io) (Lv (.int .i64 ((i:Int)+1)) (ah rfl rfl) (Ln (Fx.kg ⟨i+1,(by omega),h1,(h2.trans Fx.ic),Fx.ic,m32,mI,nO,qW,nu,mH,b8⟩ ?_)))))))
  show((k:Int)-intOf ((.int .i64 ((i:Int)+1)))).toNat<_
  simp only[h3,intOf]; omega
 refine Lv (.bool false) (Fx.dX rfl h3 h2 c21) (Ln (sN (Ws (Wc (b:=false) rfl (fun h=>nomatch h) (fun _=>Fx.W.exit (Fx.dQ (Fx.jC (Fx.dR (sN (Ws (Wl (Lv ((pt g5)) (ah rfl h1) (Lv ((pt g5)) (aj rfl rfl) (Lv (.int .i64 (0)) (aj rfl rfl) (Ln (sN (Wr (⟨.tuple #[(pt g5),.int .i64 (0)],Fx.cB Tryd.results13 (by exact rfl) (by exact rfl),?_⟩))))))))))))))))))
 have eik:i=k:=by omega
 subst eik
 exact⟨g5,rP i rH rJ g1 g2 g3 g4,rfl,⟨_,_,_,_,_,_,rfl⟩,{ c:=qD,t:=m24,p:=qC.mM fun i hi=>absurd hi (Nat.not_lt_zero _),r:=oZ.mM fun i hi=>absurd hi (Nat.not_lt_zero _),g:=qU.mM fun i hi=>absurd hi (Nat.not_lt_zero _),a:=qV.mM fun i hi=>absurd hi (Nat.not_lt_zero _),ne:=⟨hne.mp,hne.mr,hne.mg,hne.ma,hne.pr,hne.pg,hne.pa,hne.rg,hne.ra,hne.ga⟩,lB:=Wn,pB:=kM,rB:=su,gB:=uY,aB:=wH },b7⟩
end Go.Proofs.YtahbiajdgealnaaDoor
namespace Go.Proofs.YtahbiajdgealnaaDoor.Fx
open Go.RowKit Go.Shelf Go.Sort Go.Lib
def iD(a b:Int):Int:=if a<b then -1 else if b<a then 1 else 0
theorem Gc(a b:Int):iD a b<0<->a<b:=by
 unfold iD
 split
 ·simp_all
 split <;> simp_all
theorem NG{α:Type}(ky:α->Int):SWO (ltOf fun x y=>iD (ky x) (ky y)):=by
 have e : ∀ x y,(ltOf fun x y=>iD (ky x) (ky y)) x y=decide (ky x<ky y):=fun x y=>by
  unfold ltOf
  exact decide_eq_decide.2 (Gc _ _)
 refine⟨fun x => ?_,fun x y z h1 h2 => ?_,fun x y z h1 h2 => ?_⟩ <;> simp only[e,decide_eq_true_eq,decide_eq_false_iff_not]at * <;> omega
end Go.Proofs.YtahbiajdgealnaaDoor.Fx
namespace Go.Proofs.YtahbiajdgealnaaDoor.Fx
open Go.RowKit Go.Shelf Go.Sort Go.Lib
theorem Dp{w:World}{B g cap m N s:Nat}{E:TypeId}(d':Array Value)(os:Array Obj){x:Nat->Value}(h:Own w B E s (.slice (some ⟨g,0,none⟩) m cap) m x)(hd:d'.size=m*s) :
 Own (sortWorld id w g 0 N d' os) B E s (.slice (some ⟨g,0,none⟩) m cap) m (fun q=>d'[q]!)/\Stp g w (sortWorld id w g 0 N d' os):=by
 rcases h.2 with ⟨h1,_⟩|⟨g',cap',cur,h1,hB,hg,hn,hm,hs,ht⟩
 ·cases h1
 simp only[Value.slice.injEq,Option.some.injEq,Addr.mk.injEq]at h1
 obtain⟨⟨rfl,_⟩,_,rfl⟩:=h1
 have hl:g<w.heap.size:=(Array.getElem?_eq_some_iff.1 hg).1
 have hb:(sortWorld id w g 0 N d' os).heap=(w.heap.modify g (onCells (putCells id 0 d')))++os:=rfl
 have hbk : ∀ k,k<w.heap.size->(sortWorld id w g 0 N d' os).heap[k]? = (w.heap.modify g (onCells (putCells id 0 d')))[k]? := fun k hk=>by
  rw[hb,Array.getElem?_append_left (by simpa using hk)]
 have hms:m*s<=cap*s:=Nat.mul_le_mul_right s hn
 refine⟨⟨by simp,.inr ⟨g,cap,putCells id 0 d' cur,rfl,hB,?_,hn,hm,?_,?_⟩⟩,⟨rfl,rfl,rfl,by rw[hb]; simp,fun k hk ne => ?_⟩⟩
 ·rw[hbk g hl,Array.getElem?_modify,if_pos rfl,hg]; rfl
 ·simp[putCells,hs]
 ·apply List.ext_getElem?
  intro i
  by_cases hi:i<m*s
  ·have hi2:i<cur.size:=by omega
   rw[List.getElem?_take_of_lt (by omega),Array.getElem?_toList]
   unfold putCells
   rw[Array.getElem?_mapIdx,Array.getElem?_eq_getElem hi2]
   simp[hi,hd]
  rw[List.getElem?_eq_none (by simp; omega),List.getElem?_eq_none (by simp; omega)]
 rw[hbk k hk,Array.getElem?_modify,if_neg (Ne.symm ne)]
theorem EP{w:World}{B g cap m s:Nat}{E:TypeId}(d:Array Value){x:Nat->Value}(h:Own w B E s (.slice (some ⟨g,0,none⟩) m cap) m x)(hd:d.size=m*s)(hx : ∀ q,q<m*s->x q=d[q]!)(hm0:0<m) :
 Holds id w g 0 d/\g<w.heap.size:=by
 obtain⟨g',cap',e,_,hl,_,hc⟩:=h.form hm0
 rcases h.2 with ⟨h1,_⟩|⟨g2,cap2,cur,h1,hB,hg,hn,hm,hs,ht⟩
 ·cases h1
 simp only[Value.slice.injEq,Option.some.injEq,Addr.mk.injEq]at h1 e
 obtain⟨⟨rfl,_⟩,_,rfl⟩:=h1
 obtain⟨⟨rfl,_⟩,_,rfl⟩:=e
 refine⟨fun j hj=>⟨?_,?_⟩,hl⟩
 ·have h2:=hc j (by omega)
  rw[h2,hx j (by omega)]; rfl
 simp[World.frozen?,hg]
theorem zT{α:Type} [Inhabited α]{s:Nat}{enc:α->Nat->Value}{e0:α}{l:List α}(hs:0<s) : ∀ q,q<l.length*s->flat s (fun k=>enc (l.getD k e0)) q=(Go.Sort.flatK (fun x=>(List.range s).map (enc x)) s l.toArray)[q]! := fun q hq=>by
 have h1:q / s<l.length:=Nat.div_lt_of_lt_mul (by rw[Nat.mul_comm]; exact hq)
 have h2:q % s<s:=Nat.mod_lt _ hs
 rw[Go.Sort.get_flatK _ _ _ q (by simpa using hq)]
 unfold flat
 have e1:l.toArray[q / s]! = l.getD (q / s) e0:=by simp[h1]
 rw[e1]
 simp[h2]
theorem Li{P:Program}{ρ:Ren}(LS:SlLaysF0.n6 P ρ){gc:Nat}(eg : ∀ args w,(callFunc gc args).run P w = .ok (.enter gc args) w){w:World}{B cap s:Nat}{a:Option Addr}{E:TypeId}(hs0:0<s)
 (aE : ∀ w,(isAgg (ρ.t 24)).run P w = .ok true w) (zE : ∀ w,(Go.sizeOf (ρ.t 24)).run P w = .ok s w) {α:Type} [Inhabited α] {enc:α->Nat->Value} {e0:α} (h1 : ∀ x j,j<s->(enc x j).oneCell'=true) {ky:α->Int} {l:List α}
 (h:Own w B E s (.slice a l.length cap) l.length (flat s fun q=>enc (l.getD q e0)))
 (hc : ∀ w1 x y,Calls P gc #[.agg (ay s (enc x)),.agg (ay s (enc y))] w1 fun e w'=>e = .returned (.int .i64 (iD (ky x) (ky y))) /\ ∃ q os',w'=grow (w1.drewN q) os') (hm:l.length<4611686018427387904) :
 Calls P (ρ.f 6) #[.slice a l.length cap,.func (.func gc) #[] #[]] w fun e w'=>e = .returned (.tuple #[]) /\ ∃ l':List α,l'.Perm l/\l'.Pairwise (fun x y=>ky x<=ky y)/\Own w' B E s (.slice a l.length cap) l.length (flat s fun q=>enc (l'.getD q e0))/\(∀ k,k<w.heap.size->(Value.slice a l.length cap).ownBlock≠some k->w'.heap[k]? = w.heap[k]?)/\gD [E] w w'/\Below B w w':=by
 by_cases h0:l.length=0
 ·have hl:l = []:=List.length_eq_zero_iff.1 h0
  subst hl
  refine(AnyF.slices_SortFunc_none LS a cap _ w).mono ?_
  rintro e w' ⟨he,rfl⟩
  exact⟨he,[],List.Perm.refl _,List.Pairwise.nil,h,fun _ _ _=>rfl,gD.refl _,Below.refl _ _⟩
 obtain⟨g,c2,e1,hB,hg,hmc,_⟩:=h.form (by omega)
 simp only[Value.slice.injEq]at e1
 obtain⟨rfl,_,rfl⟩:=e1
 have hk : ∀ x,((fun x=>(List.range s).map (enc x)) x).length=s:=fun x=>by simp
 have hsz:(Go.Sort.flatK (fun x=>(List.range s).map (enc x)) s l.toArray).size=l.length*s:=by simp
 obtain⟨hH,hl⟩:=EP _ h hsz (zT hs0) (by omega)
 have hty:Ty w g E:=h.ty rfl
 have hv : ∀ x,((List.range s).map (enc x)).toArray=ay s (enc x):=fun x=>by
  apply Array.ext
  ·simp[aV]
  ·intro i h1 h2
   have h3:i<s:=by simpa using h1
   have:=dN (enc x) h3
   rw[Array.getElem?_eq_getElem h2]at this
   rw[Option.some.inj this]; simp
 have hs:=AnyQ.slices_SortFunc LS s aE zE (fun x=>(List.range s).map (enc x)) hk (fun x v hv=>by
  obtain⟨j,hj,rfl⟩:=List.mem_map.1 hv
  exact h1 x j (List.mem_range.1 hj)) (fun x y=>iD (ky x) (ky y)) (NG _) gc #[] g 0 cap l.toArray w eg
  (fun N os dk hdk x y=>by rw[hv,hv]; exact hc _ x y) hH hl (by simpa using hm)
 rw[show l.toArray.size=l.length by simp]at hs
 refine hs.mono ?_
 rintro e w' ⟨he,d',N,os,⟨p1,_,p3⟩,hso,rfl⟩
 have p1:d'.size=l.length:=by simpa using p1
 have hw:sortWorldK (fun x=>(List.range s).map (enc x)) s w g 0 N d' os=sortWorld id w g 0 N (Go.Sort.flatK (fun x=>(List.range s).map (enc x)) s d') os:=rfl
 rw[hw]
 obtain⟨o1,o2⟩:=Dp (N:=N) (Go.Sort.flatK (fun x=>(List.range s).map (enc x)) s d') os h (by simp[p1])
 have e1:(d'.extract 0 l.length).toList=d'.toList:=by
  rw[<- p1]; simp
 have e2:(l.toArray.extract 0 l.length).toList=l:=by simp
 rw[e1,e2]at p3
 refine⟨he,d'.toList,p3,?_,?_,fun k hk hne=>o2.block k hk (fun e=>hne (by rw[e]; rfl)),gD.bP o2 hty,⟨o2.os,o2.tape,o2.output,o2.size,fun k hk=>o2.block k (by omega) (by omega)⟩⟩
 ·rw[List.pairwise_iff_getElem]
  intro i j hi hj hij
  have h3:=hso i j (Nat.zero_le _) hij (by rw[<- p1]; simpa using hj)
  unfold ltOf at h3
  rw[decide_eq_false_iff_not,Gc]at h3
  have a1:d'[i]! = d'.toList[i]:=by rw[getElem!_pos d' i (by simpa using hi)]; simp
  have a2:d'[j]! = d'.toList[j]:=by rw[getElem!_pos d' j (by simpa using hj)]; simp
  rw[a1,a2]at h3
  exact Int.not_lt.1 h3
 have:=fun q (hq:q<l.length*s)=>zT (enc:=enc) (e0:=e0) (l:=d'.toList) hs0 q (by simpa [p1] using hq)
 have o3:Own (sortWorld id w g 0 N (Go.Sort.flatK (fun x=>(List.range s).map (enc x)) s d') os) B E s (.slice (some ⟨g,0,none⟩) l.length cap) l.length (flat s fun q=>enc (d'.toList.getD q e0)):=o1.congr fun q hq=>by
  have:=this q hq
  simp only[Array.toArray_toList]at this
  exact this.symm
 exact o3
end Go.Proofs.YtahbiajdgealnaaDoor.Fx
namespace Go.Proofs.YtahbiajdgealnaaDoor
open Go.Shelf
def Ig:Go.Shelf.Ren:=⟨fun|6=>33|15=>54|14=>53|28=>82|29=>83|20=>74|21=>75|22=>76|23=>77|24=>78|25=>79|26=>80|27=>81|46=>100|47=>101|48=>102|49=>103|50=>104|57=>119|n=>n,fun|22=>49|24=>99|25=>107|3=>3|39=>130|0=>0|53=>154|55=>22|4=>4|46=>147|45=>146|50=>151|5=>5|9=>9|66=>165|70=>169|76=>182|77=>183|n=>n,fun|n=>n⟩
theorem VA:Go.Proofs.SlLaysF0.n6 Tryd.prog Ig := {
 mixed:=by kernel_rfl
 f6:=⟨Tryd.f33.name,by decide,Tryd.func33.trans (congrArg some (by kernel_rfl))⟩
 f14:=⟨Tryd.f53.name,by decide,Tryd.func53.trans (congrArg some (by kernel_rfl))⟩
 f15:=Tryd.func54.trans (congrArg some (by kernel_rfl))
 f20:=⟨Tryd.f74.name,by decide,Tryd.func74.trans (congrArg some (by kernel_rfl))⟩
 f21:=⟨Tryd.f75.name,by decide,Tryd.func75.trans (congrArg some (by kernel_rfl))⟩
 f22:=⟨Tryd.f76.name,by decide,Tryd.func76.trans (congrArg some (by kernel_rfl))⟩
 f23:=⟨Tryd.f77.name,by decide,Tryd.func77.trans (congrArg some (by kernel_rfl))⟩
 f24:=⟨Tryd.f78.name,by decide,Tryd.func78.trans (congrArg some (by kernel_rfl))⟩
 f25:=⟨Tryd.f79.name,by decide,Tryd.func79.trans (congrArg some (by kernel_rfl))⟩
 f26:=⟨Tryd.f80.name,by decide,Tryd.func80.trans (congrArg some (by kernel_rfl))⟩
 f27:=⟨Tryd.f81.name,by decide,Tryd.func81.trans (congrArg some (by kernel_rfl))⟩
 f28:=Tryd.func82.trans (congrArg some (by kernel_rfl))
 f29:=Tryd.func83.trans (congrArg some (by kernel_rfl))
 f46:=⟨Tryd.f100.name,by decide,Tryd.func100.trans (congrArg some (by kernel_rfl))⟩
 f47:=Tryd.func101.trans (congrArg some (by kernel_rfl))
 f48:=Tryd.func102.trans (congrArg some (by kernel_rfl))
 f49:=⟨Tryd.f103.name,by decide,Tryd.func103.trans (congrArg some (by kernel_rfl))⟩
 f50:=⟨Tryd.f104.name,by decide,Tryd.func104.trans (congrArg some (by kernel_rfl))⟩
 f57:=⟨Tryd.f119.name,by decide,Tryd.func119.trans (congrArg some (by kernel_rfl))⟩
 t0:=Tryd.underlying0
 a0:=Tryd.isAgg0
 z0:=Tryd.sizeOf0
 v0:=Tryd.zeroValue0
 t3:=Tryd.underlying3
 a3:=Tryd.isAgg3
 z3:=Tryd.sizeOf3
 v3:=Tryd.zeroValue3
 t4:=Tryd.underlying4
 a4:=Tryd.isAgg4
 z4:=Tryd.sizeOf4
 v4:=Tryd.zeroValue4
 t5:=Tryd.underlying5
 a5:=Tryd.isAgg5
 z5:=Tryd.sizeOf5
 v5:=Tryd.zeroValue5
 t9:=Tryd.underlying9
 a9:=Tryd.isAgg9
 z9:=Tryd.sizeOf9
 v9:=Tryd.zeroValue9
 t22:=Tryd.underlying49
 a22:=Tryd.isAgg49
 z22:=Tryd.sizeOf49
 v22:=Tryd.zeroValue49
 t25:=Tryd.underlying107
 a25:=Tryd.isAgg107
 z25:=Tryd.sizeOf107
 v25:=Tryd.zeroValue107
 t39:=Tryd.underlying130
 a39:=Tryd.isAgg130
 z39:=Tryd.sizeOf130
 v39:=Tryd.zeroValue130
 t45:=Tryd.underlying146
 a45:=Tryd.isAgg146
 z45:=Tryd.sizeOf146
 v45:=Tryd.zeroValue146
 t46:=Tryd.underlying147
 a46:=Tryd.isAgg147
 z46:=Tryd.sizeOf147
 v46:=Tryd.zeroValue147
 t50:=Tryd.underlying151
 a50:=Tryd.isAgg151
 z50:=Tryd.sizeOf151
 v50:=Tryd.zeroValue151
 t53:=Tryd.underlying154
 a53:=Tryd.isAgg154
 z53:=Tryd.sizeOf154
 v53:=Tryd.zeroValue154
 t55:=Tryd.underlying22
 a55:=Tryd.isAgg22
 z55:=Tryd.sizeOf22
 v55:=Tryd.zeroValue22
 t66:=Tryd.underlying165
 a66:=Tryd.isAgg165
 z66:=Tryd.sizeOf165
 v66:=Tryd.zeroValue165
 t70:=Tryd.underlying169
 a70:=Tryd.isAgg169
 z70:=Tryd.sizeOf169
 v70:=Tryd.zeroValue169
 t76:=Tryd.underlying182
 a76:=Tryd.isAgg182
 z76:=Tryd.sizeOf182
 v76:=Tryd.zeroValue182
 t77:=Tryd.underlying183
 a77:=Tryd.isAgg183
 z77:=Tryd.sizeOf183
 v77:=Tryd.zeroValue183 }
end Go.Proofs.YtahbiajdgealnaaDoor
namespace Go.Proofs.YtahbiajdgealnaaDoor
open Go.RowKit Go.Sort Rt
set_option linter.unusedVariables false
set_option maxRecDepth 20000
namespace Fx
def NH(w w':World):Prop := ∃ q os,w'=grow (w.drewN q) os
theorem NH.refl(w:World):NH w w:=⟨0,#[],by rw[grow_empty]; rfl⟩
theorem NH.alloc{w w1 w2:World}(h:NH w w1)(z : ∃ o,w2=w1.alloc o):NH w w2:=by
 obtain⟨q,os,rfl⟩:=h
 obtain⟨o,rfl⟩:=z
 exact⟨q,os ++ #[o],by rw[alloc_eq_grow,grow_grow]⟩
theorem NH.drew{w w1 w2:World}(h:NH w w1)(z:w2=w1.drew):NH w w2:=by
 obtain⟨q,os,rfl⟩:=h
 subst z
 exact⟨q+1,os,rfl⟩
section
variable {P:Program} {n:Nat} {Q:Post} {f:Nat->Value} {w:World} {ops:Array Oper} {rest:List Oper} {o:Oper}
theorem L.VB{T:TypeId}{x:Operand}{v:Value}{m:Nat}{y:Nat->Value}(hw:Region.wanted o (yf ops f)=true)(ho:o.op = .box T x)(hx:ev f x=v)(hc:v.cells=ay m y)(hd:inn n o.dst=true)
 (h : ∀ g w',g=w.heap.size->aP w' g m y T->Stp w.heap.size w w'->(∃ o,w'=w.alloc o)->L P n ops Q rest (put f o.dst (.pointer (some ⟨g,0,none⟩))) w'):L P n ops Q (o::rest) f w:=by
 have hrun:(execOp (ev f) o).run P w = .ok (.value (.pointer (some ⟨w.heap.size,0,none⟩))) (w.alloc (.cells v.cells T)):=by
  unfold execOp
  simp[ho,hx,Instr.box,newVar,newRow]
 refine L.val hw hrun hd (h _ _ rfl ?_ (Stp.alloc _ _) ⟨_,rfl⟩)
 show(w.alloc _).heap[w.heap.size]? = _
 rw[alloc_at,if_pos rfl,hc]
theorem L.NI{T E:TypeId}{len s:Nat}{parts:List (Nat × Operand)}{vs:List (Nat × Value)}{zc y:Nat->Value}(hw:Region.wanted o (yf ops f)=true)(ho:o.op = .buildSlice T len parts.toArray)(hp:parts.map (fun p=>(p.1,ev f p.2))=vs)(hu:P.underlying T=some (.slice E))(hs:(P.info? E).map (·.size)=some s)
 (hbig:Nat.ble (len*s) 16777216=true) (hpos:Nat.beq (len*s) 0=false) (hz:((P.info? E).bind (·.zero)).map (·.cells)=some (ay s zc)) (hf:Instr.fill (fun i=>some (i*s,s)) (ay (len*s) (fun j=>zc (j % s))) vs=some (ay (len*s) y)) (hd:inn n o.dst=true)
 (h : ∀ g w',g=w.heap.size->aP w' g (len*s) y E->Stp w.heap.size w w'->(∃ o,w'=w.alloc o)->L P n ops Q rest (put f o.dst (.slice (some ⟨g,0,none⟩) len len)) w'):L P n ops Q (o::rest) f w:=by
 obtain⟨z,hz1,hz2⟩:=Option.map_eq_some_iff.1 hz
 obtain⟨i,hi,hz3⟩:=Option.bind_eq_some_iff.1 hz1
 have hsz:i.size=s:=by rw[hi]at hs; simpa using hs
 have hb : ¬ len*s>2^24:=by have:=Nat.le_of_ble_eq_true hbig; omega
 have h0:len*s≠0:=fun e=>by rw[e]at hpos; exact absurd hpos (by decide)
 have hs0:0<s:=Nat.pos_of_ne_zero fun e=>h0 (by rw[e,Nat.mul_zero])
 have hcells:(Array.range (len*s)).map (fun j=>z.cells[j % z.cells.size]!)=ay (len*s) (fun j=>zc (j % s)):=by
  refine mK (by simp) fun j hj => ?_
  have hjs:j % s<s:=Nat.mod_lt _ hs0
  have hg:=dN zc hjs
  rw[hz2]
  simp[hj,aV]
  rw[getElem!_def,hg]
 have hrun:(execOp (ev f) o).run P w = .ok (.value (.slice (some ⟨w.heap.size,0,none⟩) len len)) (w.alloc (.cells (ay (len*s) y) E)):=by
  unfold execOp
  simp only[ho,List.map_toArray,hp]
  unfold Instr.buildSlice
  have hb' : ¬ 16777216<len*s:=by omega
  simp[underlying,sizeOf,typeInfo,zeroValue,hu,hi,hsz,hz3,hb']
  simp[h0,hcells,hf,newRow]
 refine L.val hw hrun hd (h _ _ rfl ?_ (Stp.alloc _ _) ⟨_,rfl⟩)
 show(w.alloc _).heap[w.heap.size]? = _
 rw[alloc_at,if_pos rfl]
end
section
variable {P:Program} {n:Nat} {ops:List Oper} {Q:Post}
theorem W.SV{f:Nat->Value}{w:World}{id:Nat}(l:List Nat)(cs:List Nat)(S:World->World->Prop)(hS : ∀ w,S w w)(hT : ∀ a b c,S a b->S b c->S a c)(aQ:List (Nat × Nat × List Nat))(hm:P.follows .mixedOrders=true)(hok:iL n ops=true)(hsel:Region.noSelect ops.toArray=true)(hp:uh ops l=true)(hpp:qb ops cs aQ l=true)
 (h : ∀ w1,Below w.heap.size w w1->w1=w.drew->R P n ops cs S Q l f w1):W P n (.region id ops.toArray true) Q f w:=fun a ha=>by
 refine wp_region_any hm ?_
 unfold uh at hp
 rw[Bool.and_eq_true,Bool.and_eq_true,Bool.and_eq_true,List.all_eq_true,List.all_eq_true]at hp
 obtain⟨⟨⟨p1,p2⟩,p3⟩,p4⟩:=hp
 have hlen:=Nat.eq_of_beq_eq_true p1
 have TP:l.Nodup:=of_decide_eq_true p3
 have:=R.any (P:=P) (Q:=Q) (aQ:=aQ) hok hsel hS hT ops.length l (Array.replicate ops.length false) a f w.drew hlen (by simp) (Bf.start _ _ _) (fun i=>by
  have hg : ∀ i,(Array.replicate ops.length false).getD i false=false:=fun i=>getD_replicate_false _ _
  constructor
  ·intro hi; exact⟨by simpa [Nat.blt_eq] using p2 i hi,hg i⟩
  ·intro hi
   obtain⟨k,hk,hk2⟩:=List.any_eq_true.1 (p4 i (by simpa using hi.1))
   rw[Nat.eq_of_beq_eq_true hk2]; exact hk) TP (nH hpp) ha (h w.drew (Below.refl _ _).drew rfl)
 simpa using this
end
end Fx
namespace Rt
structure Bb where
 x:Nat->Int
 h:0<=x 1/\x 1<=18446744073709551615
def g0:Bb:=⟨fun _=>0,by decide⟩
instance:Inhabited Bb:=⟨g0⟩
def Bl(x:Nat->Int):Bb:=if h:0<=x 1/\x 1<=18446744073709551615 then⟨x,h⟩else g0
def Dq(x:Bb):Int:=x.x 0*18446744073709551616+x.x 1
theorem Pn{x:Nat->Int}(h:0<=x 1/\x 1<=18446744073709551615):(Bl x).x=x:=by unfold Bl; rw[dif_pos h]
def Ih(a b:Int):Int:=if a=0 then b else a
def ER(a b:Int)(i:Nat):Int:=if i=0 then a else b
def VD(a b:Int):Nat->Value:=fun j => .int .i64 (ER a b j)
section
variable {a b:Int} {i:Nat}
theorem ZL(h0:i=0\/a=0)(c:ER a b i=0):i+1=0\/a=0:=by
 unfold ER at c
 rcases h0 with rfl|e
 ·exact .inr (by simpa using c)
 exact .inr e
theorem ZM(h0:i=0\/a=0)(c:ER a b i=0):i+1<2\/Ih a b=0:=by
 unfold ER at c
 by_cases e:i=0
 ·exact .inl (by omega)
 rw[if_neg e]at c
 rcases h0 with h|h
 ·exact absurd h e
 exact .inr (by unfold Ih; rw[if_pos h]; exact c)
theorem ZN(h0:i=0\/a=0)(c : ¬ ER a b i=0):Ih a b=ER a b i:=by
 unfold ER at c ⊢
 unfold Ih
 by_cases e:i=0
 ·rw[if_pos e]at c ⊢; rw[if_neg c]
 rw[if_neg e]
 rcases h0 with h|h
 ·exact absurd h e
 rw[if_pos h]
theorem ZO(h:i<2\/Ih a b=0)(c : ¬ (i:Int)<2):Ih a b=0:=by
 rcases h with h|h
 ·omega
 exact h
end
theorem SX(x y:Bb):Ih (Fx.iD (x.x 0) (y.x 0)) (Fx.iD (x.x 1) (y.x 1))=Fx.iD (Dq x) (Dq y):=by
 have h1:=x.h
 have h2:=y.h
 unfold Ih Fx.iD Dq
 repeat' split
 all_goals first|rfl|omega
structure Ii(n:Nat)(S:Nat->Bool)(il:List Nat):Prop where
 nd:il.Nodup
 mem : ∀ i,i∈il<->(i<n/\S i=true)
theorem Ii.start(n:Nat):Ii n (fun _=>false) []:=⟨List.nodup_nil,fun i=>⟨fun h=>(nomatch h),fun h=>(nomatch h.2)⟩⟩
theorem Ii.step{n i:Nat}{S:Nat->Bool}{il:List Nat}(h:Ii n S il)(hi:i<n)(hs:S i=false):Ii n (Fx.aH S i true) (il ++ [i]):=by
 have hn:i ∉ il:=fun hm=>by have:=((h.mem i).1 hm).2; rw[hs]at this; cases this
 refine⟨List.nodup_append.2 ⟨h.nd,by simp,fun a ha b hb e => ?_⟩,fun j => ?_⟩
 ·rw[List.mem_singleton]at hb; subst hb; subst e; exact hn ha
 rw[List.mem_append,List.mem_singleton,h.mem]
 show _<->(j<n/\(if j=i then true else S j)=true)
 by_cases e:j=i
 ·subst e; rw[if_pos rfl]; exact⟨fun _=>⟨hi,rfl⟩,fun _ => .inr rfl⟩
 rw[if_neg e]; exact⟨fun h=>h.elim id fun h=>absurd h e,fun h => .inl h⟩
theorem Ii.len{n:Nat}{S:Nat->Bool}{il:List Nat}(h:Ii n S il):il.length<=n :=
 uK n il.length (fun q=>il.getD q 0) (fun q hq=>by
  have:il.getD q 0∈il:=by rw[List.getD_eq_getElem?_getD,List.getElem?_eq_getElem hq]; exact List.getElem_mem hq
  exact((h.mem _).1 this).1) fun a b ha hb e=>by
  have e:il.getD a 0=il.getD b 0:=e
  rw[List.getD_eq_getElem?_getD,List.getD_eq_getElem?_getD,List.getElem?_eq_getElem ha,List.getElem?_eq_getElem hb]at e
  exact(List.getElem_inj h.nd).1 e
structure VE(m:dD)(l:List Bb):Prop where
 mem : ∀ x,x∈l -> ∃ i,i<m.gn/\x.x=m.g i
 all : ∀ i,i<m.gn -> ∃ x,x∈l/\x.x=m.g i
 up:l.Pairwise fun x y=>Dq x<Dq y
theorem VE.of{m:dD}{w:World}{b:Nat}{il:List Nat}{l:List Bb}{S:Nat->Bool}(hM:Fx.gH w b m.gn (fun i=>m.g i 0) (fun i=>m.g i 1) (mF m.g))(hi:Ii m.gn S il)(hall : ∀ i,i<m.gn->S i=true)(hp:l.Perm (il.map fun i=>Bl (m.g i)))(hup:l.Pairwise fun x y=>Dq x<=Dq y):VE m l:=by
 have ok : ∀ i,i<m.gn->(Bl (m.g i)).x=m.g i:=fun i hi=>Pn (hM.ok hi).b
 have mem : ∀ i,i∈il<->i<m.gn:=fun i=>by rw[hi.mem]; exact⟨fun h=>h.1,fun h=>⟨h,hall i h⟩⟩
 have hmem : ∀ x,x∈l -> ∃ i,i<m.gn/\x=Bl (m.g i):=fun x hx=>by
  obtain⟨i,h1,h2⟩:=List.mem_map.1 (hp.mem_iff.1 hx)
  exact⟨i,(mem i).1 h1,h2.symm⟩
 have hnd:l.Nodup:=by
  rw[hp.nodup_iff,List.nodup_iff_pairwise_ne,List.pairwise_map]
  refine(List.nodup_iff_pairwise_ne.1 hi.nd).imp_of_mem fun {a b} ha hb hne e=>hne ?_
  have h1:=congrArg Bb.x e
  rw[ok a ((mem a).1 ha),ok b ((mem b).1 hb)]at h1
  exact hM.inj a b ((mem a).1 ha) ((mem b).1 hb) (by show m.g a 0=m.g b 0; rw[h1]) (by show m.g a 1=m.g b 1; rw[h1])
 refine⟨fun x hx => ?_,fun i h1 => ?_,?_⟩
 ·obtain⟨i,h1,h2⟩:=hmem x hx
  exact⟨i,h1,by rw[h2,ok i h1]⟩
 ·exact⟨Bl (m.g i),hp.mem_iff.2 (List.mem_map.2 ⟨i,(mem i).2 h1,rfl⟩),ok i h1⟩
 refine(hup.and (List.nodup_iff_pairwise_ne.1 hnd)).imp_of_mem fun {a b} ha hb h => ?_
 obtain⟨i,h1,e1⟩:=hmem a ha
 obtain⟨j,h2,e2⟩:=hmem b hb
 have hne:=h.2
 rcases Int.lt_or_eq_of_le h.1 with h3|h3
 ·exact h3
 exfalso
 have ha1:=a.h
 have hb1:=b.h
 unfold Dq at h3
 refine hne ?_
 have e0:a.x 0=b.x 0/\a.x 1=b.x 1:=by omega
 rw[e1,e2,ok i h1,ok j h2]at e0
 have:=hM.inj i j h1 h2 e0.1 e0.2
 rw[e1,e2,this]
def Lj(m:dD)(l:List Int)(k:Nat):Nat->Value:=JY (l.getD k 0) (m.T.par (l.getD k 0)) (tN m (l.getD k 0))
def L6(l:List Bb)(k:Nat):Nat->Value:=iJ (l.getD k g0).x
theorem Dr{id par:Int}{R:Nat->Int}{z:Nat->Value} : ∀ j,j<56->Fx.aX (Fx.aX (Fx.aX z 0 1 (fun _ => .int .u64 id)) 1 1 (fun _ => .int .u64 par)) 2 54 (Fx.rv .i64 R) j=JY id par R j:=fun j hj=>by
 unfold Fx.aX JY
 rcases(show j=0\/j=1\/2<=j by omega)with rfl|rfl|h
 ·rfl
 ·rfl
 ·rw[if_pos (by omega),if_neg (by omega),if_neg (by omega)]; rfl
theorem NJ{m:dD}{l:List Int}{n:Nat}{id par:Int}{R:Nat->Int}{z z2:Nat->Value}(e1:l.getD n 0=id)(e2:m.T.par id=par)(e3:tN m id=R) : ∀ j,j<(n+1)*56->Fx.qA (Fx.flat 56 (Lj m l)) (n*56) (Fx.aX z (0*56) 56 (Fx.aX (Fx.aX (Fx.aX z2 0 1 (fun _ => .int .u64 id)) 1 1 (fun _ => .int .u64 par)) 2 54 (Fx.rv .i64 R))) j=Fx.flat 56 (Lj m l) j:=fun j hj =>
 (Fx.Bv j hj).trans (Fx.jK (fun k _ q hq=>by
  unfold Fx.I5
  by_cases e:k=n
  ·subst e; rw[if_pos rfl,Dr q hq]; unfold Lj; rw[e1,e2,e3]
  ·rw[if_neg e]) j hj)
theorem NK{g:Nat->Nat->Int}{il:List Nat}{i:Nat}{z:Nat->Value} : ∀ j,j<(il.length+1)*5->Fx.qA (Fx.flat 5 fun k=>iJ (g (il.getD k 0))) (il.length*5) (Fx.aX z (0*5) 5 (iJ (g i))) j=Fx.flat 5 (fun k=>iJ (g ((il ++ [i]).getD k 0))) j:=fun j hj =>
 (Fx.Bv j hj).trans (Fx.jK (fun k hk q _=>by
  unfold Fx.I5
  by_cases e:k=il.length
  ·subst e; rw[if_pos rfl]; simp[List.getD_eq_getElem?_getD]
  ·rw[if_neg e]; show iJ (g (il.getD k 0)) q=_; rw[List.getD_eq_getElem?_getD,List.getD_eq_getElem?_getD,List.getElem?_append_left (by omega)]) j hj)
theorem NM{m:dD}{il:List Nat}{S:Nat->Bool}{w:World}{b:Nat}(hM:Fx.gH w b m.gn (fun i=>m.g i 0) (fun i=>m.g i 1) (mF m.g))(hi:Ii m.gn S il) : ∀ j,j<(il.map fun i=>Bl (m.g i)).length*5->Fx.flat 5 (fun k=>iJ (m.g (il.getD k 0))) j=Fx.flat 5 (L6 (il.map fun i=>Bl (m.g i))) j:=fun j hj =>
 Fx.jK (n:=(il.map fun i=>Bl (m.g i)).length) (fun k hk q _=>by
  rw[List.length_map]at hk
  unfold L6
  have hm:il.getD k 0∈il:=by rw[List.getD_eq_getElem?_getD,List.getElem?_eq_getElem hk]; exact List.getElem_mem hk
  have e:((il.map fun i=>Bl (m.g i)).getD k g0)=Bl (m.g (il.getD k 0)):=by
   rw[List.getD_eq_getElem?_getD,List.getD_eq_getElem?_getD,List.getElem?_eq_getElem (by rw[List.length_map]; exact hk),List.getElem?_eq_getElem hk,List.getElem_map]; rfl
  rw[e,Pn (hM.ok ((hi.mem _).1 hm).1).b]) j hj
theorem Ij(s:yM)(a:Option Addr)(n c:Nat):Fx.eB (iR s) 18 (.slice a n c)=iR { s with na:=a,nn:=n,nc:=c }:=by
 funext p
 unfold Fx.eB iR
 by_cases e:p=18
 ·subst e; rw[if_pos rfl,if_neg (by omega),if_neg (by omega),if_neg (by omega),if_pos rfl]
 rw[if_neg e]
 repeat' split
 all_goals first|rfl|omega
theorem ES(s:yM)(a:Option Addr)(n c:Nat) : ∀ p,p<20->Fx.eB (iR s) 19 (.slice a n c) p=iR { s with ga:=a,gn:=n,gc:=c } p:=fun p hp=>by
 unfold Fx.eB iR
 by_cases e:p=19
 ·subst e; rw[if_pos rfl,if_neg (by omega),if_neg (by omega),if_neg (by omega),if_neg (by omega)]
 ·rw[if_neg e]
  repeat' split
  all_goals first|rfl|omega
def Bc(m:dD)(na:Option Addr)(nn nc:Nat)(ga:Option Addr)(gn gc:Nat):yM:=⟨m.inn,m.left,m.known,na,nn,nc,ga,gn,gc⟩
theorem NP{id par:Int}{R:Nat->Int}{z z2:Nat->Value} : ∀ j,j<1*56->(Fx.aX z (0*56) 56 (Fx.aX (Fx.aX (Fx.aX z2 0 1 (fun _ => .int .u64 id)) 1 1 (fun _ => .int .u64 par)) 2 54 (Fx.rv .i64 R)) j).oneCell'=true:=fun j hj=>by
 rw[show Fx.aX z (0*56) 56 (Fx.aX (Fx.aX (Fx.aX z2 0 1 (fun _ => .int .u64 id)) 1 1 (fun _ => .int .u64 par)) 2 54 (Fx.rv .i64 R)) j=Fx.aX (Fx.aX (Fx.aX z2 0 1 (fun _ => .int .u64 id)) 1 1 (fun _ => .int .u64 par)) 2 54 (Fx.rv .i64 R) (j-0*56) by unfold Fx.aX; rw[if_pos (by omega)],Dr _ (by omega)]
 exact J4 _ _ _ _
theorem NQ{x:Nat->Int}{z:Nat->Value} : ∀ j,j<1*5->(Fx.aX z (0*5) 5 (iJ x) j).oneCell'=true:=fun j hj=>by
 unfold Fx.aX; rw[if_pos (by omega)]; exact Az x _
theorem SY{m:dD}{il:List Nat}{S:Nat->Bool}{w w2:World}{b B cap gn:Nat}{a:Option Addr}{T:TypeId}(hM:Fx.gH w b m.gn (fun i=>m.g i 0) (fun i=>m.g i 1) (mF m.g))(hi:Ii m.gn S il)(e:gn=il.length)(hO:Fx.Own w2 B T 5 (.slice a gn cap) gn (Fx.flat 5 fun k=>iJ (m.g (il.getD k 0)))) :
 Fx.Own w2 B T 5 (.slice a (il.map fun i=>Bl (m.g i)).length cap) (il.map fun i=>Bl (m.g i)).length (Fx.flat 5 (L6 (il.map fun i=>Bl (m.g i)))):=by
 have h:=hO.congr (y:=Fx.flat 5 (L6 (il.map fun i=>Bl (m.g i)))) (fun j hj=>NM hM hi j (by rw[List.length_map,<- e]; exact hj))
 rw[List.length_map,<- e]; exact h
theorem Ll(m:dD){z:Nat->Value}(hz : ∀ j,18<=j->z j = .slice none 0 0){x1 x2:Nat->Value}(h1 : ∀ j,j<6->x1 j = .bool (m.inn j))(h2 : ∀ j,j<6->x2 j = .bool (m.left j)) : ∀ j,j<20->Fx.aX (Fx.aX (Fx.aX z 0 6 x1) 6 6 x2) 12 6 (Fx.rv .u64 m.known) j=iR (Bc m none 0 0 none 0 0) j:=fun j hj=>by
 unfold Fx.aX iR
 by_cases a1:j<6
 ·rw[if_neg (by omega),if_neg (by omega),if_pos (by omega),if_pos a1]; exact h1 _ (by omega)
 ·by_cases a2:j<12
  ·rw[if_neg (by omega),if_pos (by omega),if_neg a1,if_pos a2]; exact h2 _ (by omega)
  ·by_cases a3:j<18
   ·rw[if_pos (by omega),if_neg a1,if_neg a2,if_pos a3]; rfl
   ·rw[if_neg (by omega),if_neg (by omega),if_neg (by omega),if_neg a1,if_neg a2,if_neg a3,hz j (by omega)]
    split <;> rfl
end Rt
structure StQ(w:World)(B:Nat)(m:dD)(s:yM)(l:List Int)(gl:List Bb):Prop where
 inn:s.inn=m.inn
 left:s.left=m.left
 known:s.known=m.known
 nn:s.nn=l.length
 gn:s.gn=gl.length
 ls:l.Pairwise (· < ·) /\ ∀ k,k∈l<->m.T.has k=true
 len:l.length<=32
 gs:VE m gl
 glb:gl.length<=m.gn
 n:Fx.Own w B 84 56 (.slice s.na s.nn s.nc) s.nn (Fx.flat 56 (Lj m l))
 g:Fx.Own w B 99 5 (.slice s.ga s.gn s.gc) s.gn (Fx.flat 5 (L6 gl))
end Go.Proofs.YtahbiajdgealnaaDoor
namespace Go.Proofs.YtahbiajdgealnaaDoor
open Go.RowKit Rt
open Fx (ah aj au ak aJ aA aO eZ av bF dI aK x_len dw bX dn bG Lv sN Ln Ws Qv Wl Rp Wc Qs Wr Sb Lk Wk rC rV sR)
set_option maxRecDepth 20000
set_option linter.unusedVariables false
theorem Gd(n:Int)(w:World) :
 Calls Tryd.prog 55 #[.int .i64 (n)] w fun e w'=>e = .returned (.bool false)/\w'=w:=by
 refine Fx.enter Tryd.func55 rfl (n:=6) rfl (by rfl) ?_
 refine Ws (Wl (Lv (.bool false) (aj rfl rfl) (Ln (sN (Ws (Wl (Lv (.int .i64 (n)) (ah rfl rfl) (Lv (.int .i64 (n)) (ah rfl rfl) (Lv (.bool false) (Fx.gu rfl rfl rfl rfl) (Lv (.bool false) (aj rfl rfl) (Ln (sN (Wr (⟨.bool false,rV Tryd.results55 (by exact rfl),?_⟩))))))))))))))
 exact⟨rfl,rfl⟩
theorem NR(a b:Int)(w:World) :
 Calls Tryd.prog 36 #[.int .i64 (a),.int .i64 (b)] w fun e w'=>e = .returned (.int .i64 (Fx.iD a b))/\w'=w:=by
 refine Fx.enter Tryd.func36 rfl (n:=20) rfl (by rfl) ?_
 refine Ws (Wl (Lv (.int .i64 (0)) (aj rfl rfl) (Ln (sN (Ws (Wl (Lv (.int .i64 (a)) (ah rfl rfl) (Fx.L.call (by rfl) (rC (args := [.int .i64 (a)]) rfl rfl Tryd.func55 rfl rfl) rfl ((Gd a _).mono ?_)))))))))
 rintro e v1 ⟨he,hv1⟩
 subst v1
 refine⟨.bool false,by rw[he],?_⟩
 clear he
 refine Lv (.bool false) (aj rfl rfl) (Ln (sN (Ws (Wl (Lv (.int .i64 (b)) (ah rfl rfl) (Fx.L.call (by rfl) (rC (args := [.int .i64 (b)]) rfl rfl Tryd.func55 rfl rfl) rfl ((Gd b _).mono ?_)))))))
 rintro e v1 ⟨he,hv1⟩
 subst v1
 refine⟨.bool false,by rw[he],?_⟩
 clear he
 refine Lv (.bool false) (aj rfl rfl) (Ln (sN (Ws (Ws (Wl (Lv (.bool false) (ah rfl rfl) (Ln (sN (Wc (b:=false) rfl (fun h=>nomatch h) (fun _=>Wk (sN (Ws (Ws (Wl (Lv (.bool false) (ah rfl rfl) (Ln (sN (Wc (b:=false) rfl (fun h=>nomatch h) (fun _=>Wk (sN (Ws (Ws (Wl (Lv (.int .i64 (a)) (ah rfl rfl) (Lv (.int .i64 (b)) (ah rfl rfl) ?_)))))))))))))))))))))))))
 by_cases c16:a<b
 ·refine Lv (.bool true) (Fx.eG rfl rfl rfl c16) (Ln (sN (Wc (b:=true) rfl (fun _=>Ws (Wl (Lv (.int .i64 (-1)) (aj rfl rfl) ?_))) (fun h=>nomatch h))))
  refine Ln (sN (Wr (sR (⟨.int .i64 (-1),rV Tryd.results36 (by exact rfl),?_⟩))))
  exact⟨by unfold Fx.iD; simp[c16],rfl⟩
 refine Lv (.bool false) (Fx.dX rfl rfl rfl c16) (Ln (sN (Wc (b:=false) rfl (fun h=>nomatch h) (fun _=>Wk (sN (Ws (Ws (Wl (Lv (.int .i64 (a)) (ah rfl rfl) (Lv (.int .i64 (b)) (ah rfl rfl) ?_))))))))))
 by_cases c19:b<a
 ·refine Lv (.bool true) (Fx.iy rfl rfl rfl c19) (Ln (sN (Wc (b:=true) rfl (fun _=>Ws (Wl (Lv (.int .i64 (1)) (aj rfl rfl) ?_))) (fun h=>nomatch h))))
  refine Ln (sN (Wr (sR (⟨.int .i64 (1),rV Tryd.results36 (by exact rfl),?_⟩))))
  exact⟨by unfold Fx.iD; simp[c16,c19],rfl⟩
 refine Lv (.bool false) (dw rfl rfl rfl c19) (Ln (sN (Wc (b:=false) rfl (fun h=>nomatch h) (fun _=>Wk (sN (Ws (Wl (Lv (.int .i64 (0)) (aj rfl rfl) (Ln (sN (Wr (⟨.int .i64 (0),rV Tryd.results36 (by exact rfl),?_⟩))))))))))))
 exact⟨by unfold Fx.iD; simp[c16,c19],rfl⟩
theorem Gf(n:Int)(w:World) :
 Calls Tryd.prog 56 #[.int .u64 (n)] w fun e w'=>e = .returned (.bool false)/\w'=w:=by
 refine Fx.enter Tryd.func56 rfl (n:=6) rfl (by rfl) ?_
 refine Ws (Wl (Lv (.bool false) (aj rfl rfl) (Ln (sN (Ws (Wl (Lv (.int .u64 (n)) (ah rfl rfl) (Lv (.int .u64 (n)) (ah rfl rfl) (Lv (.bool false) (Fx.gu rfl rfl rfl rfl) (Lv (.bool false) (aj rfl rfl) (Ln (sN (Wr (⟨.bool false,rV Tryd.results56 (by exact rfl),?_⟩))))))))))))))
 exact⟨rfl,rfl⟩
theorem NS(a b:Int)(w:World) :
 Calls Tryd.prog 37 #[.int .u64 (a),.int .u64 (b)] w fun e w'=>e = .returned (.int .i64 (Fx.iD a b))/\w'=w:=by
 refine Fx.enter Tryd.func37 rfl (n:=20) rfl (by rfl) ?_
 refine Ws (Wl (Lv (.int .i64 (0)) (aj rfl rfl) (Ln (sN (Ws (Wl (Lv (.int .u64 (a)) (ah rfl rfl) (Fx.L.call (by rfl) (rC (args := [.int .u64 (a)]) rfl rfl Tryd.func56 rfl rfl) rfl ((Gf a _).mono ?_)))))))))
 rintro e v1 ⟨he,hv1⟩
 subst v1
 refine⟨.bool false,by rw[he],?_⟩
 clear he
 refine Lv (.bool false) (aj rfl rfl) (Ln (sN (Ws (Wl (Lv (.int .u64 (b)) (ah rfl rfl) (Fx.L.call (by rfl) (rC (args := [.int .u64 (b)]) rfl rfl Tryd.func56 rfl rfl) rfl ((Gf b _).mono ?_)))))))
 rintro e v1 ⟨he,hv1⟩
 subst v1
 refine⟨.bool false,by rw[he],?_⟩
 clear he
 refine Lv (.bool false) (aj rfl rfl) (Ln (sN (Ws (Ws (Wl (Lv (.bool false) (ah rfl rfl) (Ln (sN (Wc (b:=false) rfl (fun h=>nomatch h) (fun _=>Wk (sN (Ws (Ws (Wl (Lv (.bool false) (ah rfl rfl) (Ln (sN (Wc (b:=false) rfl (fun h=>nomatch h) (fun _=>Wk (sN (Ws (Ws (Wl (Lv (.int .u64 (a)) (ah rfl rfl) (Lv (.int .u64 (b)) (ah rfl rfl) ?_)))))))))))))))))))))))))
 by_cases c16:a<b
 ·refine Lv (.bool true) (Fx.eG rfl rfl rfl c16) (Ln (sN (Wc (b:=true) rfl (fun _=>Ws (Wl (Lv (.int .i64 (-1)) (aj rfl rfl) ?_))) (fun h=>nomatch h))))
  refine Ln (sN (Wr (sR (⟨.int .i64 (-1),rV Tryd.results37 (by exact rfl),?_⟩))))
  exact⟨by unfold Fx.iD; simp[c16],rfl⟩
 refine Lv (.bool false) (Fx.dX rfl rfl rfl c16) (Ln (sN (Wc (b:=false) rfl (fun h=>nomatch h) (fun _=>Wk (sN (Ws (Ws (Wl (Lv (.int .u64 (a)) (ah rfl rfl) (Lv (.int .u64 (b)) (ah rfl rfl) ?_))))))))))
 by_cases c19:b<a
 ·refine Lv (.bool true) (Fx.iy rfl rfl rfl c19) (Ln (sN (Wc (b:=true) rfl (fun _=>Ws (Wl (Lv (.int .i64 (1)) (aj rfl rfl) ?_))) (fun h=>nomatch h))))
  refine Ln (sN (Wr (sR (⟨.int .i64 (1),rV Tryd.results37 (by exact rfl),?_⟩))))
  exact⟨by unfold Fx.iD; simp[c16,c19],rfl⟩
 refine Lv (.bool false) (dw rfl rfl rfl c19) (Ln (sN (Wc (b:=false) rfl (fun h=>nomatch h) (fun _=>Wk (sN (Ws (Wl (Lv (.int .i64 (0)) (aj rfl rfl) (Ln (sN (Wr (⟨.int .i64 (0),rV Tryd.results37 (by exact rfl),?_⟩))))))))))))
 exact⟨by unfold Fx.iD; simp[c16,c19],rfl⟩
theorem ZP(a b:Int)(gO:Nat)(w:World)(hO:Fx.jT w gO 0 2 (VD a b)) :
 Calls Tryd.prog 35 #[.slice (some ⟨gO,0,none⟩) (2) (2)] w fun e w'=>e = .returned (.int .i64 (Ih a b))/\w'=w:=by
 refine Fx.enter Tryd.func35 rfl (n:=18) rfl (by rfl) ?_
 refine Ws (Wl (Lv (.int .i64 (0)) (aj rfl rfl) (Ln (sN (Ws (Wl (Lv (.int .i64 (0)) (aj rfl rfl) (Ln (sN (Ws (Ws (Wl (Lv (.slice (some ⟨gO,0,none⟩) (2) (2)) (ah rfl rfl) (Lv (.int .i64 (2)) (x_len rfl rfl rfl (by kernel_rfl)) (Lv (.int .i64 (0)) (ah rfl rfl) (Ln (sN (Fx.W.block (Fx.W.loop (fun f w_ => ∃ i:Nat,i<=2/\((i=0\/a=0))/\((i<2\/Ih a b=0))/\w_=w/\f 3 = .int .i64 (0)/\f 6 = .slice (some ⟨gO,0,none⟩) (2) (2)/\f 7 = .int .i64 (2)/\f 8 = .int .i64 ((i:Int))/\Fx.jT w_ gO 0 2 (VD a b)) (fun f _=>(2-intOf (f 8)).toNat) ⟨0,(by omega),(.inl rfl),(.inl (by decide)),rfl,Fx.ic,(by rfl),Fx.ic,Fx.ic,hO⟩ ?_)))))))))))))))))))
 rintro f1 w1 ⟨i,hi,hz,hn,hw,h1,h2,h3,h4,m1⟩
 refine Ws (Wl ?_)
 by_cases c9:(i:Int)<2
 ·refine Lv (.bool true) (Fx.eG rfl h4 h3 c9) (Ln (sN (Ws (Wc (b:=true) rfl (fun _=>Wk (sN (Ws (Fx.W.block (Ws (Wl (Lv ((pf gO i)) (av rfl h2 h4 Tryd.underlying131 (s:=1) (by kernel_rfl) (by omega) (by omega) (by omega)) ?_))))))) (fun h=>nomatch h)))))
  refine Lv (.int .i64 (ER a b i)) (ak (x:=VD a b) rfl rfl (by kernel_rfl) m1 (i:=i) (by omega) (by omega) rfl) (Lv (.int .i64 (ER a b i)) (aj rfl rfl) (Ln (sN (Ws (Wl (Lv (.int .i64 (ER a b i)) (ah rfl rfl) (Lv (.int .i64 (0)) (ah rfl h1) ?_)))))))
  by_cases c14:(ER a b i)=0
  ·refine Lv (.bool false) (Fx.gu rfl rfl rfl c14) (Ln (sN (Wc (b:=false) rfl (fun h=>nomatch h) (fun _=>Wk (Fx.dV (sN (Wl (Lv (.int .i64 ((i:Int)+1)) (Fx.aS rfl h4 rfl Fx.io) (Lv (.int .i64 ((i:Int)+1)) (ah rfl rfl) (Ln (Fx.kg ⟨i+1,(by omega),(ZL hz c14),(ZM hz c14),hw,(h1.trans Fx.ic),h2,(h3.trans Fx.ic),Fx.ic,m1⟩ ?_)))))))))))
   show(2-intOf ((.int .i64 ((i:Int)+1)))).toNat<_
   simp only[h4,intOf]; omega
  refine Lv (.bool true) (Fx.jd rfl rfl rfl c14) (Ln (sN (Wc (b:=true) rfl (fun _=>Ws (Wl (Lv (.int .i64 (ER a b i)) (ah rfl rfl) ?_))) (fun h=>nomatch h))))
  refine Lv (.int .i64 (ER a b i)) (aj rfl rfl) (Ln (sN (Wr (Fx.dH (sR (Fx.DT (Fx.dH (sR (⟨.int .i64 (ER a b i),rV Tryd.results35 (by exact rfl),?_⟩)))))))))
  exact⟨by rw[ZN hz c14],hw⟩
 refine Lv (.bool false) (Fx.dX rfl h4 h3 c9) (Ln (sN (Ws (Wc (b:=false) rfl (fun h=>nomatch h) (fun _=>Fx.W.exit (Fx.dQ (Fx.jC (Fx.dR (sN (Ws (Wl (Lv (.int .i64 (0)) (ah rfl h1) (Lv (.int .i64 (0)) (aj rfl rfl) (Ln (sN (Wr (⟨.int .i64 (0),rV Tryd.results35 (by exact rfl),?_⟩)))))))))))))))))
 exact⟨by rw[ZO hn c9],hw⟩
set_option maxRecDepth 20000
set_option linter.unusedVariables false
theorem Rt.S9{w:World}{g:Nat}{a b:Int}{z:Nat->Value}{T:TypeId}(h:Fx.aP w g 2 (Fx.aX (Fx.aX z (0*1) 1 (fun _ => .int .i64 a)) (1*1) 1 (fun _ => .int .i64 b)) T):Fx.jT w g 0 2 (VD a b):=(h.congr (y:=VD a b) fun j hj=>by
 rcases(show j=0\/j=1 by omega)with rfl|rfl <;> rfl).aL
theorem Ta(x y:Bb)(w:World) :
 Calls Tryd.prog 34 #[.agg (Fx.ay 5 (iJ x.x)),.agg (Fx.ay 5 (iJ y.x))] w fun e w'=>e = .returned (.int .i64 (Fx.iD (Dq x) (Dq y))) /\ ∃ q os',w'=Go.Sort.grow (w.drewN q) os':=by
 refine Fx.enter Tryd.func34 rfl (n:=17) rfl (by rfl) ?_
 refine Ws (Wl (Fx.L.VB (m:=5) (y:=iJ x.x) (by rfl) rfl rfl (Fx.aN _ _) rfl fun g1 w1 aZ m1 s1 z1 => ?_))
 have b1:=s1.below (Below.refl w.heap.size w) (Below.refl w.heap.size w).size (Below.refl w.heap.size w).size
 have kM:w.heap.size<=g1:=by rw[aZ]; exact(Below.refl w.heap.size w).size
 have mO:g1<w1.heap.size:=m1.lt
 clear aZ
 refine Fx.L.VB (m:=5) (y:=iJ y.x) (by rfl) rfl rfl (Fx.aN _ _) rfl fun g2 w2 bS m2 s2 z2 => ?_
 have m3:=m1.aC s2 m1.ne
 have b2:=s2.below b1 b1.size b1.size
 have su:w.heap.size<=g2:=by rw[bS]; exact b1.size
 have xg:g1≠g2:=by rw[bS]; exact Nat.ne_of_lt (m1.lt)
 have vK:g2<w2.heap.size:=m2.lt
 clear bS
 refine Lv (.int .i64 (0)) (aj rfl rfl) (Ln (sN (Ws ?_)))
 -- region 1 draws
 refine Fx.W.SV [0,2,5,7,1,3,6,8,4,9,10,11,12] [0,4,0,4,2,0,1,0,1,2,2,3,0] Fx.Mk Fx.Mk.refl Fx.Mk.trans (aQ := [(4,1,[1]),(9,1,[4,1]),(10,1,[4,1]),(11,1,[10,4,1]),(4,3,[3]),(9,3,[4,3]),(10,3,[4,3]),(11,3,[10,4,3]),(11,6,[9,6]),(11,8,[9,8]),(9,4,[4]),(10,4,[4]),(11,4,[10,4]),(12,4,[4]),(10,9,[9]),(11,9,[9]),(12,9,[9]),(11,10,[10]),(12,10,[10]),(12,11,[11])]) (by kernel_rfl) (by kernel_rfl) (by kernel_rfl) (by kernel_rfl) (by kernel_rfl) fun jc bT fE => ?_
 have s3:Fx.Stp w2.heap.size w2 jc:=Sb bT
 have m4:=m3.aC s3 m3.ne
 have m5:=m2.aC s3 m2.ne
 have b3:=s3.below b2 b2.size b2.size
 refine Rp ((pt g1)) (fun v1=>au rfl rfl Tryd.underlying99 rfl (s:=1) (by kernel_rfl) rfl rfl) (Rp ((pt g2)) (fun v1=>au rfl rfl Tryd.underlying99 rfl (s:=1) (by kernel_rfl) rfl rfl) (Rp ((pf g1 1)) (fun v1=>au rfl rfl Tryd.underlying99 rfl (s:=1) (by kernel_rfl) rfl (by show _+1=_; omega)) (Rp ((pf g2 1)) (fun v1=>au rfl rfl Tryd.underlying99 rfl (s:=1) (by kernel_rfl) rfl (by show _+1=_; omega)) (Fx.R.s (.int .i64 (x.x 0)) (ak (x:=iJ x.x) rfl rfl (by kernel_rfl) m4.aL (i:=0) (by omega) (by omega) rfl) ?_))))
 refine Fx.R.s (.int .i64 (y.x 0)) (ak (x:=iJ y.x) rfl rfl (by kernel_rfl) m5.aL (i:=0) (by omega) (by omega) rfl) ?_
 refine Fx.R.read (v := .int .u64 (x.x 1)) (by rfl) (by rfl) (Fx.Mk.refl _) (fun v1 hv1=>ak (x:=iJ x.x) rfl rfl (by kernel_rfl) (m4.aL.below hv1 (by have:=m4.lt; omega)) (i:=1) (by omega) (by omega) rfl) ?_
 refine Fx.R.read (v := .int .u64 (y.x 1)) (by rfl) (by rfl) (Fx.Mk.refl _) (fun v1 hv1=>ak (x:=iJ y.x) rfl rfl (by kernel_rfl) (m5.aL.below hv1 (by have:=m5.lt; omega)) (i:=1) (by omega) (by omega) rfl) ?_
 refine Fx.R.make (by rfl) ?_
 refine Fx.L.call (by rfl) (rC (args := [.int .i64 (x.x 0),.int .i64 (y.x 0)]) rfl rfl Tryd.func36 rfl rfl) rfl ((NR (x.x 0) (y.x 0) _).mono ?_)
 rintro e v1 ⟨he,hv1⟩
 subst v1
 refine⟨.int .i64 (Fx.iD (x.x 0) (y.x 0)),by rw[he],?_⟩
 clear he
 refine Ln ⟨Below.refl _ _,?_⟩
 refine Fx.R.make (by rfl) ?_
 refine Fx.L.call (by rfl) (rC (args := [.int .u64 (x.x 1),.int .u64 (y.x 1)]) rfl rfl Tryd.func37 rfl rfl) rfl ((NS (x.x 1) (y.x 1) _).mono ?_)
 rintro e v1 ⟨he,hv1⟩
 subst v1
 refine⟨.int .i64 (Fx.iD (x.x 1) (y.x 1)),by rw[he],?_⟩
 clear he
 refine Ln ⟨Below.refl _ _,?_⟩
 refine Fx.R.make (by rfl) ?_
 refine Fx.L.NI (vs := [(0,.int .i64 (Fx.iD (x.x 0) (y.x 0))),(1,.int .i64 (Fx.iD (x.x 1) (y.x 1)))]) (s:=1) (zc:=Fx.rv .i64 (fun _=>0)) (y:=Fx.aX (Fx.aX (fun j=>(Fx.rv .i64 (fun _=>0)) (j % 1)) (0*1) 1 (fun _ => .int .i64 (Fx.iD (x.x 0) (y.x 0)))) (1*1) 1 (fun _ => .int .i64 (Fx.iD (x.x 1) (y.x 1)))) (by rfl) rfl rfl Tryd.underlying131 (by kernel_rfl) (by rfl) (by rfl) (by kernel_rfl) (by rw[Fx.aG (off:=0*1) (s:=1) (y:=fun _ => .int .i64 (Fx.iD (x.x 0) (y.x 0))) rfl (Fx.cells_one (by rfl)) (by rfl)]; rw[Fx.aG (off:=1*1) (s:=1) (y:=fun _ => .int .i64 (Fx.iD (x.x 1) (y.x 1))) rfl (Fx.cells_one (by rfl)) (by rfl)]; rfl) rfl fun g3 w3 iq m6 s4 z3 => ?_
 have b4:=s4.below b3 b3.size b3.size
 have uY:w.heap.size<=g3:=by rw[iq]; exact b3.size
 have Pb:g1≠g3:=by rw[iq]; exact Nat.ne_of_lt (m4.lt)
 have Ku:g2≠g3:=by rw[iq]; exact Nat.ne_of_lt (m5.lt)
 have LW:g3<w3.heap.size:=m6.lt
 clear iq
 refine Ln ⟨s4.old,?_⟩
 refine Fx.R.fP (by rfl) ?_
 refine Fx.L.call (by rfl) (rC (args := [.slice (some ⟨g3,0,none⟩) (2) (2)]) rfl rfl Tryd.func35 rfl rfl) rfl ((ZP (Fx.iD (x.x 0) (y.x 0)) (Fx.iD (x.x 1) (y.x 1)) g3 _ (S9 m6)).mono ?_)
 rintro e v1 ⟨he,hv1⟩
 subst v1
 refine⟨.int .i64 (Ih (Fx.iD (x.x 0) (y.x 0)) (Fx.iD (x.x 1) (y.x 1))),by rw[he],?_⟩
 clear he
 refine Ln (Rp (.int .i64 (Ih (Fx.iD (x.x 0) (y.x 0)) (Fx.iD (x.x 1) (y.x 1)))) (fun v1=>aj rfl rfl) (Fx.R.nil (sN (Wr (⟨.int .i64 (Ih (Fx.iD (x.x 0) (y.x 0)) (Fx.iD (x.x 1) (y.x 1))),rV Tryd.results34 (by exact rfl),?_⟩)))))
 exact⟨by rw[<- SX],(((((Fx.NH.refl w).alloc z1).alloc z2).drew fE).alloc z3)⟩
theorem Tc{w:World}{B cap:Nat}{a:Option Addr}{l:List Bb}(h:Fx.Own w B 99 5 (.slice a l.length cap) l.length (Fx.flat 5 (L6 l)))(hm:l.length<=1000000) :
 Calls Tryd.prog 33 #[.slice a l.length cap,.func (.func 34) #[] #[]] w fun e w'=>e = .returned (.tuple #[]) /\ ∃ l':List Bb,l'.Perm l/\l'.Pairwise (fun x y=>Dq x<=Dq y)/\Fx.Own w' B 99 5 (.slice a l.length cap) l.length (Fx.flat 5 (L6 l'))/\(∀ k,k<w.heap.size->(Value.slice a l.length cap).ownBlock≠some k->w'.heap[k]? = w.heap[k]?)/\Fx.gD [99] w w'/\Below B w w':=by
 have h':Fx.Own w B 99 5 (.slice a l.length cap) l.length (Fx.flat 5 fun q=>(fun x:Bb=>iJ x.x) (l.getD q g0)):=h
 have:=Fx.Li VA (fun args w=>enters_of Tryd.func34 (by kernel_rfl) rfl args w) (by decide) Tryd.isAgg99 Tryd.sizeOf99 (enc:=fun x:Bb=>iJ x.x) (e0:=g0) (ky:=Dq) (fun x j _=>Az x.x j) h'
  (by intro w1 x y; refine(Ta x y w1).mono fun e w' h => ?_; exact h) (by omega)
 exact this
theorem NT{m:dD}{il:List Nat}{S:Nat->Bool}{w0 w:World}{b B cap gn:Nat}{a:Option Addr}(hM:Fx.gH w0 b m.gn (fun i=>m.g i 0) (fun i=>m.g i 1) (mF m.g))(hi:Ii m.gn S il)(e:gn=il.length)(hO:Fx.Own w B 99 5 (.slice a gn cap) gn (Fx.flat 5 fun k=>iJ (m.g (il.getD k 0))))(hb:gn<=1000000) :
 Calls Tryd.prog 33 #[.slice a gn cap,.func (.func 34) #[] #[]] w fun e w'=>e = .returned (.tuple #[]) /\ ∃ l':List Bb,l'.Perm (il.map fun i=>Bl (m.g i))/\l'.Pairwise (fun x y=>Dq x<=Dq y)/\Fx.Own w' B 99 5 (.slice a gn cap) gn (Fx.flat 5 (L6 l'))/\(∀ k,k<w.heap.size->(Value.slice a gn cap).ownBlock≠some k->w'.heap[k]? = w.heap[k]?)/\Fx.gD [99] w w'/\Below B w w':=by
 have eL:(il.map fun i=>Bl (m.g i)).length=gn:=by rw[List.length_map]; exact e.symm
 have q9:=Tc (SY hM hi e hO) (by rw[eL]; omega)
 rw[eL]at q9
 exact q9
set_option maxRecDepth 20000
set_option linter.unusedVariables false
set_option maxHeartbeats 1000000 in
theorem NU(m:dD)(lp B:Nat)(w:World)(h:iT w B lp m)(hgn:m.gn<=900000) :
 Calls Tryd.prog 20 #[(pt lp)] w fun e w' => ∃ s l gl,e = .returned (.agg (Fx.ay 20 (iR s)))/\StQ w' w.heap.size m s l gl/\Below w.heap.size w w':=by
 have hC:=h.c
 have hT:=h.t
 have hP:=h.p
 have hR:=h.r
 have hG:=h.g
 have hA:=h.a
 have hN:=h.ne
 have lC:=h.c.lt
 have lT:=h.t.lt
 have lP:=h.p.lt
 have lR:=h.r.lt
 have lG:=h.g.lt
 have lA:=h.a.lt
 refine Fx.enter Tryd.func20 rfl (n:=72) rfl (by rfl) ?_
 refine Ws (Wl (Fx.L.new (m:=20) (y:=fun zq=>if zq<12 then .bool false else if zq<18 then .int .u64 (0)else .slice none 0 0) (by rfl) rfl (by kernel_rfl) rfl fun g1 w1 aZ m1 s1 z1 => ?_))
 have m2:=hC.aC s1 hC.ne
 have m3:=hT.up s1.old
 have m4:=hP.up s1.old
 have m5:=hR.up s1.old
 have m6:=hG.up s1.old
 have m7:=hA.up s1.old
 have b1:=s1.below (Below.refl w.heap.size w) (Below.refl w.heap.size w).size (Below.refl w.heap.size w).size
 have kM:w.heap.size<=g1:=by rw[aZ]; exact(Below.refl w.heap.size w).size
 have jk:lp≠g1:=by rw[aZ]; exact Nat.ne_of_lt (hC.lt)
 have nk:m.pb≠g1:=by rw[aZ]; exact Nat.ne_of_lt (hP.lt)
 have oC:m.rb≠g1:=by rw[aZ]; exact Nat.ne_of_lt (hR.lt)
 have oD:m.gb≠g1:=by rw[aZ]; exact Nat.ne_of_lt (hG.lt)
 have oF:m.ab≠g1:=by rw[aZ]; exact Nat.ne_of_lt (hA.lt)
 have mO:g1<w1.heap.size:=m1.lt
 clear aZ
 refine Ln (sN (Ws (Ws (Wl (Lv ((pt lp)) (ah rfl rfl) (Lv (.bool false) (Fx.nG rfl rfl rfl (by kernel_rfl)) (Ln (sN (Wc (b:=false) rfl (fun h=>nomatch h) (fun _=>Wk (sN (Ws ?_))))))))))))
 -- region 3 draws
 refine Fx.W.tail 13 (by kernel_rfl) (by kernel_rfl) fun jc bT fE => ?_
 have s2:Fx.Stp w1.heap.size w1 jc:=Sb bT
 have m8:=m2.aC s2 m2.ne
 have m9:=m3.up s2.old
 have m10:=m4.up s2.old
 have m11:=m5.up s2.old
 have m12:=m6.up s2.old
 have m13:=m7.up s2.old
 have m14:=m1.aC s2 m1.ne
 have b2:=s2.below b1 b1.size b1.size
 refine Fx.St.v ((pt lp)) (ah rfl rfl) (Fx.St.v ((pt lp)) (aO rfl rfl) (Fx.St.v ((pt lp)) (au rfl rfl Tryd.underlying93 rfl (s:=6) (by kernel_rfl) rfl rfl) (Fx.St.v (.agg (Fx.ay 6 (fun j => .bool (m.inn j)))) (aK (x:=fM m) (y:=fun j => .bool (m.inn j)) rfl rfl (by kernel_rfl) (by kernel_rfl) m8.aL (i:=0) (by omega) (by omega) (fun j hj=>by rw[Nat.zero_add]; exact uH hj)) (Fx.St.v ((pt lp)) (ah rfl rfl) (Fx.St.v ((pt lp)) (aO rfl rfl) (Fx.St.v ((pf lp 6)) (au rfl rfl Tryd.underlying93 rfl (s:=6) (by kernel_rfl) rfl (by show _+6=_; omega)) (Fx.St.v (.agg (Fx.ay 6 (fun j => .bool (m.left j)))) (aK (x:=fM m) (y:=fun j => .bool (m.left j)) rfl rfl (by kernel_rfl) (by kernel_rfl) m8.aL (i:=6) (by omega) (by omega) (fun j hj=>sZ (p:=j) hj (by omega))) (Fx.St.v ((pt lp)) (ah rfl rfl) (Fx.St.v ((pt lp)) (aO rfl rfl) (Fx.St.v ((pf lp 12)) (au rfl rfl Tryd.underlying93 rfl (s:=6) (by kernel_rfl) rfl (by show _+12=_; omega)) (Fx.St.v (.agg (Fx.ay 6 (Fx.rv .u64 m.known))) (aK (x:=fM m) (y:=Fx.rv .u64 m.known) rfl rfl (by kernel_rfl) (by kernel_rfl) m8.aL (i:=12) (by omega) (by omega) (fun j hj=>ni (p:=j) (by omega) (by omega))) (Fx.St.v (.agg (Fx.ay 20 (Fx.aX (Fx.aX (Fx.aX (fun zq=>if zq<12 then .bool false else if zq<18 then .int .u64 (0)else .slice none 0 0) 0 6 (fun j => .bool (m.inn j))) 6 6 (fun j => .bool (m.left j))) 12 6 (Fx.rv .u64 m.known)))) (bX (vs := [(0,.agg (Fx.ay 6 (fun j => .bool (m.inn j)))),(1,.agg (Fx.ay 6 (fun j => .bool (m.left j)))),(2,.agg (Fx.ay 6 (Fx.rv .u64 m.known)))]) (places := #[(0,6),(6,6),(12,6),(18,1),(19,1)]) (m:=20) (x:=fun zq=>if zq<12 then .bool false else if zq<18 then .int .u64 (0)else .slice none 0 0) rfl rfl Tryd.underlying51 (by kernel_rfl) (by kernel_rfl) (by rw[Fx.aG (off:=0) (s:=6) (y:=fun j => .bool (m.inn j)) (by kernel_rfl) (Fx.aN _ _) (by rfl)]; rw[Fx.aG (off:=6) (s:=6) (y:=fun j => .bool (m.left j)) (by kernel_rfl) (Fx.aN _ _) (by rfl)]; rw[Fx.aG (off:=12) (s:=6) (y:=Fx.rv .u64 m.known) (by kernel_rfl) (Fx.aN _ _) (by rfl)]; rfl)) (Fx.St.nil ?_)))))))))))))
 refine Fx.L.dY (x:=fun zq=>if zq<12 then .bool false else if zq<18 then .int .u64 (0)else .slice none 0 0) (y:=Fx.aX (Fx.aX (Fx.aX (fun zq=>if zq<12 then .bool false else if zq<18 then .int .u64 (0)else .slice none 0 0) 0 6 (fun j => .bool (m.inn j))) 6 6 (fun j => .bool (m.left j))) 12 6 (Fx.rv .u64 m.known)) (by rfl) rfl rfl rfl rfl (Fx.jg (Fx.jg (Fx.jg (fun jq _=>by show((fun zq=>if zq<12 then .bool false else if zq<18 then .int .u64 (0)else .slice none 0 0:Nat->Value) jq).oneCell'=true; simp only[]; repeat (first|rfl|split)) (fun _ _=>rfl)) (fun _ _=>rfl)) (fun _ _=>rfl)) (by kernel_rfl) m14 (i:=0) (by omega) fun w2 m15 s3 z2 => ?_
 have m16:Fx.aP w2 g1 20 (Fx.aX (Fx.aX (Fx.aX (fun zq=>if zq<12 then .bool false else if zq<18 then .int .u64 (0)else .slice none 0 0) 0 6 (fun j => .bool (m.inn j))) 6 6 (fun j => .bool (m.left j))) 12 6 (Fx.rv .u64 m.known)) 51:=Fx.dF m15
 have m17:Fx.aP w2 g1 20 (iR (Bc m none 0 0 none 0 0)) 51:=m16.congr (Ll m (fun j hj=>by show(if j<12 then _ else if j<18 then _ else _)=_; rw[if_neg (by omega),if_neg (by omega)]) (fun _ _=>rfl) (fun _ _=>rfl))
 have aT:=Fx.gD.bP s3 m14.ty
 have m18:=m8.aU aT (by decide)
 have m19:=m9.aU aT (by decide)
 have m20:=m10.aU aT trivial
 have m21:=m11.aU aT trivial
 have m22:=m12.aU aT trivial
 have m23:=m13.aU aT trivial
 have b3:=s3.below b2 b2.size (by omega)
 refine Ln (sN (Ws (Ws (Wl (Lv ((pt lp)) (ah rfl rfl) (Lv ((pt lp)) (aO rfl rfl) (Lv ((pf lp 18)) (au rfl rfl Tryd.underlying93 rfl (s:=1) (by kernel_rfl) rfl (by show _+18=_; omega)) (Lv ((pt m.tp)) (ak (x:=fM m) rfl rfl (by kernel_rfl) m18.aL (i:=18) (by omega) (by omega) rfl) (Fx.L.call (by rfl) (rC (args := [(pt m.tp)]) rfl rfl Tryd.func32 rfl rfl) rfl ((JG m19).mono ?_))))))))))
 rintro e9 w3 ⟨Iw,yL,fG,he,m24,hq1,Vm,hb1⟩
 refine⟨_,he,?_⟩
 clear he
 have s4:=Sb hb1
 have qC:=m18.aC s4 m18.ne
 have oZ:=m19.up s4.old
 have qU:=m20.up s4.old
 have qV:=m21.up s4.old
 have qD:=m22.up s4.old
 have sJ:=m23.up s4.old
 have mH:=m17.aC s4 m17.ne
 have b4:=s4.below b3 b3.size b3.size
 refine Lv (.int .i64 ((fG.length:Int))) (x_len rfl rfl rfl (by kernel_rfl)) (Lv (.int .i64 (0)) (ah rfl rfl) (Ln (sN (Fx.W.block ?_))))
 have m32:Fx.Own w3 w.heap.size 84 56 (.slice none 0 0) 0 (Fx.flat 56 (Lj m fG)):=Fx.Own.nil _ _ _ _ _
 have kll:=Vm
 refine Fx.W.loop (fun f w_ => ∃ i:Nat,∃ na:Option Addr,∃ nc:Nat,i<=fG.length/\f 0=(pt lp)/\f 2=(pt g1)/\f 27 = .slice Iw (fG.length) (yL)/\f 28 = .int .i64 ((fG.length:Int))/\f 29 = .int .i64 ((i:Int))/\Fx.aP w_ lp 29 (fM m) 93/\mD w_ B m.tp m.mb m.T/\Fx.Mp w_ m.pb m.T.n m.T.x (vR m.T)/\Fx.Mp w_ m.rb m.T.n m.T.x (nX m.R)/\Fx.gH w_ m.gb m.gn (fun i=>m.g i 0) (fun i=>m.g i 1) (mF m.g)/\Fx.gH w_ m.ab m.an m.ao m.ar vS/\Fx.Own w_ w2.heap.size 22 1 (.slice Iw (fG.length) (yL)) fG.length (mP fG)/\Fx.aP w_ g1 20 (iR (Bc m na i nc none 0 0)) 51/\Fx.Own w_ w.heap.size 84 56 (.slice na (i) (nc)) i (Fx.flat 56 (Lj m fG))/\Below w.heap.size w w_) (fun f _=>((fG.length:Int)-intOf (f 29)).toNat) ⟨0,none,0,(by omega),(by rfl),(by rfl),(by rfl),Fx.ic,Fx.ic,qC,oZ,qU,qV,qD,sJ,m24,mH,m32,b4⟩ ?_
 rintro f1 w4 ⟨i,na,nc,hi,h1,h2,h3,h4,h5,mI,nO,qW,nu,vL,vM,qE,qm,nP,b5⟩
 refine Ws (Wl ?_)
 by_cases BX:(i:Int)<(fG.length:Int)
 ·refine Lv (.bool true) (Fx.eG rfl h5 h4 BX) (Ln (sN (Ws (Wc (b:=true) rfl (fun _=>Wk (sN (Ws (Fx.W.block (Ws (Wl ?_)))))) (fun h=>nomatch h)))))
  obtain⟨BM,eq1⟩:=qE.addr (by omega)
  have oH:Fx.Own w4 w2.heap.size 22 1 (.slice (some ⟨BM,0,none⟩) fG.length yL) fG.length (mP fG):=qE.oP (congrArg (fun q=>Value.slice q fG.length yL) eq1)
  refine Lv ((pf BM i)) (av rfl (h3.trans (congrArg (fun q=>Value.slice q (fG.length) (yL)) eq1)) h5 Tryd.underlying53 (s:=1) (by kernel_rfl) (by omega) (by omega) (by omega)) (Lv (.int .u64 (fG.getD i 0)) (ak (x:=mP fG) rfl rfl (by kernel_rfl) oH.aL (i:=i) (by omega) (by omega) rfl) (Lv (.int .u64 (fG.getD i 0)) (aj rfl rfl) (Ln (sN ?_))))
  obtain⟨jz,hjz,xk⟩:=dW ((hq1.2 _).1 (mQ (show i<fG.length by omega) rfl))
  have CX:tN m (fG.getD i 0)=m.R jz:=by unfold tN dD.idx; rw[iU h.t.inv.inj hjz xk]
  have ejp:m.T.par (fG.getD i 0)=m.T.p jz:=sj h.t.inv.inj hjz xk
  -- region 7 draws
  refine Fx.W.bH [0,2,3,4,5,7,9,10,11,13,1,6,8,12,14,15,16,17,18,19] [0,1,0,0,0,0,4,0,4,0,0,0,4,0,4,0,2,2,0,3] (Fx.gD [84]) Fx.gD.refl Fx.gD.trans (aQ := [(19,1,[1]),(16,6,[15,8,6]),(17,6,[16,15,8,6]),(19,6,[6]),(16,8,[15,8]),(17,8,[16,15,8]),(19,8,[8]),(16,12,[15,14,12]),(17,12,[16,15,14,12]),(19,12,[12]),(16,14,[15,14]),(17,14,[16,15,14]),(19,14,[14]),(17,16,[16]),(18,16,[16]),(19,16,[16]),(18,17,[17]),(19,17,[17])]) (by kernel_rfl) (by kernel_rfl) (by kernel_rfl) (by kernel_rfl) (by kernel_rfl) fun sI fU mR => ?_
  have s5:Fx.Stp w4.heap.size w4 sI:=Sb fU
  have oo:=mI.aC s5 mI.ne
  have tT:=nO.up s5.old
  have pq:=qW.up s5.old
  have qX:=nu.up s5.old
  have uZ:=vL.up s5.old
  have zl:=vM.up s5.old
  have sK:=qm.aC s5 qm.ne
  have ny:=nP.aC s5 (nP.iG (Nat.le_refl _))
  have qo:=oH.bO s5 (Nat.ne_of_lt (oH.lt))
  have b6:=s5.below b5 b5.size b5.size
  refine Rp ((pf g1 18)) (fun v1=>au rfl h2 Tryd.underlying51 rfl (s:=1) (by kernel_rfl) rfl (by show _+18=_; omega)) (Rp (.int .u64 (fG.getD i 0)) (fun v1=>ah rfl rfl) (Rp ((pt lp)) (fun v1=>ah rfl h1) (Rp ((pt lp)) (fun v1=>aO rfl rfl) (Rp ((pf lp 19)) (fun v1=>au rfl rfl Tryd.underlying93 rfl (s:=1) (by kernel_rfl) rfl (by show _+19=_; omega)) (Rp (.int .u64 (fG.getD i 0)) (fun v1=>ah rfl rfl) (Rp ((pt lp)) (fun v1=>ah rfl h1) (Rp ((pt lp)) (fun v1=>aO rfl rfl) (Rp ((pf lp 20)) (fun v1=>au rfl rfl Tryd.underlying93 rfl (s:=1) (by kernel_rfl) rfl (by show _+20=_; omega)) (Rp (.int .u64 (fG.getD i 0)) (fun v1=>ah rfl rfl) (Fx.R.read (v := .slice na (i) (nc)) (by rfl) (by rfl) (Fx.gD.refl _) (fun v1 hv1=>ak (x:=iR (Bc m na i nc none 0 0)) rfl rfl (by kernel_rfl) (sK.aU hv1 (by decide)).aL (i:=18) (by omega) (by omega) rfl) ?_))))))))))
  refine Fx.R.s (.map (some m.pb)) (ak (x:=fM m) rfl rfl (by kernel_rfl) oo.aL (i:=19) (by omega) (by omega) rfl) ?_
  refine Fx.R.s (.int .u64 (m.T.p jz)) (Fx.nJ (z := .int .u64 (0)) rfl rfl rfl pq Tryd.underlying87 Tryd.underlying22 (by rfl) hjz xk rfl) ?_
  refine Fx.R.s (.map (some m.rb)) (ak (x:=fM m) rfl rfl (by kernel_rfl) oo.aL (i:=20) (by omega) (by omega) rfl) ?_
  refine Fx.R.s (.agg (Fx.ay 54 (Fx.rv .i64 (m.R jz)))) (Fx.nJ (z := .agg (Fx.ay 54 (Fx.rv .i64 (fun _=>0)))) rfl rfl rfl qX Tryd.underlying88 Tryd.underlying22 (by kernel_rfl) hjz xk rfl) ?_
  refine Rp (.agg (Fx.ay 56 (Fx.aX (Fx.aX (Fx.aX (fun zq=>if zq<2 then .int .u64 (0)else .int .i64 (0)) 0 1 (fun _ => .int .u64 (fG.getD i 0))) 1 1 (fun _ => .int .u64 (m.T.p jz))) 2 54 (Fx.rv .i64 (m.R jz))))) (fun v1=>bX (vs := [(0,.int .u64 (fG.getD i 0)),(1,.int .u64 (m.T.p jz)),(2,.agg (Fx.ay 54 (Fx.rv .i64 (m.R jz))))]) (places := #[(0,1),(1,1),(2,54)]) (m:=56) (x:=fun zq=>if zq<2 then .int .u64 (0)else .int .i64 (0)) rfl rfl Tryd.underlying84 (by kernel_rfl) (by kernel_rfl) (by rw[Fx.aG (off:=0) (s:=1) (y:=fun _ => .int .u64 (fG.getD i 0)) (by kernel_rfl) (Fx.cells_one (by rfl)) (by rfl)]; rw[Fx.aG (off:=1) (s:=1) (y:=fun _ => .int .u64 (m.T.p jz)) (by kernel_rfl) (Fx.cells_one (by rfl)) (by rfl)]; rw[Fx.aG (off:=2) (s:=54) (y:=Fx.rv .i64 (m.R jz)) (by kernel_rfl) (Fx.aN _ _) (by rfl)]; rfl)) (Fx.R.make (by rfl) ?_)
  refine Fx.L.wV (vs := [(0,.agg (Fx.ay 56 (Fx.aX (Fx.aX (Fx.aX (fun zq=>if zq<2 then .int .u64 (0)else .int .i64 (0)) 0 1 (fun _ => .int .u64 (fG.getD i 0))) 1 1 (fun _ => .int .u64 (m.T.p jz))) 2 54 (Fx.rv .i64 (m.R jz)))))]) (s:=56) (zc:=fun zq=>if zq<2 then .int .u64 (0)else .int .i64 (0)) (y:=Fx.aX (fun j=>(fun zq=>if zq<2 then .int .u64 (0)else .int .i64 (0)) (j % 56)) (0*56) 56 (Fx.aX (Fx.aX (Fx.aX (fun zq=>if zq<2 then .int .u64 (0)else .int .i64 (0)) 0 1 (fun _ => .int .u64 (fG.getD i 0))) 1 1 (fun _ => .int .u64 (m.T.p jz))) 2 54 (Fx.rv .i64 (m.R jz)))) (by rfl) rfl rfl Tryd.underlying48 (by kernel_rfl) (by rfl) (by rfl) (by kernel_rfl) (by rw[Fx.aG (off:=0*56) (s:=56) (y:=Fx.aX (Fx.aX (Fx.aX (fun zq=>if zq<2 then .int .u64 (0)else .int .i64 (0)) 0 1 (fun _ => .int .u64 (fG.getD i 0))) 1 1 (fun _ => .int .u64 (m.T.p jz))) 2 54 (Fx.rv .i64 (m.R jz))) rfl (Fx.aN _ _) (by rfl)]; rfl) rfl fun g2 w5 bS tV s6 z3 => ?_
  have sM:=oo.aC s6 oo.ne
  have rT:=tT.up s6.old
  have vN:=pq.up s6.old
  have uw:=qX.up s6.old
  have nQ:=uZ.up s6.old
  have qY:=zl.up s6.old
  have qM:=sK.aC s6 sK.ne
  have lM:=ny.aC s6 (ny.iG (Nat.le_refl _))
  have qN:=qo.bO s6 (Nat.ne_of_lt (qo.lt))
  have b7:=s6.below b6 b6.size b6.size
  have su:w.heap.size<=g2:=by rw[bS]; exact b6.size
  have ZQ:lp≠g2:=by rw[bS]; exact Nat.ne_of_lt (oo.lt)
  have ZR:m.pb≠g2:=by rw[bS]; exact Nat.ne_of_lt (pq.lt)
  have ZT:m.rb≠g2:=by rw[bS]; exact Nat.ne_of_lt (qX.lt)
  have ZU:m.gb≠g2:=by rw[bS]; exact Nat.ne_of_lt (uZ.lt)
  have ZV:m.ab≠g2:=by rw[bS]; exact Nat.ne_of_lt (zl.lt)
  have ZW:g1≠g2:=by rw[bS]; exact Nat.ne_of_lt (sK.lt)
  have ZX:(.slice na (i) (nc):Value).ownBlock≠some g2:=by rw[bS]; exact ny.iG (Nat.le_refl _)
  have ZY:BM≠g2:=by rw[bS]; exact Nat.ne_of_lt (qo.lt)
  have vK:g2<w5.heap.size:=tV.lt
  clear bS
  refine Ln ⟨Fx.gD.of_below s6.old,?_⟩
  refine Fx.R.make (by rfl) ?_
  refine Fx.L.app (B:=w.heap.size) (s:=56) (bytes:=448) (k:=i) (m:=1) (v := .slice na (i) (nc)) (x:=Fx.flat 56 (Lj m fG)) (by rfl) rfl rfl rfl Tryd.underlying48 (by kernel_rfl) (by kernel_rfl) rfl rfl lM tV.aL NP (by omega) (by omega) (by omega) b7.size fun g3 oG w6 ho1 hg1 P7 hlt1 => ?_
  have dL:=Fx.gD.oO hg1 lM
  have sO:=sM.aU dL (by decide)
  have m64:=rT.aU dL (by decide)
  have xD:=vN.aU dL (by decide)
  have zm:=uw.aU dL (by decide)
  have yA:=nQ.aU dL (by decide)
  have yB:=qY.aU dL (by decide)
  have tX:=qM.aU dL (by decide)
  have yK:=qN.aU dL (by decide)
  have oI:Fx.Own w6 w.heap.size 84 56 (.slice (some ⟨g3,0,none⟩) (i+1) oG) (i+1) (Fx.flat 56 (Lj m fG)):=(ho1.congr (fun j hj=>NJ rfl ejp CX j hj))
  have b8:Below w.heap.size w w6:=Fx.Below.grow b7 hg1 b7.size (fun q hq=>(lM.ge hq).1)
  refine Ln ⟨dL,?_⟩
  refine Rp ((pf g1 18)) (fun v1=>au rfl h2 Tryd.underlying51 rfl (s:=1) (by kernel_rfl) rfl (by show _+18=_; omega)) (Fx.R.fP (by rfl) ?_)
  refine Fx.L.bV (x:=iR (Bc m na i nc none 0 0)) (u := .slice (some ⟨g3,0,none⟩) (i+1) (oG)) (by rfl) rfl rfl rfl rfl (by rfl) (by kernel_rfl) tX (i:=18) (by omega) fun w7 vO s7 z4 => ?_
  have xE:Fx.aP w7 g1 20 (iR (Bc m (some ⟨g3,0,none⟩) (i+1) oG none 0 0)) 51:=vO.to (Ij _ _ _ _)
  have mo:=Fx.gD.bP s7 tX.ty
  have sP:=sO.aU mo (by decide)
  have zn:=m64.aU mo (by decide)
  have xG:=xD.aU mo trivial
  have Aq:=zm.aU mo trivial
  have Ce:=yA.aU mo trivial
  have Cg:=yB.aU mo trivial
  have Ch:=yK.aU mo (by decide)
  have vP:=oI.aU mo (by decide)
  have b9:=s7.below b8 b8.size (by omega)
  refine Ln (Fx.R.nil (Fx.dV (sN (Wl (Lv (.int .i64 ((i:Int)+1)) (Fx.aS rfl h5 rfl Fx.io) (Lv (.int .i64 ((i:Int)+1)) (ah rfl rfl) (Ln ?_)))))))
  have yC:Fx.Own w7 w2.heap.size 22 1 (.slice Iw (fG.length) (yL)) fG.length (mP fG):=Ch.oP (congrArg (fun q=>Value.slice q fG.length yL) eq1.symm)
  skip
  refine Fx.kg ⟨i+1,(some ⟨g3,0,none⟩),oG,(by omega),h1,h2,h3,(h4.trans Fx.ic),Fx.ic,sP,zn,xG,Aq,Ce,Cg,yC,xE,vP,b9⟩ ?_
  show((fG.length:Int)-intOf ((.int .i64 ((i:Int)+1)))).toNat<_
  simp only[h5,intOf]; omega
 refine Lv (.bool false) (Fx.dX rfl h5 h4 BX) (Ln (sN (Ws (Wc (b:=false) rfl (fun h=>nomatch h) (fun _=>Fx.W.exit (Fx.dQ (Fx.jC (Fx.dR (sN (Ws (Ws (Wl (Lv ((pt lp)) (ah rfl h1) (Lv ((pt lp)) (aO rfl rfl) (Lv ((pf lp 27)) (au rfl rfl Tryd.underlying93 rfl (s:=1) (by kernel_rfl) rfl (by show _+27=_; omega)) (Lv (.map (some m.gb)) (ak (x:=fM m) rfl rfl (by kernel_rfl) mI.aL (i:=27) (by omega) (by omega) rfl) (Fx.L.PZ (by rfl) rfl rfl rfl vL Tryd.underlying89 fun g4 w8 gT Ar s8 z5 => ?_)))))))))))))))))
 have Ci:=vL.up s8.old
 have Fy:=qm.aC s8 qm.ne
 have IC:=nP.aC s8 (nP.iG (Nat.le_refl _))
 have b10:=s8.below b5 b5.size b5.size
 have wH:w.heap.size<=g4:=by rw[gT]; exact b5.size
 have M6:g4<w8.heap.size:=Ar.lt
 clear gT
 refine Ln (sN (Fx.W.block ?_))
 have IE:Fx.Own w8 w.heap.size 99 5 (.slice none 0 0) 0 (Fx.flat 5 (fun k=>iJ (m.g (([]:List Nat).getD k 0)))):=Fx.Own.nil _ _ _ _ _
 refine Fx.W.BA (fun kE f w_ => ∃ S:Nat->Bool,∃ kk:Nat,∃ il:List Nat,∃ gn:Nat,∃ ga:Option Addr,∃ gc:Nat,kk=Fx.unseen S m.gn/\kk=kE/\Ii m.gn S il/\gn=il.length/\f 2=(pt g1)/\f 57=(pt g4)/\Fx.gH w_ m.gb m.gn (fun i=>m.g i 0) (fun i=>m.g i 1) (mF m.g)/\Fx.Own w_ w.heap.size 84 56 (.slice na (i) (nc)) i (Fx.flat 56 (Lj m fG))/\Fx.aP w_ g1 20 (iR (Bc m na i nc ga gn gc)) 51/\Fx.Own w_ w.heap.size 99 5 (.slice ga (gn) (gc)) gn (Fx.flat 5 (fun k=>iJ (m.g (il.getD k 0))))/\Fx.It w_ g4 m.gb m.gn S/\Below w.heap.size w w_) (Fx.unseen (fun _=>false) m.gn) ⟨(fun _=>false),(Fx.unseen (fun _=>false) m.gn),[],0,none,0,rfl,rfl,(Ii.start _),rfl,h2,(by rfl),Ci,IC,Fy,IE,Ar,b10⟩ ?_
 rintro kE f2 w9 ⟨S,kk,il,gn,ga,gc,hkk,hkE,hil,hgl,h6,h7,F4,H8,DL,KP,IG,b11⟩
 refine Ws (Wl (Fx.L.TS (by rfl) rfl rfl h7 F4 IG (fun Cj => ?_) (fun jW wo hi1 hS1 LY Tw s9 z6 => ?_)))
 ·skip
  refine Lv (.bool false) (Fx.aD rfl rfl rfl) (Ln (sN (Ws (Wc (b:=false) rfl (fun h=>nomatch h) (fun _=>Fx.W.exit (Fx.dQ (Fx.jC (Fx.dR (sN (Ws ?_))))))))))
  have eL:(il.map fun i=>Bl (m.g i)).length=gn:=by rw[List.length_map]; exact hgl.symm
  have Z0:=hil.len
  refine Wl (Lv ((pf g1 19)) (au rfl h6 Tryd.underlying51 rfl (s:=1) (by kernel_rfl) rfl (by show _+19=_; omega)) (Lv (.slice ga (gn) (gc)) (ak (x:=iR (Bc m na i nc ga gn gc)) rfl rfl (by kernel_rfl) DL.aL (i:=19) (by omega) (by omega) rfl) (Fx.L.call (by rfl) (rC (args := [.slice ga (gn) (gc),.func (.func 34) #[] #[]]) rfl rfl Tryd.func33 rfl rfl) rfl ((NT h.g hil hgl KP (by omega)).mono ?_))))
  rintro e9 Tq ⟨he,gl,hpm,hup,LZ,_,Mr,hb2⟩
  refine⟨_,he,?_⟩
  clear he
  have b12:=b11.trans hb2
  have Db:=H8.aU Mr (by decide)
  have xV:=DL.aU Mr (by decide)
  have acA:=xV.lt
  refine Ln (sN (Ws (Wl (Lv (.agg (Fx.ay 20 (iR (Bc m na i nc ga gn gc)))) (aK (x:=iR (Bc m na i nc ga gn gc)) (y:=iR (Bc m na i nc ga gn gc)) rfl h6 (by kernel_rfl) (by kernel_rfl) xV.aL (i:=0) (by omega) (by omega) (fun j _=>by rw[Nat.zero_add])) (Fx.L.dY (x:=iR (Bc m na i nc ga gn gc)) (y:=iR (Bc m na i nc ga gn gc)) (by rfl) rfl rfl h6 rfl (fun j _=>MP _ j) (by kernel_rfl) xV (i:=0) (by omega) fun Tt vW s10 z7 => ?_)))))
  have vX:Fx.aP Tt g1 20 (iR (Bc m na i nc ga gn gc)) 51:=Fx.dF vW
  have Ms:=Fx.gD.bP s10 xV.ty
  have xX:=Db.aU Ms (by decide)
  have xY:=LZ.aU Ms (by decide)
  have b13:=s10.below b12 b12.size (by omega)
  refine Ln (sN (Wr (⟨.agg (Fx.ay 20 (iR (Bc m na i nc ga gn gc))),rV Tryd.results20 ⟨_,h6,Fx.iE vX.aL (by kernel_rfl) (by kernel_rfl)⟩,?_⟩)))
  have eil:i=fG.length:=by omega
  have egl:gn=gl.length:=by rw[hpm.length_eq,eL]
  exact⟨Bc m na i nc ga gn gc,fG,gl,rfl,{ inn:=rfl,left:=rfl,known:=rfl,nn:=eil,gn:=egl,ls:=hq1,len:=kll,gs:=VE.of h.g hil Cj hpm hup,glb:=by omega,n:=xX,g:=xY },b13⟩
 skip
 have hcm1:=IG.uX s9
 have xZ:=F4.bY hcm1 (IG.rb.symm)
 have vY:=H8.bY hcm1
 have yO:=DL.bY hcm1
 have Di:=KP.bY hcm1
 have b14:=s9.below b11 b11.size (by omega)
 refine Lv (.bool true) (Fx.aD rfl rfl rfl) (Ln (sN (Ws (Wc (b:=true) rfl (fun _=>Wk (sN (Fx.W.block (Ws (Wl (Lv (.tuple #[Fx.kS (m.g jW 0) (m.g jW 1),.agg (Fx.ay 5 (iJ (m.g jW)))]) (Fx.Jc (k1:=fun i=>m.g i 0) (k2:=fun i=>m.g i 1) (val:=mF m.g) (i:=jW) rfl h7 xZ Tw hi1) ?_)))))) (fun h=>nomatch h)))))
 refine Lv (.agg (Fx.ay 5 (iJ (m.g jW)))) (Fx.aD rfl rfl rfl) (Fx.L.new (m:=5) (y:=fun zq=>if zq<1 then .int .i64 (0)else if zq<3 then .int .u64 (0)else if zq<4 then .int .i64 (0)else .int .u64 (0)) (by rfl) rfl (by kernel_rfl) rfl fun g5 Uv wL A8 s11 z8 => ?_)
 have EN:=xZ.up s11.old
 have Nl:=vY.aC s11 (vY.iG (Nat.le_refl _))
 have Nn:=yO.aC s11 yO.ne
 have Np:=Di.aC s11 (Di.iG (Nat.le_refl _))
 have KU:=LY.up s11.old
 have b15:=s11.below b14 b14.size b14.size
 have Wn:w.heap.size<=g5:=by rw[wL]; exact b14.size
 have Wz:m.gb≠g5:=by rw[wL]; exact Nat.ne_of_lt (xZ.lt)
 have WA:g1≠g5:=by rw[wL]; exact Nat.ne_of_lt (yO.lt)
 have Gg:(.slice ga (gn) (gc):Value).ownBlock≠some g5:=by rw[wL]; exact Di.iG (Nat.le_refl _)
 have tg5:g5<Uv.heap.size:=A8.lt
 clear wL
 refine Fx.L.dY (x:=fun zq=>if zq<1 then .int .i64 (0)else if zq<3 then .int .u64 (0)else if zq<4 then .int .i64 (0)else .int .u64 (0)) (y:=iJ (m.g jW)) (by rfl) rfl rfl rfl rfl (fun j _=>Az _ j) (by kernel_rfl) A8 (i:=0) (by omega) fun Jw KV s12 z9 => ?_
 have yP:Fx.aP Jw g5 5 (iJ (m.g jW)) 99:=Fx.dF KV
 have GV:=Fx.gD.bP s12 A8.ty
 have KW:=EN.aU GV trivial
 have Ib:=Nl.aU GV (by decide)
 have Ie:=Nn.aU GV (by decide)
 have Td:=Np.aC s12 Gg
 have Z4:=KU.aU GV (by decide)
 have b16:=s12.below b15 b15.size (by omega)
 refine Ln (sN ?_)
 have Z0:=hil.len
 have hgn1:gn<=m.gn:=by omega
 refine Wl (Lv ((pf g1 19)) (au rfl h6 Tryd.underlying51 rfl (s:=1) (by kernel_rfl) rfl (by show _+19=_; omega)) (Lv (.slice ga (gn) (gc)) (ak (x:=iR (Bc m na i nc ga gn gc)) rfl rfl (by kernel_rfl) Ie.aL (i:=19) (by omega) (by omega) rfl) (Lv (.agg (Fx.ay 5 (iJ (m.g jW)))) (aK (x:=iJ (m.g jW)) (y:=iJ (m.g jW)) rfl rfl (by kernel_rfl) (by kernel_rfl) yP.aL (i:=0) (by omega) (by omega) (fun j _=>by rw[Nat.zero_add])) (Fx.L.wV (vs := [(0,.agg (Fx.ay 5 (iJ (m.g jW))))]) (s:=5) (zc:=fun zq=>if zq<1 then .int .i64 (0)else if zq<3 then .int .u64 (0)else if zq<4 then .int .i64 (0)else .int .u64 (0)) (y:=Fx.aX (fun j=>(fun zq=>if zq<1 then .int .i64 (0)else if zq<3 then .int .u64 (0)else if zq<4 then .int .i64 (0)else .int .u64 (0)) (j % 5)) (0*5) 5 (iJ (m.g jW))) (by rfl) rfl rfl Tryd.underlying49 (by kernel_rfl) (by rfl) (by rfl) (by kernel_rfl) (by rw[Fx.aG (off:=0*5) (s:=5) (y:=iJ (m.g jW)) rfl (Fx.aN _ _) (by rfl)]; rfl) rfl fun g6 Xm zS VF s13 z10 => ?_))))
 have Z5:=KW.up s13.old
 have Z6:=Ib.aC s13 (Ib.iG (Nat.le_refl _))
 have Z7:=Ie.aC s13 Ie.ne
 have Te:=Td.aC s13 (Td.iG (Nat.le_refl _))
 have Z8:=Z4.up s13.old
 have Z9:=yP.aC s13 yP.ne
 have b17:=s13.below b16 b16.size b16.size
 have lg6:w.heap.size<=g6:=by rw[zS]; exact b16.size
 have WB:m.gb≠g6:=by rw[zS]; exact Nat.ne_of_lt (KW.lt)
 have WC:g1≠g6:=by rw[zS]; exact Nat.ne_of_lt (Ie.lt)
 have WE:(.slice ga (gn) (gc):Value).ownBlock≠some g6:=by rw[zS]; exact Td.iG (Nat.le_refl _)
 have WG:g5≠g6:=by rw[zS]; exact Nat.ne_of_lt (yP.lt)
 have tg6:g6<Xm.heap.size:=VF.lt
 clear zS
 refine Fx.L.app (B:=w.heap.size) (s:=5) (bytes:=40) (k:=gn) (m:=1) (v := .slice ga (gn) (gc)) (x:=Fx.flat 5 (fun k=>iJ (m.g (il.getD k 0)))) (by rfl) rfl rfl rfl Tryd.underlying49 (by kernel_rfl) (by kernel_rfl) rfl rfl Te VF.aL NQ (by omega) (by omega) (by omega) b17.size fun g7 cap2 w16 ho2 hg2 aac hlt2 => ?_
 have NV:=Fx.gD.oO hg2 Te
 have aad:=Z5.aU NV (by decide)
 have aae:=Z6.aU NV (by decide)
 have VG:=Z7.aU NV (by decide)
 have aaf:=Z8.aU NV (by decide)
 have WH:g5≠g7:=fun e=>aac.elim (fun e2=>Gg (by rw[e]; exact e2)) (fun e2=>by have:=Z9.lt; omega)
 have aag:Fx.Own w16 w.heap.size 99 5 (.slice (some ⟨g7,0,none⟩) (gn+1) cap2) (gn+1) (Fx.flat 5 (fun k=>iJ (m.g ((il ++ [jW]).getD k 0)))):=(ho2.congr (fun j hj=>by rw[hgl]at hj ⊢; exact NK j hj))
 have b18:Below w.heap.size w w16:=Fx.Below.grow b17 hg2 b17.size (fun q hq=>(Te.ge hq).1)
 refine Lv ((pf g1 19)) (au rfl h6 Tryd.underlying51 rfl (s:=1) (by kernel_rfl) rfl (by show _+19=_; omega)) (Fx.L.bV (x:=iR (Bc m na i nc ga gn gc)) (u := .slice (some ⟨g7,0,none⟩) (gn+1) (cap2)) (by rfl) rfl rfl rfl rfl (by rfl) (by kernel_rfl) VG (i:=19) (by omega) fun Xp aah LP z11 => ?_)
 have aai:Fx.aP Xp g1 20 (iR (Bc m na i nc (some ⟨g7,0,none⟩) (gn+1) cap2)) 51:=aah.congr (ES _ _ _ _)
 have NW:=Fx.gD.bP LP VG.ty
 have aaj:=aad.aU NW trivial
 have aak:=aae.aU NW (by decide)
 have aal:=aaf.aU NW (by decide)
 have aam:=aag.aU NW (by decide)
 have b19:=LP.below b18 b18.size (by omega)
 refine Ln (Fx.dV ?_)
 skip
 refine Fx.kg ⟨Fx.unseen (Fx.aH S jW true) m.gn,(by have h1:=Fx.jL hS1 m.gn hi1; omega),(Fx.aH S jW true),(Fx.unseen (Fx.aH S jW true) m.gn),(il ++ [jW]),gn+1,(some ⟨g7,0,none⟩),cap2,rfl,rfl,(hil.step hi1 hS1),(by rw[List.length_append,<- hgl]; rfl),h6,h7,aaj,aak,aai,aam,aal,b19⟩ (by decide)
theorem Lm(w:World) :
 Calls Tryd.prog 20 #[.pointer none] w fun e w' => ∃ z,e = .returned (.agg (Fx.ay 20 z))/\(∀ j,j<20->z j=iR ⟨fun _=>false,fun _=>false,fun _=>0,none,0,0,none,0,0⟩ j)/\Below w.heap.size w w':=by
 refine Fx.enter Tryd.func20 rfl (n:=72) rfl (by rfl) ?_
 refine Ws (Wl (Fx.L.new (m:=20) (y:=fun zq=>if zq<12 then .bool false else if zq<18 then .int .u64 (0)else .slice none 0 0) (by rfl) rfl (by kernel_rfl) rfl fun g1 w1 aZ m1 s1 z1 => ?_))
 have b1:=s1.below (Below.refl w.heap.size w) (Below.refl w.heap.size w).size (Below.refl w.heap.size w).size
 have kM:w.heap.size<=g1:=by rw[aZ]; exact(Below.refl w.heap.size w).size
 have mO:g1<w1.heap.size:=m1.lt
 clear aZ
 refine Ln (sN (Ws (Ws (Wl (Lv (.pointer none) (ah rfl rfl) (Lv (.bool true) (Fx.oN rfl rfl rfl (by kernel_rfl)) (Ln (sN (Wc (b:=true) rfl (fun _=>Ws (Wl (Lv (.agg (Fx.ay 20 (fun zq=>if zq<12 then .bool false else if zq<18 then .int .u64 (0)else .slice none 0 0))) (aK (x:=fun zq=>if zq<12 then .bool false else if zq<18 then .int .u64 (0)else .slice none 0 0) (y:=fun zq=>if zq<12 then .bool false else if zq<18 then .int .u64 (0)else .slice none 0 0) rfl rfl (by kernel_rfl) (by kernel_rfl) m1.aL (i:=0) (by omega) (by omega) (fun j _=>by rw[Nat.zero_add])) ?_))) (fun h=>nomatch h))))))))))
 refine Fx.L.dY (x:=fun zq=>if zq<12 then .bool false else if zq<18 then .int .u64 (0)else .slice none 0 0) (y:=fun zq=>if zq<12 then .bool false else if zq<18 then .int .u64 (0)else .slice none 0 0) (by rfl) rfl rfl rfl rfl (fun j hj=>by repeat (first|rfl|split)) (by kernel_rfl) m1 (i:=0) (by omega) fun w2 m2 s2 z2 => ?_
 have m3:Fx.aP w2 g1 20 (fun zq=>if zq<12 then .bool false else if zq<18 then .int .u64 (0)else .slice none 0 0) 51:=Fx.dF m2
 have b2:=s2.below b1 b1.size (by omega)
 refine Ln (sN (Wr (sR (⟨.agg (Fx.ay 20 (fun zq=>if zq<12 then .bool false else if zq<18 then .int .u64 (0)else .slice none 0 0)),rV Tryd.results20 ⟨_,rfl,Fx.iE m3.aL (by kernel_rfl) (by kernel_rfl)⟩,?_⟩))))
 exact⟨_,rfl,fun j hj=>by rcases j with _|_|_|_|_|_|_|_|_|_|_|_|_|_|_|_|_|_|_|_|j <;> first|rfl|omega,b2⟩
end Go.Proofs.YtahbiajdgealnaaDoor
namespace Go.Proofs.YtahbiajdgealnaaDoor
open Go.RowKit Go
set_option linter.unusedVariables false
namespace Rt
section
variable {f:(Nat->Int)->(Nat->Int) × Int} {idx:Nat->Nat} {R:Nat->Nat->Int} {r r':Nat->Nat->Int} {n K k:Nat}
theorem vG : ∀ {n:Nat},(∀ i,i<n->r i=r' i)->iK f r n=iK f r' n
 | 0,_=>rfl
 | n+1,h=>by unfold iK; rw[vG (n:=n) fun i hi=>h i (by omega),h n (by omega)]
theorem yt : ∀ {K:Nat},(∀ i j,i<K->j<K->idx i=idx j->i=j)->(dG f idx R K).2=iK f (fun i=>R (idx i)) K/\((dG f idx R K).2=0 -> ∀ k,(dG f idx R K).1 k=R k/\(∀ i,i<K->idx i≠k)\/(dG f idx R K).1 k=(f (R k)).1 /\ ∃ i,i<K/\idx i=k)
 | 0,_=>⟨rfl,fun _ k => .inl ⟨rfl,fun _ h=>absurd h (Nat.not_lt_zero _)⟩⟩
 | K+1,hi=>by
   obtain⟨h1,h2⟩:=yt (K:=K) fun i j a b=>hi i j (by omega) (by omega)
   unfold iK
   rw[<- h1]
   by_cases h0:(dG f idx R K).2=0
   ·have hk:=h2 h0
    have eR:(dG f idx R K).1 (idx K)=R (idx K):=by
     rcases hk (idx K)with h|⟨_,i,h3,h4⟩
     ·exact h.1
     ·have:=hi i K (by omega) (by omega) h4; omega
    rw[if_pos h0]
    have e:dG f idx R (K+1)=(if(f ((dG f idx R K).1 (idx K))).2=0 then(aY (dG f idx R K).1 (idx K) (f ((dG f idx R K).1 (idx K))).1,0)else((dG f idx R K).1,(f ((dG f idx R K).1 (idx K))).2)):=by show(if _ then _ else _)=_; rw[if_pos h0]
    rw[e,eR]
    by_cases hf:(f (R (idx K))).2=0
    ·rw[if_pos hf]
     refine⟨hf.symm,fun _ k => ?_⟩
     show aY (dG f idx R K).1 (idx K) _ k=R k/\_\/aY (dG f idx R K).1 (idx K) _ k=(f (R k)).1/\_
     unfold aY
     by_cases e:k=idx K
     ·subst e; rw[if_pos rfl]; exact .inr ⟨rfl,K,by omega,rfl⟩
     ·rw[if_neg e]
      rcases hk k with ⟨h3,h4⟩|⟨h3,i,h4,h5⟩
      ·refine .inl ⟨h3,fun i hi2 e2 => ?_⟩
       by_cases e3:i=K
       ·subst e3; exact e e2.symm
       ·exact h4 i (by omega) e2
      ·exact .inr ⟨h3,i,by omega,h5⟩
    ·rw[if_neg hf]; exact⟨rfl,fun h=>absurd h hf⟩
   ·rw[if_neg h0]
    have e:dG f idx R (K+1)=dG f idx R K:=by show(if _ then _ else _)=_; rw[if_neg h0]
    rw[e]
    exact⟨rfl,fun h=>absurd h h0⟩
end
structure uO(T:cu)(L:fO):Prop where
 has : ∀ k,T.has k=true <-> ∃ i,i<L.nn/\L.id i=k
 n:T.n=L.nn
 par : ∀ i,i<L.nn->T.par (L.id i)=L.par i
section
variable {T:cu} {L:fO} {N:Nat} {x:Int}
theorem uO.find(h:uO T L)(hI:Inv0 L N)(x:Int):T.has x=true<->0<=aR L.t L.tn x:=by
 rw[h.has,eX,hI.uE]
 constructor
 ·rintro ⟨i,hi,e⟩; exact⟨i,hi,by rw[(hI.tid i hi).1]; exact e⟩
 rintro ⟨i,hi,e⟩; exact⟨i,hi,by rw[<- (hI.tid i hi).1]; exact e⟩
theorem uO.findF(h:uO T L)(hI:Inv0 L N)(x:Int):T.has x=false<->aR L.t L.tn x<0:=by
 have:=h.find hI x
 cases e:T.has x with
 | false=>rw[e]at this; exact⟨fun _=>by rcases O5 (aR L.t L.tn x)with h1|h1; exact h1; exact absurd (this.2 h1) (by decide),fun _=>rfl⟩
 | true=>rw[e]at this; have:=this.1 rfl; exact⟨fun h=>(nomatch h),fun h=>by omega⟩
theorem Inv0.at(hI:Inv0 L N){i:Nat}(hi:i<L.nn):L.node (L.id i)=(i:Int):=by
 rw[hI.node,<- (hI.tid i hi).1]
 exact mZ (fun a b ha hb e=>hI.UU a b ha hb e) (by rw[hI.uE]; exact hi)
theorem uO.next(h:uO T L)(hI:Inv0 L N)(hx:T.has x=true):T.par x=L.t (aR L.t L.tn x).toNat 1:=by
 obtain⟨i,hi,rfl⟩:=(h.has x).1 hx
 have e:=hI.at hi
 rw[hI.node]at e
 rw[e,h.par i hi]
 exact((hI.tid i hi).2).symm
theorem uO.path(h:uO T L)(hT:T.ok)(hI:Inv0 L N)(x:Int):(T.path x).length=fF L.t L.tn x /\ ∀ q,q<(T.path x).length->(T.path x).getD q 0=bE L.t L.tn q x:=by
 have hf : ∀ q,q<(T.path x).length->T.has ((T.path x).getD q 0)=true/\(q+1<(T.path x).length->(T.path x).getD (q+1) 0=T.par ((T.path x).getD q 0))/\(q+1=(T.path x).length->T.has (T.par ((T.path x).getD q 0))=false):=kN (hT.stop x)
 have hg : ∀ q,q<(T.path x).length->(T.path x).getD q 0=bE L.t L.tn q x:=by
  intro q
  induction q with
  | zero =>
    intro hq
    cases hx:T.has x with
    | false=>rw[show T.path x = []from iH hx]at hq; exact absurd hq (Nat.not_lt_zero _)
    | true=>rw[cu.step hT hx]; rfl
  | succ q ih =>
    intro hq
    have h1:=ih (by omega)
    have h2:=(hf q (by show q<(T.path x).length; omega))
    have h3:=h2.2.1 hq
    show(T.path x).getD (q+1) 0=L.t (aR L.t L.tn (bE L.t L.tn q x)).toNat 1
    rw[<- h1,<- h.next hI h2.1]
    exact h3
 refine⟨?_,hg⟩
 obtain⟨D,hD,hD2⟩:=hI.dep x
 refine sV (D:=D) (fun i hi => ?_) ?_ hD2 (by omega)
 ·rw[<- hg i hi,<- h.find hI]; exact(hf i hi).1
 by_cases h0:(T.path x).length=0
 ·rw[h0]
  show aR L.t L.tn x<0
  rw[<- h.findF hI]
  cases hx:T.has x with
  | false=>rfl
  | true=>rw[cu.step hT hx]at h0; simp at h0
 obtain⟨q,hq⟩ : ∃ q,(T.path x).length=q+1:=⟨(T.path x).length-1,by omega⟩
 have h2:=hf q (by show q<(T.path x).length; omega)
 have h3:=h2.2.2 (by show q+1=(T.path x).length; omega)
 rw[hq]
 show aR L.t L.tn (L.t (aR L.t L.tn (bE L.t L.tn q x)).toNat 1)<0
 rw[<- hg q (by omega),<- h.next hI h2.1,<- h.findF hI]
 exact h3
theorem NY(hI:Inv0 L N)(x:Int):aR L.t L.tn (bE L.t L.tn (fF L.t L.tn x) x)<0:=by
 obtain⟨D,hD,hD2⟩:=hI.dep x
 obtain⟨K,hK,h1,h2⟩:=ng D hD2
 rw[<- sV h2 h1 hD2 (by omega)]; exact h1
theorem uO.mem(h:uO T L)(hT:T.ok)(hI:Inv0 L N)(x y:Int):y∈T.path x <-> ∃ i,i<fF L.t L.tn x/\bE L.t L.tn i x=y:=by
 obtain⟨h1,h2⟩:=h.path hT hI x
 rw[<- h1]
 constructor
 ·intro hm
  obtain⟨i,hi,e⟩:=List.getElem_of_mem hm
  refine⟨i,hi,?_⟩
  rw[<- h2 i hi,List.getD_eq_getElem?_getD,List.getElem?_eq_getElem hi]; exact e
 rintro ⟨i,hi,rfl⟩
 rw[<- h2 i hi,List.getD_eq_getElem?_getD,List.getElem?_eq_getElem hi]; exact List.getElem_mem hi
theorem uO.err(h:uO T L)(hT:T.ok)(hI:Inv0 L N)(id pa:Int):T.err id pa=J3 L.t L.tn id pa:=by
 unfold cu.err lJ J3
 by_cases h0:id=0
 ·rw[if_pos h0,if_pos h0]
 rw[if_neg h0,if_neg h0]
 by_cases h1:cK T.x T.n id=true
 ·rw[if_pos h1,if_pos ((h.find hI id).1 h1)]
 rw[if_neg h1,if_neg (fun e=>h1 ((h.find hI id).2 e))]
 have e2:(¬ pa=0/\cK T.x T.n pa=false)<->(pa≠0/\aR L.t L.tn pa<0):=by
  rw[<- h.findF hI]; exact Iff.rfl
 by_cases h2 : ¬ pa=0/\cK T.x T.n pa=false
 ·rw[if_pos h2,if_pos (e2.1 h2)]
 rw[if_neg h2,if_neg (fun e=>h2 (e2.2 e))]
 have e3:(32<=T.n\/4<=(fK T.x T.p T.n 4 pa).length)<->(32<=L.tn\/zC L.t L.tn pa):=by
  obtain⟨p1,p2⟩:=h.path hT hI pa
  have hl:(T.path pa).length<=4:=cu.tH
  have:4<=(T.path pa).length<->zC L.t L.tn pa:=by
   constructor
   ·intro h4 i hi
    have h5:=(kN (hT.stop pa)) i (by show i<(T.path pa).length; omega)
    rw[<- p2 i (by omega),<- h.find hI]; exact h5.1
   ·intro hd
    rcases Nat.lt_or_ge (T.path pa).length 4 with h5|h5
    ·exfalso
     have h6:=hd _ h5
     rw[p1]at h6
     have:=NY hI pa
     omega
    ·exact h5
  show(32<=T.n\/4<=(T.path pa).length)<->_
  rw[this,h.n,hI.uE]
 by_cases h3:32<=T.n\/4<=(fK T.x T.p T.n 4 pa).length
 ·rw[if_pos h3,if_pos (e3.1 h3)]
 rw[if_neg h3,if_neg (fun e=>h3 (e3.2 e))]
end
end Rt
end Go.Proofs.YtahbiajdgealnaaDoor
