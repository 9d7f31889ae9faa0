/-
  What the proof of the law rests on, part 6: walks of functions, and plain laws; each says its conditions itself.
-/
import Derived.Test.YtcbedgfikejkoaaDoorRows
import Derived.LaidMore
import Derived.OpenShut
import Derived.ProofKit
import Derived.Stop.Joined
import Derived.Test.YtcbedgfikejkoaaDoorZB5
set_option maxHeartbeats 1600000
set_option linter.unusedVariables false
set_option linter.unusedSimpArgs false
namespace Go.Proofs.YtcbedgfikejkoaaDoor
open Go.RowKit Rt
open Fx (eU dJ fu bf fq eZ dS dM fA gQ dH gT eP gD gU Lv sN Ln Ws Qv Wl Rp Wc Qs Wr Sb Lk Wk rC rV sR Rs Rn Rd Rk Wb Wx Wo yT Wt pE Aq Qn AX uo xL yB xJ AZ AY gG yR jM nT tC A8 yA yP xQ yQ rv aA aL bC aI ev bT Stp bU aM flat fH Mp dL aV fC gI aX down fM iU iM ji jv bG bA cells_one jO aY nE unseen jk iT cu bW cB bY bZ iB iG qP gV)
section
set_option maxRecDepth 20000
set_option linter.unusedVariables false
namespace Rt
noncomputable def Ef(L:dR)(i:Int)(x:dV):EvM:=if dn L i x=true then zeroE else eF L i x
noncomputable def J2(L:dR)(i:Int)(x:dV):Int:=if dn L i x=true then fU L i x else fK L i x
noncomputable def Eh(L:dR)(i:Int)(x:dV):dR:=if dn L i x=true then L else dO L (eF L i x)
section
variable {L:dR} {i:Int} {x:dV}
theorem nP(h:dn L i x=true):Ef L i x=zeroE/\J2 L i x=fU L i x/\Eh L i x=L:=⟨if_pos h,if_pos h,if_pos h⟩
theorem lH(h:dn L i x=false):Ef L i x=eF L i x/\J2 L i x=fK L i x/\Eh L i x=dO L (eF L i x):=by
 have h : ¬ dn L i x=true:=by rw[h]; decide
 exact⟨if_neg h,if_neg h,if_neg h⟩
theorem Ro(L:dR):dO L zeroE=L:=by
 unfold dO
 rw[if_neg]
 have:dA L zeroE=1:=by unfold dA; rw[if_pos (by kernel_rfl)]
 rw[this]; decide
theorem O6(h : ¬ fK L i x=0):eF L i x=zeroE:=by unfold eF; rw[if_neg h]
theorem AV(h:dn L i x=false)(d : ¬ fK L i x=0):Ef L i x=zeroE/\J2 L i x=fK L i x/\Eh L i x=L:=by
 obtain⟨a,b,c⟩:=lH h
 exact⟨by rw[a,O6 d],b,by rw[c,O6 d,Ro]⟩
theorem tu(h:fK L i x=0):jo i=true/\eF L i x=iN L.known i x/\dA L (eF L i x)=0:=by
 have a:jo i=true:=by
  cases c:jo i with
  | true=>rfl
  | false=>rw[(AL c).1]at h; cases h
 have e:eF L i x=iN L.known i x:=by unfold eF; rw[if_pos h]
 exact⟨a,e,by rw[e,<- jg a]; exact h⟩
end
end Rt
set_option maxRecDepth 10000 in
theorem FY(l B N:Nat)(m:dG)(L:dR)(w:World)(h:qB w B l m L N)(Y:1<=B)(D:gI w 0 0 8 wz)(hN:N<=900000)(i:Int)(hi : -9223372036854775808<=i/\i<=9223372036854775807)(x:dV)(hx:jD x) :
 Calls Tryd.prog 7 #[(pt l),au i,.agg (aA 6 (dQ x))] w fun e w' => ∃ m',e = .returned (.tuple #[.agg (aA 14 (dz (Ef L i x))),au (J2 L i x)])/\qB w' B l m' (Eh L i x) (N+1)/\iU (He m l w.heap.size) w w':=by
 have l0:=D.lt (by omega)
 have lq:=h.q.lt
 refine Kent Tryd.func7 40 ?_
 refine ay<|sG fun g1 w1 nk H s1 z1 => ?_
 have⟨m2,S⟩:=iA s1.old h (Below.refl w.heap.size w)
 have wF:=gY nk
 have wQ:=H.lt
 refine lM 14 (fun f=>if f<1 then au 0 else if f<8 then aC 0 else if f<9 then .int .u8 (0)else if f<10 then aC 0 else if f<12 then au 0 else aC 0) fun C w2 V m3 s2 z2 => ?_
 have⟨m4,m5,b2⟩:=jI s2.old m2 H S
 have yH:=gM V S.size
 have Jr:=bR V H.lt
 have Ba:=m3.lt
 refine av (au 0)<|aD<|Ws<|ay<|av ((pt l))<|Lv aF (Fx.jF rfl rfl rfl (by kernel_rfl))<|aD<|aK<|Wk<|sN<|Ws<|Ws ?_
 -- region 3 draws
 refine jS [0,2,3,1,4,5,6,7,8,9] [0,2,0,1,2,0,0,0,0,0] [(4,1,[1]),(5,1,[4,1]),(6,1,[5,4,1]),(7,1,[5,4,1]),(8,1,[1]),(9,1,[1]),(5,4,[4]),(6,4,[5,4]),(7,4,[5,4]),(8,4,[4]),(9,4,[4])] fun qY fO iC => ?_
 have⟨m6,O,m8,b3⟩:=iH fO m4 m5 m3 b2
 refine aU ((pt l))<|aU (au i)<|Rd (v := .agg (aA 6 (dQ x))) (by rfl) (by rfl) (nT _) (fun v1 G=>dH (x:=dQ x) (y:=dQ x) rfl rfl (by kernel_rfl) (by kernel_rfl) (O.aJ.below G (by have:=O.lt; omega)) (i:=0) (by omega) (by omega) (fun j _=>by rw[Nat.zero_add])) ?_
 refine zG<|jy (wC m6 (by omega)) ?_
 rintro e9 w3 ⟨ss1,he,F,Z⟩
 obtain⟨Xh,Xi,Xj,Xk,Zf⟩ : ∃ a b c d,ss1=yw L a b c d:=⟨_,_,_,_,F.e⟩
 subst Zf
 refine⟨_,he,?_⟩
 clear he
 have s4:=Sb Z
 have⟨m9,m10,m11,b4⟩:=iH Z m6 O m8 b3
 refine Ln ⟨s4.old,?_⟩
 refine zG<|fB (Rm L Xh Xj Xi Xk i x _ F.g.arr (by have:=m9.i.gn; omega)) _ rfl ?_
 intro w4 aa
 have s5:=Sb aa
 have⟨I,m13,t,m15,s⟩:=lV aa m9 m10 m11 F b4
 refine Ln ⟨s5.old,?_⟩
 refine aU (.tuple #[.bool (dn L i x),au (fU L i x)])<|aU (.bool (dn L i x))<|aU (au (fU L i x))<|aU (.bool (dn L i x))<|aU (au (fU L i x))<|bF<|ay ?_
 by_cases n:(dn L i x)=true
 ·refine aS (rfl.trans (congrArg Value.bool n))<|aD<|aQ<|ay<|Lv (.agg (aA 14 (fun f=>if f<1 then au 0 else if f<8 then aC 0 else if f<9 then .int .u8 (0)else if f<10 then aC 0 else if f<12 then au 0 else aC 0))) (gW t.aJ 0)<|av (au (fU L i x))<|eX t 0 (h1:=(fun j E=>by rcases j with _|_|_|_|_|_|_|_|_|_|_|_|_|_|j <;> first|rfl|omega)) fun w5 m16 s6 z3 => ?_
  have m17:aL w5 C 14 (fun f=>if f<1 then au 0 else if f<8 then aC 0 else if f<9 then .int .u8 (0)else if f<10 then aC 0 else if f<12 then au 0 else aC 0) 33:=aM m16
  have iq:=gG s6 t.ty
  have m18:=kJ iq I
  have b6:=s6.below s s.size (by omega)
  refine av (au (fU L i x)) (aD (Wr (sR (⟨.tuple #[.agg (aA 14 (fun f=>if f<1 then au 0 else if f<8 then aC 0 else if f<9 then .int .u8 (0)else if f<10 then aC 0 else if f<12 then au 0 else aC 0)),au (fU L i x)],gV Tryd.results7 ⟨_,rfl,aV m17.aJ (by kernel_rfl) (by kernel_rfl)⟩ (by exact rfl),?_⟩))))
  exact⟨m,by rw[(nP n).1,(nP n).2.1]; exact AJ (fun j E=>by rcases j with _|_|_|_|_|_|_|_|_|_|_|_|_|_|j <;> first|rfl|omega) rfl,by rw[(nP n).2.2]; exact m18.mono (Nat.le_succ N),(Fx.iU.of_below b6)⟩
 rw[Bool.not_eq_true]at n
 refine aS (rfl.trans (congrArg Value.bool n))<|aD<|aK<|Wk<|sN<|Ws ?_
 have p:dn L i x=false:=by cases h9:dn L i x with|false=>rfl|true=>exact absurd h9 (by rw[n]; decide)
 refine Wl<|av ((pt l))<|av (au i)<|Lv (.agg (aA 6 (dQ x))) (gW m13.aJ 0)<|fB (WH I Y (D.below s l0) i (x:=x) hx (fun _ _=>rfl)) _ rfl ?_
 intro w6 hb3
 have⟨m21,m22,m23,m24,T⟩:=lV hb3 I m13 t m15 s
 refine av (.tuple #[.agg (aA 14 (dz (eF L i x))),au (fK L i x)])<|av (.agg (aA 14 (dz (eF L i x))))<|av (au (fK L i x))<|lM 14 (fun f=>if f<1 then au 0 else if f<8 then aC 0 else if f<9 then .int .u8 (0)else if f<10 then aC 0 else if f<12 then au 0 else aC 0) fun g3 w7 W J s8 z4 => ?_
 have⟨qL,qx,uU,qZ,U⟩:=lV s8.old m21 m22 m23 m24 T
 have EB:=gM W T.size
 have⟨DR,Hw⟩:=ow W m22.lt m23.lt
 have Ga:=J.lt
 refine eX J 0 (h1:=(jc _)) fun w8 tH R z5 => ?_
 have lJ:aL w8 g3 14 (dz (eF L i x)) 33:=aM tH
 have ac:=gG R J.ty
 have⟨m32,oD⟩:=Es ac qL qx
 have u:=uU.eG R (by omega)
 have qM:=kJ ac qZ
 have A:=R.below U U.size (by omega)
 refine av (au (fK L i x))<|aD<|Ws<|ay<|av (au (fK L i x)) ?_
 by_cases o:(fK L i x)=0
 ·refine Lv aF (kW o)<|aD<|aK<|Wk<|sN<|Ws ?_
  have X:fK L i x=0:=by first|exact o|exact Classical.not_not.1 o
  obtain⟨hr0,eV,hE0⟩:=tu X
  have hVw:jR (eF L i x):=by rw[eV]; exact Iw h.i.kn hx hr0
  -- region 9 draws
  refine yQ [1,0,2,3,4,5] [1,0,4,2,3,0] (Fx.tF [59]) Fx.tF.refl Fx.tF.trans (eO := [(4,0,[0]),(3,2,[2]),(4,2,[3,2]),(4,3,[3]),(5,3,[3]),(5,4,[4])]) (by kernel_rfl) (by kernel_rfl) (by kernel_rfl) (by kernel_rfl) (by kernel_rfl) fun D9 jX oC => ?_
  have⟨pV,uD,qF,sM,K,z⟩:=vw jX m32 oD u qM lJ A
  refine aU ((pt l))<|Rd (v := .agg (aA 14 (dz (eF L i x)))) (by rfl) (by rfl) (Fx.tF.refl _) (fun v1 G=>dH (x:=dz (eF L i x)) (y:=dz (eF L i x)) rfl rfl (by kernel_rfl) (by kernel_rfl) (K.sH G (by decide)).aJ (i:=0) (by omega) (by omega) (fun j _=>by rw[Nat.zero_add])) ?_
  refine Rs (.agg (aA 14 (dz (eF L i x)))) (gW K.aJ 0) ?_
  refine zG<|fB (Ra (v:=(eF L i x)) pV hVw Y (D.below z l0) (fun _ _=>rfl)) (au 0) (by rw[hE0]) ?_
  rintro w9 ⟨hq1,ab⟩
  have r:=pV.q.typed ab
  have hW1:iU (He m l w.heap.size) w w9:=Fx.iU.trans _ _ _ (Fx.iU.of_below z) (ab.mono fun k hk=>hk.imp id (Nat.le_trans z.size))
  have pW:=uD.sH r (by decide)
  have ajY:=pW.lt
  have M:=qF.sH r (by decide)
  have ajZ:=M.lt
  have qN:=sM.sH r (by decide)
  have ru:=K.sH r (by decide)
  have akb:=ru.lt
  refine Ln ⟨r,?_⟩
  refine gP<|eX M 0 (h1:=(jc _)) fun zR vH P z6 => ?_
  have sO:aL zR C 14 (dz (eF L i x)) 33:=aM vH
  have wR:=gG P M.ty
  have wS:=ru.eG P (by omega)
  have uh:=kJ wR hq1
  have b11:=hW1.then P (.inr yH)
  refine Ln (aU (au 0) (bF (Wr (⟨.tuple #[.agg (aA 14 (dz (eF L i x))),au 0],gV Tryd.results7 ⟨_,rfl,aV sO.aJ (by kernel_rfl) (by kernel_rfl)⟩ (by exact rfl),?_⟩))))
  exact⟨_,by rw[(lH p).1,(lH p).2.1,X],by rw[(lH p).2.2]; exact uh,b11⟩
 refine Lv aG (qV o)<|aD<|aQ<|ay<|Lv (.agg (aA 14 (fun f=>if f<1 then au 0 else if f<8 then aC 0 else if f<9 then .int .u8 (0)else if f<10 then aC 0 else if f<12 then au 0 else aC 0))) (gW u.aJ 0)<|av (au (fK L i x))<|eX u 0 (h1:=(fun j E=>by rcases j with _|_|_|_|_|_|_|_|_|_|_|_|_|_|j <;> first|rfl|omega)) fun Kn vI Q z7 => ?_
 have wG:aL Kn C 14 (fun f=>if f<1 then au 0 else if f<8 then aC 0 else if f<9 then .int .u8 (0)else if f<10 then aC 0 else if f<12 then au 0 else aC 0) 33:=aM vI
 have Bn:=gG Q u.ty
 have vJ:=kJ Bn m32
 have vK:=lJ.eG Q (by omega)
 have b12:=Q.below A A.size (by omega)
 refine av (au (fK L i x)) (aD (Wr (sR (⟨.tuple #[.agg (aA 14 (fun f=>if f<1 then au 0 else if f<8 then aC 0 else if f<9 then .int .u8 (0)else if f<10 then aC 0 else if f<12 then au 0 else aC 0)),au (fK L i x)],gV Tryd.results7 ⟨_,rfl,aV wG.aJ (by kernel_rfl) (by kernel_rfl)⟩ (by exact rfl),?_⟩))))
 exact⟨m,by rw[(AV p o).1,(AV p o).2.1]; exact AJ (fun j E=>by rcases j with _|_|_|_|_|_|_|_|_|_|_|_|_|_|j <;> first|rfl|omega) rfl,by rw[(AV p o).2.2]; exact vJ.mono (Nat.le_succ N),(Fx.iU.of_below b12)⟩
end
set_option maxRecDepth 20000
set_option linter.unusedVariables false
namespace Rt
theorem K6{L:dR}{i:Int}{y z:dV}(h:wD L i)(a:iR L i y)(c:y.kind=3)(b:z.kind=3)(hr:z.req=y.req)(ha:z.bH≠y.bH):dn L i z=true/\fU L i z=14:=by
 obtain⟨q,e,k⟩:=uQ h a
 have l:Lg z=true:=by have:=D5 a; unfold Lg at *; rw[b,hr]; rw[c]at this; exact this
 have e:tL L i z.req=(q:Int):=by rw[hr]; exact e
 obtain⟨f,j⟩:=uR l e
 refine⟨f,?_⟩
 rw[j,if_neg]
 obtain⟨_,⟨_,_,_,d⟩|⟨k4,_⟩⟩:=k
 ·unfold oQ mY
  rw[b,decide_eq_false (show ¬ L.g q 3=z.bH from fun e=>ha (e.symm.trans d)),Bool.and_false,Bool.and_false,Bool.and_false]
  intro h; simp at h
 rw[c]at k4; exact absurd k4 (by decide)
def IC:dV:=⟨3,Lf,0,5,1,0⟩
theorem Rq:jD IC:=⟨⟨by decide,by decide⟩,⟨by decide,by decide⟩,⟨by decide,by decide⟩,⟨by decide,by decide⟩,⟨by decide,by decide⟩,⟨by decide,by decide⟩⟩
noncomputable def rq0:dG:=tK 1 0 0 0 0 0 0
noncomputable def Zg:dR:=(oK 1 0).core
def rA:EvM:=iN (oK 1 0).core.known 1 BF
noncomputable def K7:dG:=iF rq0 rA
noncomputable def Gi:dR:=dO Zg rA
noncomputable def rB:EvM:=iN Gi.known 1 qo
noncomputable def rB':EvM:=iN K7.known 1 qo
noncomputable def Zh:dG:=iF K7 rB'
noncomputable def O7:dR:=dO Gi rB
theorem rw0:Gg rq0 Zg 0 := .new 1
theorem rw1:Gg K7 Gi 1:=rw0.apply rA
theorem rBe:rB'=rB:=by show iN K7.known 1 qo=iN Gi.known 1 qo; rw[rw1.s.known]
theorem rw2:Gg Zh O7 2:=by show Gg (iF K7 rB') (dO Gi rB) 2; rw[rBe]; exact rw1.apply rB
theorem rc1:fK Zg 1 BF=0:=by rw[jg (by decide)]; exact rw0.err rA (by kernel_rfl)
theorem rv1:eF Zg 1 BF=rA:=by unfold eF; rw[if_pos rc1]; rfl
theorem rg1:dn Zg 1 BF=false:=(CK (.inr ⟨by decide,by decide⟩)).1
theorem rc2:fK Gi 1 qo=0:=by rw[jg (by decide)]; show dA Gi rB=0; rw[<- rBe]; exact rw1.err rB' (by kernel_rfl)
theorem rv2:eF Gi 1 qo=rB:=by unfold eF; rw[if_pos rc2]; rfl
theorem rn1:Gi.gn=0:=rw1.s.gn.symm.trans (by kernel_rfl)
theorem rg2:dn Gi 1 qo=false:=(D7 (by unfold tL; rw[rn1]; decide)).1
theorem rs2:rB.seq=2:=by rw[<- rBe]; kernel_rfl
theorem ru1:wD Gi 1:=(wE (wD.new 1) rfl).1
theorem ru2:wD O7 1:=(wE ru1 rfl).1
theorem rd2:iR O7 1 qo:=AU ru1 (show dA Gi rB=0 from(jg (L:=Gi) (x:=qo) (by decide)).symm.trans rc2) rfl (.inl rfl) rfl rfl rfl rfl rfl
theorem ra2:dn O7 1 qo=true/\fU O7 1 qo=0:=AP ru2 rd2
theorem ra3:dn O7 1 IC=true/\fU O7 1 IC=14:=K6 ru2 rd2 rfl rfl rfl (by decide)
theorem rr2:kU Zh Lf=(bO (K7.R 0) 1 4).1:=by
 unfold kU
 rw[if_pos (show Zh.T.has Lf=true by kernel_rfl)]
 unfold yh
 rw[show Zh.idx Lf=0 by kernel_rfl,show Zh.R 0=(mU K7 (fun x=>bO x 1 4) (K7.T.path Lf)).R 0 by kernel_rfl]
 show(if K7.T.x 0∈K7.T.path Lf then(bO (K7.R 0) 1 4).1 else K7.R 0)=_
 rw[if_pos]
 rw[show K7.T.path Lf = [Lf] by kernel_rfl]
 exact List.mem_singleton.2 (by kernel_rfl)
theorem rl2:AB O7 Lf 1=6:=rw2.loc _ _ (by rw[rr2]; kernel_rfl)
end Rt
theorem Rt.kP{a b:Value}{y:Nat->Value}{x:dV}(hy : ∀ j,j<6->y j=dQ x j):(#[a,b,.agg (aA 6 y)]:Array Value) = #[a,b,.agg (aA 6 (dQ x))]:=by rw[Fx.gF hy]
theorem nQ(w:World)(f:gI w 0 0 8 wz) :
 Calls Tryd.prog 5 #[] w fun e w'=>e = .returned (.bool true)/\Below w.heap.size w w':=by
 have m:=f.lt (by omega)
 have k:1<=w.heap.size:=by omega
 refine Kent Tryd.func5 77 ?_
 refine ay<|av aF<|aD<|ay<|jy (SS 1 (by omega) _) ?_
 rintro h w1 ⟨b,m0,c,hl1,hb1⟩
 refine⟨_,c,?_⟩
 clear c
 have v:=hl1.weak (Below.refl w.heap.size w).size
 have p:=aR hb1 (Below.refl w.heap.size w)
 refine av (.tuple #[(pt b),au 0])<|av ((pt b))<|av (au 0)<|av ((pt b))<|av (au 0)<|aD<|Ws<|ay<|av (au 0)<|Lv aF (kW rfl)<|av aF<|av ((pt b))<|Lv aF (Fx.jF rfl rfl rfl (by kernel_rfl))<|av aF<|aD<|aK<|Wk<|sN<|ay<|av ((pt b))<|av (.agg (aA 6 (bC (bC (fun a=>if a<1 then .int .u8 (0)else if a<2 then aC 0 else if a<4 then au 0 else aC 0) 0 1 (fun _ => .int .u8 (1))) 3 1 (fun _=>au 10))))<|jy (jf (FY b w.heap.size 0 m0 ((oK 1 0).core) _ v k (f.below p m) (by omega) 1 (by omega) BF Rl) (kP (fun j d=>by rcases j with _|_|_|_|_|_|j <;> first|rfl|omega))) (ax := #[(pt b),au 1,.agg (aA 6 (bC (bC (fun a=>if a<1 then .int .u8 (0)else if a<2 then aC 0 else if a<4 then au 0 else aC 0) 0 1 (fun _ => .int .u8 (1))) 3 1 (fun _=>au 10)))]) ?_
 rintro h w2 ⟨Zi,c,hq1,hc1⟩
 rw[(lH (L:=(oK 1 0).core) rg1).2.2,show eF (oK 1 0).core 1 BF=rA from rv1,show dO (oK 1 0).core rA=Gi from rfl]at hq1
 refine⟨.tuple #[.agg (aA 14 (dz rA)),au 0],by rw[c,(lH (L:=(oK 1 0).core) rg1).1,show eF (oK 1 0).core 1 BF=rA from rv1,(lH (L:=(oK 1 0).core) rg1).2.1,show fK (oK 1 0).core 1 BF=0 from rc1],?_⟩
 clear c
 have aeu:=v.q.typed hc1
 have WJ:=v.q.qm hc1 p.size
 have U:=DZ p WJ (Nat.le_refl _)
 refine av (.tuple #[.agg (aA 14 (dz rA)),au 0])<|av (.agg (aA 14 (dz rA)))<|av (au 0)<|lM 14 (fun a=>if a<1 then au 0 else if a<8 then aC 0 else if a<9 then .int .u8 (0)else if a<10 then aC 0 else if a<12 then au 0 else aC 0) fun g1 w3 nk x s2 z1 => ?_
 have⟨m2,V⟩:=iA s2.old hq1 U
 have wF:=gM nk U.size
 have wQ:=x.lt
 refine eX x 0 (h1:=(jc _)) fun w4 m3 s3 z2 => ?_
 have m4:aL w4 g1 14 (dz rA) 33:=aM m3
 have iq:=gG s3 x.ty
 have m5:=kJ iq m2
 have W:=s3.below V V.size (by omega)
 refine av (au 0)<|aD<|ay<|av (.agg (aA 6 (bC (bC (bC (bC (fun a=>if a<1 then .int .u8 (0)else if a<2 then aC 0 else if a<4 then au 0 else aC 0) 0 1 (fun _ => .int .u8 (3))) 1 1 (fun _=>aC 1099511627777)) 3 1 (fun _=>au 4)) 4 1 (fun _=>aC 1))))<|lM 6 (fun a=>if a<1 then .int .u8 (0)else if a<2 then aC 0 else if a<4 then au 0 else aC 0) fun i w5 uW N s4 z3 => ?_
 have⟨m7,m8,Z⟩:=jI s4.old m5 m4 W
 have yH:=gM uW W.size
 have Za:=bR uW m4.lt
 have Ba:=N.lt
 refine eX N 0 (h1:=(aY (aY (aY (aY (fun jq _=>by show((fun a=>if a<1 then .int .u8 (0)else if a<2 then aC 0 else if a<4 then au 0 else aC 0:Nat->Value) jq).oneCell'=true; simp only[]; repeat (first|rfl|split)) (fun _ _=>rfl)) (fun _ _=>rfl)) (fun _ _=>rfl)) (fun _ _=>rfl))) fun w6 m9 s5 z4 => ?_
 have m10:aL w6 i 6 (bC (bC (bC (bC (fun a=>if a<1 then .int .u8 (0)else if a<2 then aC 0 else if a<4 then au 0 else aC 0) 0 1 (fun _ => .int .u8 (3))) 1 1 (fun _=>aC 1099511627777)) 3 1 (fun _=>au 4)) 4 1 (fun _=>aC 1)) 37:=aM m9
 have m11:aL w6 i 6 (dQ qo) 37:=m10.congr (fun j d=>by rcases j with _|_|_|_|_|_|j <;> first|rfl|omega)
 have kX:=gG s5 N.ty
 have⟨y,m13⟩:=Es kX m7 m8
 have s:=s5.below Z Z.size (by omega)
 refine aD<|ay<|av ((pt b))<|Lv (.agg (aA 6 (dQ qo))) (gW m11.aJ 0)<|jy (jf (FY b w.heap.size (0+1) Zi Gi _ y k (f.below s m) (by omega) 1 (by omega) qo JY) (kP (fun j d=>by rcases j with _|_|_|_|_|_|j <;> first|rfl|omega))) (ax := #[(pt b),au 1,.agg (aA 6 (dQ qo))]) ?_
 rintro h w7 ⟨Xl,c,hq2,hc2⟩
 rw[(lH rg2).2.2,rv2,show dO Gi rB=O7 from rfl]at hq2
 refine⟨.tuple #[.agg (aA 14 (dz rB)),au 0],by rw[c,(lH rg2).1,rv2,(lH rg2).2.1,rc2],?_⟩
 clear c
 have O8:=y.q.typed hc2
 have hbw2:=y.q.qm hc2 s.size
 have b7:=DZ s hbw2 (Nat.le_refl _)
 have z:=m13.sH O8 (by decide)
 have aev:=z.lt
 have A:=m11.sH O8 (by decide)
 have akh:=A.lt
 refine av (.tuple #[.agg (aA 14 (dz rB)),au 0])<|av (.agg (aA 14 (dz rB)))<|av (au 0)<|lM 14 (fun a=>if a<1 then au 0 else if a<8 then aC 0 else if a<9 then .int .u8 (0)else if a<10 then aC 0 else if a<12 then au 0 else aC 0) fun g3 w8 Ak B s6 z5 => ?_
 have⟨m17,m18,m19,b8⟩:=iH s6.old z A hq2 b7
 have EB:=gM Ak b7.size
 have⟨VD,WK⟩:=ow Ak z.lt A.lt
 have Ga:=B.lt
 refine eX B 0 (h1:=(jc _)) fun w9 m20 O z6 => ?_
 have m21:aL w9 g3 14 (dz rB) 33:=aM m20
 have m22:=m17.eG O (by omega)
 have wR:=gG O B.ty
 have⟨m23,C⟩:=Es wR m18 m19
 have t:=O.below b8 b8.size (by omega)
 refine av (au 0)<|aD<|ay<|av ((pt b))<|Lv (.agg (aA 6 (dQ qo))) (gW m23.aJ 0)<|jy (jf (FY b w.heap.size (0+1+1) Xl O7 _ C k (f.below t m) (by omega) 1 (by omega) qo JY) (kP (fun j d=>by rcases j with _|_|_|_|_|_|j <;> first|rfl|omega))) (ax := #[(pt b),au 1,.agg (aA 6 (dQ qo))]) ?_
 rintro h zR ⟨mm3,c,hq3,hc3⟩
 rw[(nP ra2.1).2.2]at hq3
 refine⟨.tuple #[.agg (aA 14 (dz zeroE)),au 0],by rw[c,(nP ra2.1).1,(nP ra2.1).2.1,ra2.2],?_⟩
 clear c
 have u:=C.q.typed hc3
 have WL:=C.q.qm hc3 t.size
 have P:=DZ t WL (Nat.le_refl _)
 have D:=m22.sH u (by decide)
 have aki:=D.lt
 have E:=m23.sH u (by decide)
 have akj:=E.lt
 have F:=m21.sH u (by decide)
 have akk:=F.lt
 refine av (.tuple #[.agg (aA 14 (dz zeroE)),au 0])<|av (.agg (aA 14 (dz zeroE)))<|av (au 0)<|lM 14 (fun a=>if a<1 then au 0 else if a<8 then aC 0 else if a<9 then .int .u8 (0)else if a<10 then aC 0 else if a<12 then au 0 else aC 0) fun g4 Kn Bj G s8 z7 => ?_
 have⟨qZ,tH,lJ,m32,Q⟩:=lV s8.old D E F hq3 P
 have KN:=gM Bj P.size
 have⟨aex,aey,aez⟩:=Bf Bj D.lt E.lt F.lt
 have Js:=G.lt
 refine eX G 0 (h1:=(jc _)) fun La oD o z8 => ?_
 have nI:aL La g4 14 (dz zeroE) 33:=aM oD
 have qM:=qZ.eG o (by omega)
 have Bn:=gG o G.ty
 have pV:=kJ Bn tH
 have uD:=lJ.eG o (by omega)
 have qF:=kJ Bn m32
 have R:=o.below Q Q.size (by omega)
 refine av (au 0)<|aD<|ay<|av ((pf i 3))<|mZ pV 3 (au 5) fun Sc sM s10 z9 => ?_
 have ug:aL Sc i 6 (dQ IC) 37:=sM.congr (fun j d=>by rcases j with _|_|_|_|_|_|j <;> first|rfl|omega)
 have GD:=gG s10 pV.ty
 have⟨pW,uE,H,ru⟩:=Gt GD qM uD qF nI
 have r:=s10.below R R.size (by omega)
 refine aD<|ay<|av ((pt b))<|Lv (.agg (aA 6 (dQ IC))) (gW ug.aJ 0)<|jy (jf (FY b w.heap.size (0+1+1+1) mm3 O7 _ H k (f.below r m) (by omega) 1 (by omega) IC Rq) (kP (fun j d=>by rcases j with _|_|_|_|_|_|j <;> first|rfl|omega))) (ax := #[(pt b),au 1,.agg (aA 6 (dQ IC))]) ?_
 rintro h Uo ⟨mm4,c,hq4,hc4⟩
 rw[(nP ra3.1).2.2]at hq4
 refine⟨.tuple #[.agg (aA 14 (dz zeroE)),au 14],by rw[c,(nP ra3.1).1,(nP ra3.1).2.1,ra3.2],?_⟩
 clear c
 have l:=H.q.typed hc4
 have WO:=H.q.qm hc4 r.size
 have S:=DZ r WO (Nat.le_refl _)
 have I:=pW.sH l (by decide)
 have akl:=I.lt
 have J:=uE.sH l (by decide)
 have akm:=J.lt
 have K:=ru.sH l (by decide)
 have akn:=K.lt
 have zS:=ug.sH l (by decide)
 have ako:=zS.lt
 refine av (.tuple #[.agg (aA 14 (dz zeroE)),au 14])<|av (.agg (aA 14 (dz zeroE)))<|av (au 14)<|lM 14 (fun a=>if a<1 then au 0 else if a<8 then aC 0 else if a<9 then .int .u8 (0)else if a<10 then aC 0 else if a<12 then au 0 else aC 0) fun g5 W9 QF M s11 ZV => ?_
 have⟨uh,vI,wG,Bo,T⟩:=lV s11.old I J K hq4 S
 have VK:=gM QF S.size
 have⟨VN,VO,VP,VQ⟩:=Ke QF I.lt J.lt K.lt zS.lt
 have YQ:=M.lt
 refine eX M 0 (h1:=(jc _)) fun w16 wH g ZX => ?_
 have vK:aL w16 g5 14 (dz zeroE) 33:=aM wH
 have sP:=uh.eG g (by omega)
 have wI:=vI.eG g (by omega)
 have xS:=wG.eG g (by omega)
 have EH:=gG g M.ty
 have uV:=kJ EH Bo
 have b16:=g.below T T.size (by omega)
 refine av (au 14)<|aD<|ay<|av (au 0)<|Lv aG (gH rfl)<|av aG<|av (au 0)<|Lv aG (gH rfl)<|av aG<|av aG<|av ((pf g3 1))<|Lv (aC ((rB:EvM).seq)) (aP wI.aJ 1)<|Lv aG (gH rs2)<|av aG<|av aG<|av (au 0)<|Lv aG (gH rfl)<|av aG<|av aG<|Lv (.agg (aA 14 (dz zeroE))) (gW xS.aJ 0)<|av (.agg (aA 14 (fun a=>if a<1 then au 0 else if a<8 then aC 0 else if a<9 then .int .u8 (0)else if a<10 then aC 0 else if a<12 then au 0 else aC 0)))<|Lv aG (Fx.wK (n:=14) (ks := [(some .i64),(some .u64),(some .u64),(some .u64),(some .u64),(some .u64),(some .u64),(some .u64),(some .u8),(some .u64),(some .i64),(some .i64),(some .u64),(some .u64)]) (X:=dz zeroE) (Y:=fun a=>if a<1 then au 0 else if a<8 then aC 0 else if a<9 then .int .u8 (0)else if a<10 then aC 0 else if a<12 then au 0 else aC 0) 12 true rfl rfl rfl (Fx.zA (fun j d=>by rcases j with _|_|_|_|_|_|_|_|_|_|_|_|_|_|j <;> first|rfl|omega)) (nJ jE) (qg (nJ jE) (fun j d=>by rcases j with _|_|_|_|_|_|_|_|_|_|_|_|_|_|j <;> first|rfl|omega)) rfl (by kernel_rfl) (by kernel_rfl) (by kernel_rfl) (by kernel_rfl) (by kernel_rfl))<|av aG<|av aG<|av (au 14)<|Lv aG (gH rfl)<|av aG ?_
 refine av aG<|av ((pt b))<|fB (Rc uV 1 1099511627777 (by omega)) _ rfl ?_
 intro X8 hb2
 have b17:=aR hb2 b16
 refine Lv aG (gH rl2)<|av aG<|av aG<|aD<|Wr<|aN aG ?_
 exact⟨rfl,b17⟩
end Go.Proofs.YtcbedgfikejkoaaDoor
namespace Go.Proofs.YtcbedgfikejkoaaDoor
open Go.RowKit Go
set_option linter.unusedVariables false
set_option maxRecDepth 20000
namespace Rt
section
variable {L:dR} {i:Int} {x y z:dV}
theorem CO(h:wD L i):wD (Eh L i x) i/\(∀ w,iR L i w->iR (Eh L i x) i w):=by
 cases hb:dn L i x with
 | true=>rw[(nP hb).2.2]; exact⟨h,fun _ q=>q⟩
 | false =>
   by_cases c:fK L i x=0
   ·rw[(lH hb).2.2,(tu c).2.1]; exact wE h rfl
   ·rw[(AV hb c).2.2]; exact⟨h,fun _ q=>q⟩
theorem J3(h:wD L i)(d:J2 L i x=0)(f : ¬ Ef L i x=zeroE)(e:x.kind=3\/x.kind=4):iR (Eh L i x) i x:=by
 cases hb:dn L i x with
 | true=>exact absurd (nP hb).1 f
 | false =>
   have c:fK L i x=0:=by rw[<- (lH hb).2.1]; exact d
   obtain⟨_,b,a⟩:=tu c
   rw[(lH hb).2.2]
   rw[b]at a ⊢
   exact AU h a rfl e rfl rfl rfl rfl rfl
theorem Ru(h:wD L i)(f:iR L i y):Ef L i y=zeroE/\J2 L i y=0/\Eh L i y=L:=by
 obtain⟨a,b⟩:=AP h f
 obtain⟨c,d,e⟩:=nP a
 exact⟨c,d.trans b,e⟩
theorem Rv(h:wD L i)(f:iR L i y)(g:z.kind=y.kind)(hr:z.req=y.req)(ha:z.bH≠y.bH)(j:z.of≠y.of):Ef L i z=zeroE/\J2 L i z=14/\Eh L i z=L:=by
 obtain⟨a,b⟩:=Iy h f g hr ha j
 obtain⟨c,d,e⟩:=nP a
 exact⟨c,d.trans b,e⟩
theorem O9{P:dV->Prop}{l:List dV}(h : ∀ y∈l,P y)(hx:P x) : ∀ y∈l ++ [x],P y:=fun y a=>by
 rcases List.mem_append.1 a with q|q
 ·exact h y q
 ·rw[List.mem_singleton.1 q]; exact hx
theorem Pb{l:List dV}{k:Nat}(h:k<l.length):l.getD k lD∈l:=by
 rw[List.getD_eq_getElem?_getD,List.getElem?_eq_getElem h]; exact List.getElem_mem h
theorem WQ(a:EP L.known)(hx:jD x):jR (Ef L i x):=by
 cases hb:dn L i x with
 | true=>rw[(nP hb).1]; exact jE
 | false =>
   by_cases c:fK L i x=0
   ·rw[(lH hb).1,(tu c).2.1]; exact Iw a hx (tu c).1
   ·rw[(AV hb c).1]; exact jE
def bump(y:dV):dV := { y with bH:=IntKind.i64.wrap (y.bH+1),of:=IntKind.u64.wrap (y.of+1) }
theorem w64(n:Int) : -9223372036854775808<=IntKind.i64.wrap n/\IntKind.i64.wrap n<=9223372036854775807:=by
 simp only[IntKind.wrap,IntKind.bits,IntKind.signed]; simp; omega
theorem wu64(n:Int):0<=IntKind.u64.wrap n/\IntKind.u64.wrap n<=18446744073709551615:=by
 simp only[IntKind.wrap,IntKind.bits,IntKind.signed]; simp; omega
theorem WR{n:Int}(h:nV n):IntKind.i64.wrap (n+1)≠n:=by
 unfold nV at h
 simp only[IntKind.wrap,IntKind.bits,IntKind.signed]; simp; omega
theorem Rw{n:Int}(h:gN n):IntKind.u64.wrap (n+1)≠n:=by
 unfold gN at h
 simp only[IntKind.wrap,IntKind.bits,IntKind.signed]; simp; omega
theorem Rx(h:jD y):jD (bump y):=⟨h.kind,h.node,h.dst,w64 _,h.req,wu64 _⟩
theorem Ry(h:wD L i)(b:iR L i y)(a:jD y):Ef L i (bump y)=zeroE/\J2 L i (bump y)=14/\Eh L i (bump y)=L:=Rv h b rfl rfl (WR a.bH) (Rw a.of)
def qI:dV:=⟨1,0,0,1000,0,0⟩
theorem Rz:jD qI:=⟨⟨by decide,by decide⟩,⟨by decide,by decide⟩,⟨by decide,by decide⟩,⟨by decide,by decide⟩,⟨by decide,by decide⟩,⟨by decide,by decide⟩⟩
noncomputable def rX:Nat->dR
 | 0=>(oK 1 0).core
 | k+1=>dO (rX k) (iN (rX k).known 1 qI)
noncomputable def rQ:Nat->dG
 | 0=>tK 1 0 0 0 0 0 0
 | k+1=>iF (rQ k) (iN (rQ k).known 1 qI)
theorem rT : ∀ k,Gg (rQ k) (rX k) k
 | 0 => .new 1
 | k+1=>by
   have h:=rT k
   show Gg (iF (rQ k) (iN (rQ k).known 1 qI)) (dO (rX k) (iN (rX k).known 1 qI)) (k+1)
   rw[h.s.known]; exact h.apply _
theorem aeA : ∀ k,k<2->fK (rX k) 1 qI=0:=fun k a=>by
 rw[jg (by decide)]
 have h:=rT k
 rw[<- h.s.known]
 rcases k with _|_|k
 ·exact h.err _ (by kernel_rfl)
 ·exact h.err _ (by kernel_rfl)
 ·omega
theorem Zj{k:Nat}(b:k<2):Ef (rX k) 1 qI=iN (rX k).known 1 qI/\J2 (rX k) 1 qI=0/\Eh (rX k) 1 qI=rX (k+1):=by
 have a:dn (rX k) 1 qI=false:=(CK (.inr ⟨by decide,by decide⟩)).1
 have c:=aeA k b
 have e:eF (rX k) 1 qI=iN (rX k).known 1 qI:=(tu c).2.1
 exact⟨(lH a).1.trans e,(lH a).2.1.trans c,by rw[(lH a).2.2,e]; rfl⟩
theorem SY : ∀ k,wD (rX k) 1
 | 0=>wD.new 1
 | k+1=>(wE (SY k) rfl).1
end
end Rt
end Go.Proofs.YtcbedgfikejkoaaDoor
namespace Go.Proofs.YtcbedgfikejkoaaDoor
open Go.RowKit Rt
open Fx (eU dJ fu bf fq eZ dS dM fA gQ dH gT eP gD gU Lv sN Ln Ws Qv Wl Rp Wc Qs Wr Sb Lk Wk rC rV sR Rs Rn Rd Rk Wb Wx Wo yT Wt pE Aq Qn AX uo xL yB xJ AZ AY gG yR jM nT tC A8 yA yP xQ yQ rv aA aL bC aI ev bT Stp bU aM flat fH Mp dL aV fC gI aX down fM iU iM ji jv bG bA cells_one jO aY nE unseen jk iT cu bW cB bY bZ iB iG qP gV)
set_option maxRecDepth 20000
set_option linter.unusedVariables false
set_option maxRecDepth 10000 in
theorem CP(g B N:Nat)(m:dG)(L:dR)(w:World)(h:qB w B g m L N)(hB:1<=B)(R:gI w 0 0 8 wz)(hN:N<=800000)(hU:wD L 1)(x:dV)(hd:iR L 1 x)(hx:jD x) :
 Calls Tryd.prog 8 #[(pt g),.agg (aA 6 (dQ x))] w fun e w' => ∃ m',e = .returned (.bool true)/\qB w' B g m' L (N+1)/\iU (He m g w.heap.size) w w':=by
 have l0:=R.lt (by omega)
 have lq:=h.q.lt
 refine Kent Tryd.func8 29 ?_
 refine ay<|sG fun g1 w1 nk m1 s1 z1 => ?_
 have⟨m2,b1⟩:=iA s1.old h (Below.refl w.heap.size w)
 have wF:=gY nk
 have wQ:=m1.lt
 refine av aF<|aD<|ay<|av ((pt g))<|jy (wC m2 (by omega)) ?_
 rintro O w2 ⟨ss1,l,Z,hb1⟩
 obtain⟨s,t,o,p,z⟩ : ∃ a b c d,ss1=yw L a b c d:=⟨_,_,_,_,Z.e⟩
 subst z
 refine⟨_,l,?_⟩
 clear l
 have⟨m3,m4,H⟩:=jI hb1 m2 m1 b1
 refine lM 20 (fun f=>if f<12 then .bool false else if f<18 then aC 0 else .slice none 0 0) fun g2 w3 P F s3 z2 => ?_
 have⟨m6,m7,m8,I⟩:=iH s3.old m3 m4 Z H
 have yH:=gM P H.size
 have NJ:=bR P m4.lt
 have Ba:=F.lt
 refine eX F 0 (h1:=(fun j _=>Dr _ j)) fun w4 m9 s4 z3 => ?_
 have m10:aL w4 g2 20 (lZ (yw L s t o p)) 43:=aM m9
 have iq:=gG s4 F.ty
 have⟨m11,m12,m13⟩:=zI iq m6 m7 m8
 have u:=s4.below I I.size (by omega)
 refine aD<|ay<|av ((pt g))<|Lv (.agg (aA 6 (dQ x))) (gW m12.aJ 0)<|jy (FY g B N m L _ m11 hB (R.below u l0) (by omega) 1 (by omega) x hx) ?_
 rintro O w5 ⟨Zi,l,W,V⟩
 obtain⟨d1,d2,d3⟩:=Ru hU hd
 rw[d3]at W
 refine⟨.tuple #[.agg (aA 14 (dz zeroE)),au 0],by rw[l,d1,d2],?_⟩
 clear l
 have C:=m11.q.typed V
 have A:iU (He m g w.heap.size) w w5:=Fx.iU.trans _ _ _ (Fx.iU.of_below u) (V.mono fun k hk=>hk.imp id (Nat.le_trans u.size))
 have m14:=m12.sH C (by decide)
 have aev:=m14.lt
 have m15:=m13.sH C (by decide)
 have D:=m10.sH C (by decide)
 have akq:=D.lt
 refine av (.tuple #[.agg (aA 14 (dz zeroE)),au 0])<|av (.agg (aA 14 (dz zeroE)))<|av (au 0)<|lM 14 (fun f=>if f<1 then au 0 else if f<8 then aC 0 else if f<9 then .int .u8 (0)else if f<10 then aC 0 else if f<12 then au 0 else aC 0) fun g3 w6 Q E s5 z4 => ?_
 have⟨m19,m20,m21⟩:=jI s5.old m15 D W
 have b5:=A.then s5 (.inr A.size)
 have EB:=gM Q A.size
 have⟨WK,VE⟩:=ow Q m14.lt D.lt
 have Ga:=E.lt
 refine eX E 0 (h1:=(jc _)) fun G m22 s6 z5 => ?_
 have m23:aL G g3 14 (dz zeroE) 33:=aM m22
 have kX:=gG s6 E.ty
 have⟨qK,qL,qx⟩:=zI kX m19 m20 m21
 have J:=b5.then s6 (.inr EB)
 refine av (au 0)<|aD<|Ws ?_
 -- region 3 draws
 refine jS [0,1,2,4,3,5,6,7,9,8,10,11,12,13] [0,0,0,4,0,0,0,0,1,0,2,2,0,0] [(10,3,[7,6,5,3]),(11,3,[7,6,5,3]),(11,10,[10]),(12,10,[11,10]),(13,10,[10]),(12,11,[11]),(13,11,[11])] fun qY U iC => ?_
 have s7:Stp G.heap.size G qY:=Sb U
 have⟨qZ,tH,lJ,m32⟩:=iH U qK qL qx m23
 have K:=J.then s7 (.inr J.size)
 refine aU (au 0)<|Rp aG (fun _=>gH rfl)<|aU aG<|aU (.agg (aA 14 (fun f=>if f<1 then au 0 else if f<8 then aC 0 else if f<9 then .int .u8 (0)else if f<10 then aC 0 else if f<12 then au 0 else aC 0)))<|Rs (.agg (aA 14 (dz zeroE))) (gW m32.aJ 0) ?_
 refine Rp aG (fun v1=>Fx.wK (n:=14) (ks := [(some .i64),(some .u64),(some .u64),(some .u64),(some .u64),(some .u64),(some .u64),(some .u64),(some .u8),(some .u64),(some .i64),(some .i64),(some .u64),(some .u64)]) (X:=dz zeroE) (Y:=fun f=>if f<1 then au 0 else if f<8 then aC 0 else if f<9 then .int .u8 (0)else if f<10 then aC 0 else if f<12 then au 0 else aC 0) 12 true rfl rfl rfl (Fx.zA (fun j hj=>by rcases j with _|_|_|_|_|_|_|_|_|_|_|_|_|_|j <;> first|rfl|omega)) (nJ jE) (qg (nJ jE) (fun j hj=>by rcases j with _|_|_|_|_|_|_|_|_|_|_|_|_|_|j <;> first|rfl|omega)) rfl (by kernel_rfl) (by kernel_rfl) (by kernel_rfl) (by kernel_rfl) (by kernel_rfl))<|aU aG<|aU aG<|aU ((pt g))<|Rd (v := .agg (aA 20 (lZ (yw L s t o p)))) (by rfl) (by rfl) (nT _) (fun v1 hv1=>dH (x:=lZ (yw L s t o p)) (y:=lZ (yw L s t o p)) rfl rfl (by kernel_rfl) (by kernel_rfl) (tH.aJ.below hv1 (by have:=tH.lt; omega)) (i:=0) (by omega) (by omega) (fun j _=>by rw[Nat.zero_add])) ?_
 refine zG<|jy (wC lJ (by omega)) ?_
 rintro O w8 ⟨ss2,l,aa,S⟩
 obtain⟨yna,ync,yga,ygc,z⟩ : ∃ a b c d,ss2=yw L a b c d:=⟨_,_,_,_,aa.e⟩
 subst z
 refine⟨_,l,?_⟩
 clear l
 have s8:=Sb S
 have⟨nI,pV⟩:=iA S qZ lJ
 have M:=K.then s8 (.inr K.size)
 refine Ln ⟨s8.old,?_⟩
 refine zG<|fB (JV (L:=L) nI.r aa.r (pV.wf (by omega))) _ rfl ?_
 intro w9 T
 have s9:=Sb T
 have pW:=aR T pV
 have b9:=M.then s9 (.inr M.size)
 refine Ln ⟨s9.old,?_⟩
 refine aU aG<|aU aG<|bF<|Wr<|aN aG ?_
 exact⟨Zi,rfl,pW,b9⟩
set_option maxRecDepth 20000
set_option linter.unusedVariables false
theorem Rt.Pf{y:dV}{v:Int}(h:jD y)(a:gN v):jD { y with node:=v } := { h with node:=a }
theorem Rt.Zk{z y:Nat->Value}(hy : ∀ j,j<6->(y j).oneCell'=true) : ∀ j,j<1*6->(bC z (0*6) 6 y j).oneCell'=true:=fun j a=>by
 unfold bC; rw[if_pos (by omega)]; exact hy _ (by omega)
set_option maxRecDepth 20000 in
set_option maxHeartbeats 1000000 in
theorem K8(la WS WT:Option Addr)(D cl J cp K cx:Nat)(V:Nat->dV)(pq oq:Nat->Nat)(w:World)(hxs : ∀ k,k<D->jD (V k))(hl:jv w la D 6 (flat 6 fun k=>dQ (V k)))(hpq : ∀ k,k<J->pq k<=255)(hp:jv w WS J 1 (fun q => .int .u8 (pq q:Int)))(hoq : ∀ k,k<K->oq k<=255)(ho:jv w WT K 1 (fun q => .int .u8 (oq q:Int)))(R:gI w 0 0 8 wz) :
 Calls Tryd.prog 3 #[.slice la (D) (cl),.slice WS (J) (cp),.slice WT (K) (cx)] w fun e w'=>e = .returned (.bool true)/\Below w.heap.size w w':=by
 have U:=R.lt (by omega)
 have hB:1<=w.heap.size:=by omega
 refine Kent Tryd.func3 183 ?_
 refine ay<|av aF<|aD<|Ws<|ay<|av (.slice la (D) (cl))<|av (au D) ?_
 by_cases c25:60<(D:Int)
 ·refine Lv aG (vo c25)<|av aG<|cO<|cO<|cO<|av aG<|av aG<|cO<|cO<|cO<|av aG<|aD<|aQ<|ay<|fB (nQ _ (R.below (Below.refl w.heap.size w) U)) _ rfl ?_
  intro w1 hb1
  have b1:=aR hb1 (Below.refl w.heap.size w)
  refine av aG<|aD<|Wr<|sR<|aN aG ?_
  exact⟨rfl,b1⟩
 refine Lv aF (vv c25)<|av aF<|av (.slice WS (J) (cp))<|av (au J) ?_
 by_cases Yc:60<(J:Int)
 ·refine Lv aG (vo Yc)<|av aG<|av aG<|cO<|cO<|cO<|av aG<|aD<|aQ<|ay<|fB (nQ _ (R.below (Below.refl w.heap.size w) U)) _ rfl ?_
  intro w2 hb2
  have b2:=aR hb2 (Below.refl w.heap.size w)
  refine av aG<|aD<|Wr<|sR<|aN aG ?_
  exact⟨rfl,b2⟩
 refine Lv aF (vv Yc)<|av aF<|av aF<|av (.slice WT (K) (cx))<|av (au K) ?_
 by_cases c34:60<(K:Int)
 ·refine Lv aG (vo c34)<|av aG<|aD<|aQ<|ay<|fB (nQ _ (R.below (Below.refl w.heap.size w) U)) _ rfl ?_
  intro w3 hb3
  have b3:=aR hb3 (Below.refl w.heap.size w)
  refine av aG<|aD<|Wr<|sR<|aN aG ?_
  exact⟨rfl,b3⟩
 refine Lv aF (vv c34)<|av aF<|aD<|aK<|Wk<|sN<|Ws ?_
 have hnl:D<=60:=by omega
 refine Wl<|jy (SS 1 (by omega) _) ?_
 rintro e9 w4 ⟨u,m0,t,hl1,hb4⟩
 refine⟨_,t,?_⟩
 clear t
 have hl2:=hl1.weak (Below.refl w.heap.size w).size
 have b4:=aR hb4 (Below.refl w.heap.size w)
 refine av (.tuple #[(pt u),au 0])<|av ((pt u))<|av (au 0)<|av ((pt u))<|av (au 0)<|aD<|Ws<|ay<|av (au 0)<|Lv aF (kW rfl)<|av aF<|av ((pt u))<|Lv aF (Fx.jF rfl rfl rfl (by kernel_rfl))<|av aF<|aD<|aK<|Wk<|sN<|Ws<|ay<|av (au 0)<|aD<|Wb<|Wo (fun f E => ∃ k:Nat,∃ F:dG,k<=2/\f 0 = .slice la (D) (cl)/\f 1 = .slice WS (J) (cp)/\f 2 = .slice WT (K) (cx)/\f 7=(pt u)/\f 9=au ((k:Int))/\qB E w.heap.size u F (rX k) k/\Below w.heap.size w E) (fun f _=>(2-(intOf (f 9)).toNat)) ⟨0,m0,by omega,(by rfl),(by rfl),(by rfl),(by rfl),Fx.ic,hl2,b4⟩ ?_
 rintro f1 w5 ⟨k,F,hk,h1,h2,h3,h4,h5,m1,b5⟩
 refine Ws<|ay<|aS h5 ?_
 by_cases R8:(k:Int)<2
 ·refine Lv aG (jU R8)<|aD<|aQ<|Wk<|sN<|Ws<|Wb<|ay<|aS h4<|av (.agg (aA 6 (bC (bC (fun g=>if g<1 then .int .u8 (0)else if g<2 then aC 0 else if g<4 then au 0 else aC 0) 0 1 (fun _ => .int .u8 (1))) 3 1 (fun _=>au 1000))))<|jy (jf (FY u w.heap.size k F (rX k) _ m1 hB (R.below b5 U) (by omega) 1 (by omega) qI Rz) (kP (fun j C=>by rcases j with _|_|_|_|_|_|j <;> first|rfl|omega))) (ax := #[(pt u),au 1,.agg (aA 6 (bC (bC (fun g=>if g<1 then .int .u8 (0)else if g<2 then aC 0 else if g<4 then au 0 else aC 0) 0 1 (fun _ => .int .u8 (1))) 3 1 (fun _=>au 1000)))]) ?_
  rintro e9 w6 ⟨Zi,t,hq1,hc1⟩
  obtain⟨hd1,hd2,hd3⟩:=(Zj (show k<2 by omega))
  rw[hd3]at hq1
  refine⟨.tuple #[.agg (aA 14 (dz (iN (rX k).known 1 qI))),au 0],by rw[t,hd1,hd2],?_⟩
  clear t
  have aeu:=m1.q.typed hc1
  have WJ:=m1.q.qm hc1 b5.size
  have b6:=DZ b5 WJ (Nat.le_refl _)
  refine av (.tuple #[.agg (aA 14 (dz (iN (rX k).known 1 qI))),au 0])<|av (.agg (aA 14 (dz (iN (rX k).known 1 qI))))<|av (au 0)<|lM 14 (fun g=>if g<1 then au 0 else if g<8 then aC 0 else if g<9 then .int .u8 (0)else if g<10 then aC 0 else if g<12 then au 0 else aC 0) fun g1 w7 nk m2 s5 z1 => ?_
  have⟨m3,b7⟩:=iA s5.old hq1 b6
  have wF:=gM nk b6.size
  have wQ:=m2.lt
  refine eX m2 0 (h1:=(jc _)) fun w8 m4 s6 z2 => ?_
  have m5:aL w8 g1 14 (dz (iN (rX k).known 1 qI)) 33:=aM m4
  have iq:=gG s6 m2.ty
  have m6:=kJ iq m3
  have b8:=s6.below b7 b7.size (by omega)
  refine av (au 0)<|aD<|ay<|av (au 0)<|Lv aF (kW rfl)<|aD<|aK<|Wk<|cB<|sN<|Wl<|aS h5<|Lv (au ((k:Int)+1)) fZ<|av (au ((k:Int)+1))<|Ln<|iG ⟨k+1,Zi,by omega,h1,h2,h3,h4,Fx.ic,m6,b8⟩ ?_
  show(2-(intOf ((au ((k:Int)+1)))).toNat)<_
  simp only[h5,intOf]; omega
 refine Lv aF (jV R8)<|aD<|aK<|Wx<|bY<|iB<|bZ<|sN<|Ws ?_
 have ek:k=2:=by omega
 obtain⟨L0,hL0⟩ : ∃ q,q=rX k:=⟨_,rfl⟩
 have m7:qB w5 w.heap.size u F L0 2:=by have q9:=m1; rw[<- hL0]at q9; rw[ek]at q9; exact q9
 have hU0:wD L0 1:=by rw[hL0]; exact SY k
 refine Wl<|av (.slice none 0 0)<|aD<|Ws<|ay<|av (au 0)<|aD<|Wb ?_
 have m8:Fx.Own w5 w.heap.size 37 6 (.slice none 0 0) 0 (Iu []):=yA _ _ _ _ _
 refine Wo (fun f E => ∃ k:Nat,∃ F:dG,∃ o:dR,∃ M:Nat,∃ p:List dV,∃ n:Nat,∃ a:Option Addr,∃ z:Nat,k<=D/\wD o 1/\(∀ y∈p,iR o 1 y/\jD y)/\n=p.length/\n<=k/\M<=2+2*k/\f 0 = .slice la (D) (cl)/\f 1 = .slice WS (J) (cp)/\f 2 = .slice WT (K) (cx)/\f 7=(pt u)/\f 12 = .slice a (n) (z)/\f 13=au ((k:Int))/\qB E w.heap.size u F o M/\Fx.Own E w.heap.size 37 6 (.slice a (n) (z)) n (Iu p)/\Below w.heap.size w E) (fun f _=>(D-(intOf (f 13)).toNat)) ⟨0,F,L0,2,[],0,none,0,by omega,hU0,(fun _ h=>by cases h),rfl,by omega,by omega,h1,h2,h3,h4,(by rfl),Fx.ic,m7,m8,b5⟩ ?_
 rintro f2 w9 ⟨k,F,o,M,p,n,a,z,hk,S,O,T,hnk,hN9,h6,h7,h8,h9,h10,P,m9,m10,b9⟩
 refine Ws<|ay<|aS P<|aS h6<|av (au D) ?_
 by_cases c62:(k:Int)<(D:Int)
 ·refine Lv aG (jU c62)<|aD<|aQ<|Wk<|sN<|Ws<|Wb<|ay<|aS h6<|aS P ?_
  obtain⟨bq1,Y4,eq1,Zl⟩:=hl (by omega)
  have Zm:bq1<w.heap.size:=Zl.lt (by omega)
  have m11:=Zl.below b9 Zm
  have Y5:bq1<w9.heap.size:=m11.lt (by omega)
  refine Lv ((pf bq1 (6*k+Y4))) (dw 6 (hx:=(rfl.trans (congrArg (fun q=>Value.slice q (D) (cl)) eq1))))<|Lv (.agg (aA 6 (dQ (V k)))) (gW m11 (6*k) (fun jq hjq=>Fx.jG (k:=k) (by omega) hjq))<|lM 6 (fun g=>if g<1 then .int .u8 (0)else if g<2 then aC 0 else if g<4 then au 0 else aC 0) fun N zR uW m12 s7 z3 => ?_
  have⟨m13,m14,m15,b10⟩:=iH s7.old m9 m10 m11 b9
  have yH:=gM uW b9.size
  have og:(.slice a (n) (z):Value).ownBlock≠some N:=by rw[uW]; exact m10.uw (Nat.le_refl _)
  have uF:bq1≠N:=by rw[uW]; exact Nat.ne_of_lt (m11.lt (by omega))
  have Ba:=m12.lt
  refine eX m12 0 (h1:=(fun j _=>sF _ j)) fun Kn m16 s8 z4 => ?_
  have m17:aL Kn N 6 (dQ (V k)) 37:=aM m16
  have kX:=gG s8 m12.ty
  have m18:=kJ kX m13
  have m19:=m14.eG s8 og
  have m20:=m15.eG s8 (by omega)
  have b11:=s8.below b10 b10.size (by omega)
  refine aD<|Ws<|ay<|av ((pt N))<|Lv (.int .u8 ((V k).kind)) (aP m17.aJ 0) ?_
  by_cases c71:((V k).kind)=7
  ·refine Lv aG (gH c71)<|aD<|aQ<|Wx<|bY<|bZ<|sN<|Wl<|aS P<|Lv (au ((k:Int)+1)) fZ<|av (au ((k:Int)+1))<|Ln<|iG ⟨k+1,F,o,M,p,n,a,z,by omega,S,O,T,by omega,by omega,h6,h7,h8,h9,h10,Fx.ic,m18,m19,b11⟩ ?_
   show(D-(intOf ((au ((k:Int)+1)))).toNat)<_
   simp only[P,intOf]; omega
  refine Lv aF (iW c71)<|aD<|aK<|Wk<|sN<|xQ (fun f E => ∃ l:dV,jD l/\f 0 = .slice la (D) (cl)/\f 1 = .slice WS (J) (cp)/\f 2 = .slice WT (K) (cx)/\f 7=(pt u)/\f 12 = .slice a (n) (z)/\f 13=au ((k:Int))/\f 14=(pt N)/\qB E w.heap.size u F o M/\Fx.Own E w.heap.size 37 6 (.slice a (n) (z)) n (Iu p)/\aL E N 6 (dQ l) 37/\Below w.heap.size w E) ?_ ?_
  ·refine ay<|aS P<|aS h7<|av (au J) ?_
   by_cases c75:(k:Int)<(J:Int)
   ·refine Lv aG (jU c75)<|aD<|aQ ?_
    obtain⟨pr,epr⟩ : ∃ r,r=(pq k) % 2:=⟨_,rfl⟩
    have hpr:pr<2:=by rw[epr]; exact Nat.mod_lt _ (by omega)
    have hpk:=hpq k (by omega)
    refine Wl<|aS h7<|aS P ?_
    obtain⟨bq2,oq2,eq2,Zn⟩:=hp (by omega)
    have Zo:bq2<w.heap.size:=Zn.lt (by omega)
    have m21:=Zn.below b11 Zo
    have aeg:bq2<Kn.heap.size:=m21.lt (by omega)
    refine Lv ((pf bq2 (k+oq2))) (dw 1 (hx:=(rfl.trans (congrArg (fun q=>Value.slice q (J) (cp)) eq2))))<|Lv (.int .u8 ((pq k:Int))) (aP m21 k)<|Lv (.int .u8 ((pr:Int))) (Fx.RG rfl rfl rfl (by omega) (Zb epr))<|Lv (aC pr) (dS rfl rfl (by kernel_rfl) Tryd.underlying29 (jk (by omega) rfl))<|Lv (aC ((pr:Int)+1099511627777)) fZ<|av ((pf N 1))<|mZ m17 1 (aC ((pr:Int)+1099511627777)) fun La m22 s9 z5 => ?_
    have m23:aL La N 6 (dQ { (V k)with node:=(pr:Int)+1099511627777 }) 37:=m22.congr (fun j C=>by rcases j with _|_|_|_|_|_|j <;> first|rfl|omega)
    have wR:=gG s9 m17.ty
    have m24:=kJ wR m18
    have qK:=m19.eG s9 og
    have qL:=m21.eG s9 (by omega)
    have b12:=s9.below b11 b11.size (by omega)
    refine Ln ?_
    exact nE ⟨({ (V k)with node:=(pr:Int)+1099511627777 }),(Pf (hxs k (by omega)) ⟨by omega,by omega⟩),h6,h7,h8,h9,h10,(P.trans Fx.ic),(by rfl),m24,qK,m23,b12⟩
   refine Lv aF (jV c75)<|aD<|aK<|Wk ?_
   exact nE ⟨(V k),(hxs k (by omega)),h6,h7,h8,h9,h10,(P.trans Fx.ic),(by rfl),m18,m19,m17,b11⟩
  rintro f3 Sc ⟨l,hxk,h12,Km,GH,I9,h16,GI,h18,qx,uU,qZ,b13⟩
  refine Ws ?_
  have WU:wD (Eh o 1 l) 1:=(CO S).1
  have Zp:jR (Ef o 1 l):=WQ qx.i.kn hxk
  refine Wl<|aS I9<|Lv (.agg (aA 6 (dQ l))) (gW qZ.aJ 0 (ha:=h18))<|jy (jf (FY u w.heap.size M F o _ qx hB (R.below b13 U) (by omega) 1 (by omega) l hxk) (kP (fun j C=>by rcases j with _|_|_|_|_|_|j <;> first|rfl|omega))) (ax := #[(pt u),au 1,.agg (aA 6 (dQ l))]) ?_
  rintro e9 Uo ⟨Xl,t,hq2,hc2⟩
  refine⟨_,t,?_⟩
  clear t
  have O8:=qx.q.typed hc2
  have hbw2:=qx.q.qm hc2 b13.size
  have b14:=DZ b13 hbw2 (Nat.le_refl _)
  have tH:=uU.sH O8 (by decide)
  have lJ:=qZ.sH O8 (by decide)
  have akw:=lJ.lt
  refine av (.tuple #[.agg (aA 14 (dz (Ef o 1 l))),au (J2 o 1 l)])<|av (.agg (aA 14 (dz (Ef o 1 l))))<|av (au (J2 o 1 l))<|lM 14 (fun g=>if g<1 then au 0 else if g<8 then aC 0 else if g<9 then .int .u8 (0)else if g<10 then aC 0 else if g<12 then au 0 else aC 0) fun g3 W9 Ak m32 s10 z6 => ?_
  have⟨oD,nI,qM,b15⟩:=iH s10.old tH lJ hq2 b14
  have EB:=gM Ak b14.size
  have aeC:=bR Ak lJ.lt
  have Ga:=m32.lt
  refine eX m32 0 (h1:=(jc _)) fun w16 pV s11 z7 => ?_
  have uD:aL w16 g3 14 (dz (Ef o 1 l)) 33:=aM pV
  have Bn:=gG s11 m32.ty
  have⟨qF,W,ug⟩:=zI Bn oD nI qM
  have aa:=s11.below b15 b15.size (by omega)
  refine av (au (J2 o 1 l))<|aD<|xQ (fun f E => ∃ H:List dV,∃ A:Nat,∃ Z:Option Addr,∃ G:Nat,(∀ y∈H,iR (Eh o 1 l) 1 y/\jD y)/\A=H.length/\A<=k+1/\f 0 = .slice la (D) (cl)/\f 1 = .slice WS (J) (cp)/\f 2 = .slice WT (K) (cx)/\f 7=(pt u)/\f 13=au ((k:Int))/\f 12 = .slice Z (A) (G)/\qB E w.heap.size u Xl (Eh o 1 l) (M+1)/\Fx.Own E w.heap.size 37 6 (.slice Z (A) (G)) A (Iu H)/\Below w.heap.size w E) ?_ ?_
  ·refine ay<|av (au (J2 o 1 l)) ?_
   by_cases c91:(J2 o 1 l)=0
   ·refine Lv aG (gH c91)<|av aG<|Lv (.agg (aA 14 (dz (Ef o 1 l)))) (gW uD.aJ 0)<|av (.agg (aA 14 (fun g=>if g<1 then au 0 else if g<8 then aC 0 else if g<9 then .int .u8 (0)else if g<10 then aC 0 else if g<12 then au 0 else aC 0))) ?_
    by_cases c95 : ∀ i,i<14->(dz (Ef o 1 l)) i=(fun g=>if g<1 then au 0 else if g<8 then aC 0 else if g<9 then .int .u8 (0)else if g<10 then aC 0 else if g<12 then au 0 else aC 0) i
    ·refine Lv aF (Fx.qQ (n:=14) (ks := [(some .i64),(some .u64),(some .u64),(some .u64),(some .u64),(some .u64),(some .u64),(some .u64),(some .u8),(some .u64),(some .i64),(some .i64),(some .u64),(some .u64)]) (X:=dz (Ef o 1 l)) (Y:=fun g=>if g<1 then au 0 else if g<8 then aC 0 else if g<9 then .int .u8 (0)else if g<10 then aC 0 else if g<12 then au 0 else aC 0) 12 true rfl rfl rfl (Fx.zA c95) (nJ Zp) (qg (nJ jE) (fun j C=>by rcases j with _|_|_|_|_|_|_|_|_|_|_|_|_|_|j <;> first|rfl|omega)) rfl (by kernel_rfl) (by kernel_rfl) (by kernel_rfl) (by kernel_rfl) (by kernel_rfl))<|av aF<|av aF<|cO<|cO<|cO<|cO<|cO<|cO<|cO<|cO<|av aF<|aD<|aK<|Wk ?_
     exact nE ⟨p,n,a,z,(fun y I=>⟨(CO S).2 y (O y I).1,(O y I).2⟩),T,(by omega),h12,Km,GH,I9,(GI.trans Fx.ic),h16,ug,qF,aa⟩
    refine Lv aG (Fx.qQ (n:=14) (ks := [(some .i64),(some .u64),(some .u64),(some .u64),(some .u64),(some .u64),(some .u64),(some .u64),(some .u8),(some .u64),(some .i64),(some .i64),(some .u64),(some .u64)]) (X:=dz (Ef o 1 l)) (Y:=fun g=>if g<1 then au 0 else if g<8 then aC 0 else if g<9 then .int .u8 (0)else if g<10 then aC 0 else if g<12 then au 0 else aC 0) 12 false rfl rfl rfl (Fx.nob c95) (nJ Zp) (qg (nJ jE) (fun j C=>by rcases j with _|_|_|_|_|_|_|_|_|_|_|_|_|_|j <;> first|rfl|omega)) rfl (by kernel_rfl) (by kernel_rfl) (by kernel_rfl) (by kernel_rfl) (by kernel_rfl))<|av aG<|av aG<|Lv ((pt N)) (xO h18 0)<|Lv (.int .u8 (l.kind)) (aP W.aJ 0) ?_
    by_cases WV:l.kind=3
    ·refine Lv aG (gH WV)<|av aG<|cO<|cO<|cO<|av aG<|av aG<|aD<|aQ<|Wl<|aS h16<|Lv (.agg (aA 6 (dQ l))) (gW W.aJ 0 (ha:=h18))<|xL (vs := [(0,.agg (aA 6 (dQ l)))]) (s:=6) (zc:=fun g=>if g<1 then .int .u8 (0)else if g<2 then aC 0 else if g<4 then au 0 else aC 0) (y:=bC (fun j=>(fun g=>if g<1 then .int .u8 (0)else if g<2 then aC 0 else if g<4 then au 0 else aC 0) (j % 6)) (0*6) 6 (dQ l)) (by rfl) rfl rfl Tryd.underlying22 (by kernel_rfl) (by rfl) (by rfl) (by kernel_rfl) (by rw[aX (off:=0*6) (s:=6) (y:=dQ l) rfl (bA _ _) (by rfl)]; rfl) rfl fun g4 X8 Bj pW s12 z8 => ?_
     have⟨uE,qN,ru,b17⟩:=iH s12.old qF W ug aa
     have KN:=gM Bj aa.size
     have aeD:(.slice a (n) (z):Value).ownBlock≠some g4:=by rw[Bj]; exact qF.uw (Nat.le_refl _)
     have⟨aeE,aeF⟩:=ow Bj W.lt uD.lt
     have Js:=pW.lt
     refine yB (B:=w.heap.size) (s:=6) (bytes:=48) (k:=n) (m:=1) (v := .slice a (n) (z)) (x:=Iu p) (by rfl) rfl rfl rfl Tryd.underlying22 (by kernel_rfl) (by kernel_rfl) rfl rfl uE pW.aJ (Zk (fun j C=>sF _ j)) (by omega) (by omega) (by omega) b17.size fun g5 Bl ZY ho1 hg1 L8 hlt1 => ?_
     have GD:=yR hg1 uE
     have VL:N≠g5:=fun e=>L8.elim (fun e2=>og (by rw[e]; exact e2)) (fun e2=>by have:=qN.lt; omega)
     have zS:=kJ GD ru
     have sO:Fx.Own ZY w.heap.size 37 6 (bJ g5 (n+1) Bl) (n+1) (Iu (p ++ [l])):=(ho1.congr (fun j C=>O1 T (fun j C=>rfl) j C))
     have b18:Below w.heap.size w ZY:=yP b17 hg1 b17.size (fun q hq=>(uE.ge hq).1)
     refine av (bJ g5 (n+1) Bl)<|Ln ?_
     exact nE ⟨(p ++ [l]),(n+1),(some ⟨g5,0,none⟩),Bl,(O9 (fun y I=>⟨(CO S).2 y (O y I).1,(O y I).2⟩) ⟨J3 S c91 (fun e=>c95 (by rw[e]; exact(fun j C=>by rcases j with _|_|_|_|_|_|_|_|_|_|_|_|_|_|j <;> first|rfl|omega))) (.inl WV),hxk⟩),(by rw[List.length_append,<- T]; rfl),(by omega),h12,Km,GH,I9,(GI.trans Fx.ic),(by rfl),zS,sO,b18⟩
    refine Lv aF (iW WV)<|av aF<|Lv ((pt N)) (xO h18 0)<|Lv (.int .u8 (l.kind)) (aP W.aJ 0) ?_
    by_cases WW:l.kind=4
    ·refine Lv aG (gH WW)<|av aG<|av aG<|aD<|aQ<|Wl<|aS h16<|Lv (.agg (aA 6 (dQ l))) (gW W.aJ 0 (ha:=h18))<|xL (vs := [(0,.agg (aA 6 (dQ l)))]) (s:=6) (zc:=fun g=>if g<1 then .int .u8 (0)else if g<2 then aC 0 else if g<4 then au 0 else aC 0) (y:=bC (fun j=>(fun g=>if g<1 then .int .u8 (0)else if g<2 then aC 0 else if g<4 then au 0 else aC 0) (j % 6)) (0*6) 6 (dQ l)) (by rfl) rfl rfl Tryd.underlying22 (by kernel_rfl) (by rfl) (by rfl) (by kernel_rfl) (by rw[aX (off:=0*6) (s:=6) (y:=dQ l) rfl (bA _ _) (by rfl)]; rfl) rfl fun g6 w19 VR uh s13 z9 => ?_
     have⟨vI,wG,vJ,b19⟩:=iH s13.old qF W ug aa
     have lg6:=gM VR aa.size
     have WC:(.slice a (n) (z):Value).ownBlock≠some g6:=by rw[VR]; exact qF.uw (Nat.le_refl _)
     have⟨WE,WG⟩:=ow VR W.lt uD.lt
     have tg6:=uh.lt
     refine yB (B:=w.heap.size) (s:=6) (bytes:=48) (k:=n) (m:=1) (v := .slice a (n) (z)) (x:=Iu p) (by rfl) rfl rfl rfl Tryd.underlying22 (by kernel_rfl) (by kernel_rfl) rfl rfl vI uh.aJ (Zk (fun j C=>sF _ j)) (by omega) (by omega) (by omega) b19.size fun g7 G Z5 ho2 hg2 Wd hlt2 => ?_
     have EH:=yR hg2 vI
     have aeG:N≠g7:=fun e=>Wd.elim (fun e2=>og (by rw[e]; exact e2)) (fun e2=>by have:=wG.lt; omega)
     have sP:=kJ EH vJ
     have wH:Fx.Own Z5 w.heap.size 37 6 (bJ g7 (n+1) G) (n+1) (Iu (p ++ [l])):=(ho2.congr (fun j C=>O1 T (fun j C=>rfl) j C))
     have b20:Below w.heap.size w Z5:=yP b19 hg2 b19.size (fun q hq=>(vI.ge hq).1)
     refine av (bJ g7 (n+1) G)<|Ln ?_
     exact nE ⟨(p ++ [l]),(n+1),(some ⟨g7,0,none⟩),G,(O9 (fun y I=>⟨(CO S).2 y (O y I).1,(O y I).2⟩) ⟨J3 S c91 (fun e=>c95 (by rw[e]; exact(fun j C=>by rcases j with _|_|_|_|_|_|_|_|_|_|_|_|_|_|j <;> first|rfl|omega))) (.inr WW),hxk⟩),(by rw[List.length_append,<- T]; rfl),(by omega),h12,Km,GH,I9,(GI.trans Fx.ic),(by rfl),sP,wH,b20⟩
    refine Lv aF (iW WW)<|av aF<|av aF<|aD<|aK<|Wk ?_
    exact nE ⟨p,n,a,z,(fun y I=>⟨(CO S).2 y (O y I).1,(O y I).2⟩),T,(by omega),h12,Km,GH,I9,(GI.trans Fx.ic),h16,ug,qF,aa⟩
   refine Lv aF (iW c91)<|av aF<|cO<|cO<|cO<|av aF<|av aF<|cO<|cO<|cO<|cO<|cO<|cO<|cO<|cO<|av aF<|aD<|aK<|Wk ?_
   exact nE ⟨p,n,a,z,(fun y I=>⟨(CO S).2 y (O y I).1,(O y I).2⟩),T,(by omega),h12,Km,GH,I9,(GI.trans Fx.ic),h16,ug,qF,aa⟩
  rintro f4 w21 ⟨H,A,Z,G,hD2,hn2,akx,h19,h20,h21,h22,h23,Xm,xS,oF,PS⟩
  refine ay<|aS h23<|aS h21<|av (au K) ?_
  by_cases Zq:(k:Int)<(K:Int)
  ·refine Lv aG (jU Zq)<|av aG<|aS Xm<|av (au A) ?_
   by_cases Zr:0<(A:Int)
   ·refine Lv aG (vo Zr)<|av aG<|aD<|aQ<|Ws ?_
    obtain⟨Q,edx⟩ : ∃ r,r=(oq k) % A:=⟨_,rfl⟩
    have hdx:Q<A:=by rw[edx]; exact Nat.mod_lt _ (by omega)
    have hok:=hoq k (by omega)
    refine Wl<|aS Xm<|aS h21<|aS h23 ?_
    obtain⟨bq3,oq3,eq3,Zt⟩:=ho (by omega)
    have Zu:bq3<w.heap.size:=Zt.lt (by omega)
    have uV:=Zt.below PS Zu
    have aek:bq3<w21.heap.size:=uV.lt (by omega)
    refine Lv ((pf bq3 (k+oq3))) (dw 1 (hx:=(rfl.trans (congrArg (fun q=>Value.slice q (K) (cx)) eq3))))<|Lv (.int .u8 ((oq k:Int))) (aP uV k)<|Lv (au (oq k:Int)) (dS rfl rfl (by kernel_rfl) Tryd.underlying3 (ji (by omega) rfl))<|aS Xm<|av (au A)<|Lv (au Q) (Fx.RG rfl rfl rfl (by omega) (Zb edx)) ?_
    obtain⟨JD,Y6⟩:=oF.addr (by omega)
    have qy:Fx.Own w21 w.heap.size 37 6 (bJ JD A G) A (Iu H):=oF.mG (congrArg (fun q=>Value.slice q A G) Y6)
    refine Lv ((pf JD (6*Q))) (dw 6 (hx:=(rfl.trans (congrArg (fun q=>Value.slice q (A) (G)) Y6))))<|Lv (.agg (aA 6 (dQ (H.getD Q lD)))) (gW qy.aJ (6*Q) (fun jq hjq=>Fx.jG (k:=Q) (by omega) hjq))<|lM 6 (fun g=>if g<1 then .int .u8 (0)else if g<2 then aC 0 else if g<4 then au 0 else aC 0) fun g8 w22 eg8 xU PU ZV => ?_
    have⟨m64,Bp,Bq,WX⟩:=iH PU.old xS uV qy PS
    have lg8:=gM eg8 PS.size
    have aeI:bq3≠g8:=by rw[eg8]; exact Nat.ne_of_lt (uV.lt (by omega))
    have aeJ:=bR eg8 qy.lt
    have tg8:=xU.lt
    refine eX xU 0 (h1:=(fun j _=>sF _ j)) fun w23 yF s15 ZX => ?_
    have zT:aL w23 g8 6 (dQ (H.getD Q lD)) 37:=aM yF
    have Wh:=gG s15 xU.ty
    have vL:=kJ Wh m64
    have Br:=Bp.eG s15 (by omega)
    have wT:=Bq.Pw s15 (by omega)
    have WY:=s15.below WX WX.size (by omega)
    refine aD<|Ws ?_
    have hdy:=hD2 (H.getD Q lD) (Pb (by rw[<- hn2]; exact hdx))
    refine Wl<|aS h22<|Lv (.agg (aA 6 (dQ (H.getD Q lD)))) (gW zT.aJ 0)<|jy (CP u w.heap.size (M+1) Xl (Eh o 1 l) _ vL hB (R.below WY U) (by omega) WU (H.getD Q lD) hdy.1 hdy.2) ?_
    rintro e9 w24 ⟨mm3,t,hq3,hc3⟩
    refine⟨_,t,?_⟩
    clear t
    have Zv:=vL.q.typed hc3
    have WL:=vL.q.qm hc3 WY.size
    have ZP:=DZ WY WL (Nat.le_refl _)
    have zU:=wT.sH Zv (by decide)
    have yG:=zT.sH Zv (by decide)
    have akz:=yG.lt
    refine av aF<|aD<|aK<|Wk<|cB<|sN<|Wl<|aS h23<|Lv (au ((k:Int)+1)) fZ<|av (au ((k:Int)+1))<|Ln ?_
    have EM:Fx.Own w24 w.heap.size 37 6 (.slice Z (A) (G)) A (Iu H):=zU.mG (congrArg (fun q=>Value.slice q A G) Y6.symm)
    refine iG ⟨k+1,mm3,(Eh o 1 l),M+1+1,H,A,Z,G,by omega,WU,hD2,hn2,by omega,by omega,h19,h20,h21,h22,Xm,Fx.ic,hq3,EM,ZP⟩ ?_
    show(D-(intOf ((au ((k:Int)+1)))).toNat)<_
    simp only[P,intOf]; omega
   refine Lv aF (vv Zr)<|av aF<|aD<|aK<|Wk<|cB<|sN<|Wl<|aS h23<|Lv (au ((k:Int)+1)) fZ<|av (au ((k:Int)+1))<|Ln<|iG ⟨k+1,Xl,(Eh o 1 l),M+1,H,A,Z,G,by omega,WU,hD2,hn2,by omega,by omega,h19,h20,h21,h22,Xm,Fx.ic,xS,oF,PS⟩ ?_
   show(D-(intOf ((au ((k:Int)+1)))).toNat)<_
   simp only[P,intOf]; omega
  refine Lv aF (jV Zq)<|av aF<|cO<|cO<|cO<|av aF<|aD<|aK<|Wk<|cB<|sN<|Wl<|aS h23<|Lv (au ((k:Int)+1)) fZ<|av (au ((k:Int)+1))<|Ln<|iG ⟨k+1,Xl,(Eh o 1 l),M+1,H,A,Z,G,by omega,WU,hD2,hn2,by omega,by omega,h19,h20,h21,h22,Xm,Fx.ic,xS,oF,PS⟩ ?_
  show(D-(intOf ((au ((k:Int)+1)))).toNat)<_
  simp only[P,intOf]; omega
 refine Lv aF (jV c62)<|aD<|aK<|Wx<|bY<|iB<|bZ<|sN<|Ws<|Ws ?_
 have WU:=S
 refine Wl<|av (au 0)<|aD<|Wb<|Wo (fun f E => ∃ j:Nat,∃ F:dG,∃ NA:Nat,j<=n/\NA<=200+2*j/\f 7=(pt u)/\f 12 = .slice a (n) (z)/\f 18=au ((j:Int))/\qB E w.heap.size u F o NA/\Fx.Own E w.heap.size 37 6 (.slice a (n) (z)) n (Iu p)/\Below w.heap.size w E) (fun f _=>(n-(intOf (f 18)).toNat)) ⟨0,F,M,by omega,by omega,h9,h10,Fx.ic,m9,m10,b9⟩ ?_
 rintro f5 w25 ⟨j,F,NA,C,hNA,Zw,h26,h27,xV,BS,Un⟩
 refine Ws<|ay<|aS h27<|aS h26<|av (au n) ?_
 by_cases c138:(j:Int)<(n:Int)
 ·refine Lv aG (jU c138)<|aD<|aQ<|Wk<|sN<|Ws<|Wb<|Ws<|Ws ?_
  have hdj:=O (p.getD j lD) (Pb (by rw[<- T]; omega))
  have hbw:=Rx hdj.2
  refine Wl<|aS Zw<|aS h26<|aS h27 ?_
  obtain⟨gq2,eq5⟩:=BS.addr (by omega)
  have Ea:Fx.Own w25 w.heap.size 37 6 (bJ gq2 n z) n (Iu p):=BS.mG (congrArg (fun q=>Value.slice q n z) eq5)
  refine Lv ((pf gq2 (6*j))) (dw 6 (hx:=(rfl.trans (congrArg (fun q=>Value.slice q (n) (z)) eq5))))<|Lv (.agg (aA 6 (dQ (p.getD j lD)))) (gW Ea.aJ (6*j) (fun jq hjq=>Fx.jG (k:=j) (by omega) hjq))<|jy (CP u w.heap.size NA F o _ xV hB (R.below Un U) (by omega) WU (p.getD j lD) hdj.1 hdj.2) ?_
  rintro e9 w26 ⟨mm4,t,hq4,hc4⟩
  refine⟨_,t,?_⟩
  clear t
  have aeL:=xV.q.typed hc4
  have WO:=xV.q.qm hc4 Un.size
  have ZQ:=DZ Un WO (Nat.le_refl _)
  have BU:=Ea.sH aeL (by decide)
  refine av aF<|aD<|aK<|Wk<|sN<|ay<|aS h26<|aS h27<|Lv ((pf gq2 (6*j))) (dw 6 (hx:=(rfl.trans (congrArg (fun q=>Value.slice q (n) (z)) eq5))))<|Lv (.agg (aA 6 (dQ (p.getD j lD)))) (gW BU.aJ (6*j) (fun jq hjq=>Fx.jG (k:=j) (by omega) hjq))<|lM 6 (fun g=>if g<1 then .int .u8 (0)else if g<2 then aC 0 else if g<4 then au 0 else aC 0) fun g9 w27 eg9 A9 s16 z12 => ?_
  have⟨zV,yX,WZ⟩:=jI s16.old BU hq4 ZQ
  have lg9:=gM eg9 ZQ.size
  have aeM:=bR eg9 BU.lt
  have tg9:=A9.lt
  refine eX A9 0 (h1:=(fun j _=>sF _ j)) fun w28 Bt Ue z13 => ?_
  have Dl:aL w28 g9 6 (dQ (p.getD j lD)) 37:=aM Bt
  have F6:=zV.Pw Ue (by omega)
  have Wm:=gG Ue A9.ty
  have GJ:=kJ Wm yX
  have ZT:=Ue.below WZ WZ.size (by omega)
  refine aD<|ay<|av ((pf g9 3))<|Lv (au ((p.getD j lD).bH)) (aP Dl.aJ 3)<|Lv (au (IntKind.i64.wrap ((p.getD j lD).bH+1))) (Fx.IG rfl rfl rfl rfl)<|av ((pf g9 3))<|mZ Dl 3 (au (IntKind.i64.wrap ((p.getD j lD).bH+1))) fun w29 Jc s18 z14 => ?_
  have BX:aL w29 g9 6 (dQ { (p.getD j lD)with bH:=(IntKind.i64.wrap ((p.getD j lD).bH+1)) }) 37:=Jc.congr (fun j C=>by rcases j with _|_|_|_|_|_|j <;> first|rfl|omega)
  have F7:=F6.Pw s18 (by omega)
  have aeO:=gG s18 Dl.ty
  have GK:=kJ aeO GJ
  have X5:=s18.below ZT ZT.size (by omega)
  refine aD<|ay<|av ((pf g9 5))<|Lv (aC (({ (p.getD j lD)with bH:=(IntKind.i64.wrap ((p.getD j lD).bH+1)) }:dV).of)) (aP BX.aJ 5)<|Lv (aC (IntKind.u64.wrap ((p.getD j lD).of+1))) (Fx.IG rfl rfl rfl rfl)<|av ((pf g9 5))<|mZ BX 5 (aC (IntKind.u64.wrap ((p.getD j lD).of+1))) fun w30 F8 X3 z15 => ?_
  have JE:aL w30 g9 6 (dQ (bump (p.getD j lD))) 37:=F8.congr (fun j C=>by rcases j with _|_|_|_|_|_|j <;> first|rfl|omega)
  have KQ:=F7.Pw X3 (by omega)
  have Zx:=gG X3 BX.ty
  have Gc:=kJ Zx GK
  have ZU:=X3.below X5 X5.size (by omega)
  refine aD<|ay<|aS Zw<|jy (wC Gc (by omega)) ?_
  rintro e9 w31 ⟨ss1,t,Zy,hb5⟩
  obtain⟨Xh,Xi,Xj,Xk,Zf⟩ : ∃ a b c d,ss1=yw o a b c d:=⟨_,_,_,_,Zy.e⟩
  subst Zf
  refine⟨_,t,?_⟩
  clear t
  have⟨H6,FE,JG,ZW⟩:=iH hb5 KQ Gc JE ZU
  refine lM 20 (fun g=>if g<12 then .bool false else if g<18 then aC 0 else .slice none 0 0) fun g10 w32 Zz Gd s21 z16 => ?_
  have⟨Og,Ld,Bz,xu,b32⟩:=lV s21.old H6 FE JG Zy ZW
  have akB:=gM Zz ZW.size
  have⟨aaH,ZA⟩:=ow Zz H6.lt JG.lt
  have akC:=Gd.lt
  refine eX Gd 0 (h1:=(fun j _=>Dr _ j)) fun w33 Am s22 z17 => ?_
  have Ao:aL w33 g10 20 (lZ (yw o Xh Xi Xj Xk)) 43:=aM Am
  have ZB:=gG s22 Gd.ty
  have⟨BA,uM,wh,xB⟩:=Gt ZB Og Ld Bz xu
  have X6:=s22.below b32 b32.size (by omega)
  refine aD<|ay<|aS Zw<|Lv (.agg (aA 6 (dQ (bump (p.getD j lD))))) (gW wh.aJ 0)<|jy (jf (FY u w.heap.size (NA+1) mm4 o _ uM hB (R.below X6 U) (by omega) 1 (by omega) (bump (p.getD j lD)) hbw) (kP (fun j C=>by rcases j with _|_|_|_|_|_|j <;> first|rfl|omega))) (ax := #[(pt u),au 1,.agg (aA 6 (dQ (bump (p.getD j lD))))]) ?_
  rintro e9 w34 ⟨mm5,t,hq5,hc5⟩
  obtain⟨hd4,hd5,hd6⟩:=(Ry WU hdj.1 hdj.2)
  rw[hd6]at hq5
  refine⟨.tuple #[.agg (aA 14 (dz zeroE)),au 14],by rw[t,hd4,hd5],?_⟩
  clear t
  have RA:=uM.q.typed hc5
  have aeP:=uM.q.qm hc5 X6.size
  have X7:=DZ X6 aeP (Nat.le_refl _)
  have Aw:=BA.sH RA (by decide)
  have DW:=wh.sH RA (by decide)
  have agL:=DW.lt
  have DU:=xB.sH RA (by decide)
  have xC:=Ao.sH RA (by decide)
  have agM:=xC.lt
  refine av (.tuple #[.agg (aA 14 (dz zeroE)),au 14])<|av (.agg (aA 14 (dz zeroE)))<|av (au 14)<|lM 14 (fun g=>if g<1 then au 0 else if g<8 then aC 0 else if g<9 then .int .u8 (0)else if g<10 then aC 0 else if g<12 then au 0 else aC 0) fun g11 w35 ZC Ar s23 z18 => ?_
  have⟨KT,KU,Qx,H9,X9⟩:=lV s23.old Aw DU xC hq5 X7
  have akF:=gM ZC X7.size
  have⟨ZE,ZF,ZG⟩:=Bf ZC Aw.lt DW.lt xC.lt
  have akG:=Ar.lt
  refine eX Ar 0 (h1:=(jc _)) fun w36 Ia s24 z19 => ?_
  have Au:aL w36 g11 14 (dz zeroE) 33:=aM Ia
  have ZH:=gG s24 Ar.ty
  have⟨Ib,Ie,Q0,aeQ⟩:=Gt ZH KT KU Qx H9
  have b36:=s24.below X9 X9.size (by omega)
  refine av (au 14)<|aD<|Ws ?_
  -- region 37 draws
  refine jS [0,1,2,4,3,5,6,7,9,8,10,11,12,13] [0,0,0,4,0,0,0,0,1,0,2,2,0,0] [(10,3,[7,6,5,3]),(11,3,[7,6,5,3]),(11,10,[10]),(12,10,[11,10]),(13,10,[12,11,10]),(12,11,[11]),(13,11,[12,11])] fun qY fO iC => ?_
  have⟨V7,V8,Q5,Q6,OP,b37⟩:=vw fO Ib Ie Q0 aeQ Au b36
  refine aU (au 14)<|Rp aF (fun _=>kW rfl)<|aU aF<|aU (.agg (aA 14 (fun g=>if g<1 then au 0 else if g<8 then aC 0 else if g<9 then .int .u8 (0)else if g<10 then aC 0 else if g<12 then au 0 else aC 0)))<|Rs (.agg (aA 14 (dz zeroE))) (gW OP.aJ 0) ?_
  refine Rp aF (fun v1=>Fx.qQ (n:=14) (ks := [(some .i64),(some .u64),(some .u64),(some .u64),(some .u64),(some .u64),(some .u64),(some .u64),(some .u8),(some .u64),(some .i64),(some .i64),(some .u64),(some .u64)]) (X:=dz zeroE) (Y:=fun g=>if g<1 then au 0 else if g<8 then aC 0 else if g<9 then .int .u8 (0)else if g<10 then aC 0 else if g<12 then au 0 else aC 0) 12 true rfl rfl rfl (Fx.zA (fun j C=>by rcases j with _|_|_|_|_|_|_|_|_|_|_|_|_|_|j <;> first|rfl|omega)) (nJ jE) (qg (nJ jE) (fun j C=>by rcases j with _|_|_|_|_|_|_|_|_|_|_|_|_|_|j <;> first|rfl|omega)) rfl (by kernel_rfl) (by kernel_rfl) (by kernel_rfl) (by kernel_rfl) (by kernel_rfl))<|aU aF<|aU aF<|bM Zw<|Rd (v := .agg (aA 20 (lZ (yw o Xh Xi Xj Xk)))) (by rfl) (by rfl) (nT _) (fun v1 hv1=>dH (x:=lZ (yw o Xh Xi Xj Xk)) (y:=lZ (yw o Xh Xi Xj Xk)) rfl rfl (by kernel_rfl) (by kernel_rfl) (Q5.aJ.below hv1 (by have:=Q5.lt; omega)) (i:=0) (by omega) (by omega) (fun j _=>by rw[Nat.zero_add])) ?_
  refine zG<|jy (wC Q6 (by omega)) ?_
  rintro e9 w37 ⟨ss2,t,ZI,hb6⟩
  obtain⟨yna,ync,yga,ygc,Zf⟩ : ∃ a b c d,ss2=yw o a b c d:=⟨_,_,_,_,ZI.e⟩
  subst Zf
  refine⟨_,t,?_⟩
  clear t
  have s26:=Sb hb6
  have⟨V9,Wj,Q7,b38⟩:=iH hb6 V7 V8 Q6 b37
  refine Ln ⟨s26.old,?_⟩
  refine zG<|fB (JV (L:=o) Wj.r ZI.r (Q7.wf (by omega))) _ rfl ?_
  intro w38 Xb
  have s27:=Sb Xb
  have⟨Wi,Wn,Z0⟩:=jI Xb V9 Q7 b38
  refine Ln ⟨s27.old,?_⟩
  refine aU aF<|aU aF<|bF<|aK<|Wk<|cB<|sN<|Wl<|aS h27<|Lv (au ((j:Int)+1)) fZ<|av (au ((j:Int)+1))<|Ln ?_
  have aeR:Fx.Own w38 w.heap.size 37 6 (.slice a (n) (z)) n (Iu p):=Wi.mG (congrArg (fun q=>Value.slice q n z) eq5.symm)
  refine iG ⟨j+1,mm5,NA+1+1,by omega,by omega,Zw,h26,Fx.ic,Wn,aeR,Z0⟩ ?_
  show(n-(intOf ((au ((j:Int)+1)))).toNat)<_
  simp only[h27,intOf]; omega
 refine Lv aF (jV c138)<|aD<|aK<|Wx<|bY<|iB<|bZ<|sN<|ay<|fB (nQ _ (R.below Un U)) _ rfl ?_
 intro w39 hb8
 have Z4:=aR hb8 Un
 refine av aG<|aD<|Wr<|aN aG ?_
 exact⟨rfl,Z4⟩
end Go.Proofs.YtcbedgfikejkoaaDoor
namespace Go.Proofs.YtcbedgfikejkoaaDoor
open Go.RowKit Go.WideShapes Go.ChangeShapes Go.Deep Rt
theorem bdU{n:Int}(h:(Lit.int .u64 n).wf=true):gN n:=by have:=Wp h; unfold gN; omega
theorem bdI{n:Int}(h:(Lit.int .i64 n).wf=true):nV n:=by have:=Wq h; unfold nV; omega
end Go.Proofs.YtcbedgfikejkoaaDoor
namespace Go.Proofs.YtcbedgfikejkoaaDoor
open Go.RowKit Go.WideShapes Go.ChangeShapes Go.Deep Rt
def Xn:List (Option IntKind) := [some .u8,some .u64,some .i64,some .i64,some .u64,some .u64]
def Pg(x:Nat->Value):dV:=⟨numOf (x 0),numOf (x 1),numOf (x 2),numOf (x 3),numOf (x 4),numOf (x 5)⟩
theorem FZ{x:Nat->Value}(h : ∀(j:Nat) (k:Option IntKind),Xn[j]? = some k->K3 k (x j)):(∀ j,j<6->x j=dQ (Pg x) j)/\jD (Pg x):=by
 have o : ∀(j:Nat) (k:IntKind),Xn[j]? = some (some k)->x j = .int k (numOf (x j))/\(Lit.int k (numOf (x j))).wf=true:=fun j k e=>(h j (some k) e).num
 refine⟨fun j a => ?_,SL (o 0 .u8 rfl).2,bdU (o 1 .u64 rfl).2,bdI (o 2 .i64 rfl).2,bdI (o 3 .i64 rfl).2,bdU (o 4 .u64 rfl).2,bdU (o 5 .u64 rfl).2⟩
 rcases j with _|_|_|_|_|_|j
 ·exact(o 0 .u8 rfl).1
 ·exact(o 1 .u64 rfl).1
 ·exact(o 2 .i64 rfl).1
 ·exact(o 3 .i64 rfl).1
 ·exact(o 4 .u64 rfl).1
 ·exact(o 5 .u64 rfl).1
 omega
end Go.Proofs.YtcbedgfikejkoaaDoor
namespace Go.Proofs.YtcbedgfikejkoaaDoor
open Go.RowKit Go.WideShapes Go.ChangeShapes Go.Deep Rt
theorem J4{w:World}{a:Option Addr}{n:Nat}{X:Nat->Nat->Value}(h : ∀ i,i<n -> ∀(j:Nat) (k:Option IntKind),[some IntKind.u8][j]? = some k->K3 k (X i j))(g:Fx.jv w a n [some IntKind.u8].length (Fx.flat [some IntKind.u8].length X)) :
 ∃ Y:Nat->Nat,(∀ k,k<n->Y k<=255)/\Fx.jv w a n 1 (fun q => .int .u8 (Y q:Int)):=by
 have c : ∀ p,p<n->X p 0 = .int .u8 ((numOf (X p 0)).toNat:Int)/\(numOf (X p 0)).toNat<=255:=fun p b=>by
  obtain⟨d,e⟩:=(h p b 0 (some .u8) rfl).num
  have f:=SL e
  exact⟨by rw[Int.toNat_of_nonneg f.1]; exact d,by omega⟩
 refine⟨fun k=>(numOf (X k 0)).toNat,fun k l=>(c k l).2,jv.ni g fun p b => ?_⟩
 show X (p / 1) (p % 1) = .int .u8 ((numOf (X p 0)).toNat:Int)
 rw[Nat.div_one,Nat.mod_one]
 exact(c p (by have:p<n*1:=b; omega)).1
end Go.Proofs.YtcbedgfikejkoaaDoor
namespace Go.Proofs.YtcbedgfikejkoaaDoor
open Go.RowKit Go.WideShapes Go.ChangeShapes Go.Deep Rt
theorem K9{w:World}{a:Option Addr}{n:Nat}{X:Nat->Nat->Value}(c : ∀ i,i<n -> ∀(j:Nat) (k:Option IntKind),Xn[j]? = some k->K3 k (X i j))(d:Fx.jv w a n Xn.length (Fx.flat Xn.length X)) :
 ∃ e:Nat->dV,(∀ k,k<n->jD (e k))/\Fx.jv w a n 6 (Fx.flat 6 fun k=>dQ (e k)) :=
 ⟨fun k=>Pg (X k),fun k b=>(FZ (c k b)).2,jv.ni d (Fx.bG fun k b j f=>(FZ (c k b)).1 j f)⟩
end Go.Proofs.YtcbedgfikejkoaaDoor
namespace Go.Proofs.YtcbedgfikejkoaaDoor
open Go Go.RowKit Rt
set_option linter.unusedVariables false
set_option maxRecDepth 100000
theorem kG : Tryd.prog.globalNamed "leat/ledger.kinds" = some 0 := by kernel_rfl
theorem kT:(Tryd.prog.globals[0]?).map (·.type)=some 106:=by kernel_rfl
theorem kC:Tryd.prog.cellsOf 105=1:=by kernel_rfl
theorem kC8:Tryd.prog.cellsOf 106=8:=by kernel_rfl
theorem F3{H:Type}{enc:TypeId × Value->H}{P:Program}{w:World}{base:Nat}{d:Nat->Bool}{a:Bool}{fuel:Nat}{t:TypeId}{c rs:Array TypeId}{e:Bool}{v:Value}{q:List MemPlace}(b:P.underlying t=some (.func c rs e))(h:DataW.trod enc P w base d a fuel t [v]=some (.nil,q)):v = .nilFunc:=by
 cases fuel with
 | zero=>simp[DataW.trod]at h
 | succ n=>cases v <;> simp[DataW.trod,b]at h <;> rfl
theorem F4 {W : World} (h : laidMetH Tryd.prog [("leat/ledger.kinds", Rows.laid_leat_ledger_kinds)] W) : Fx.gI W 0 0 8 wz := by
 obtain⟨g,t,e,R,p,V,Z,hv,T⟩:=h.funcs (List.mem_singleton.2 rfl)
 obtain rfl:=Option.some.inj (kG.symm.trans V)
 obtain rfl:=Option.some.inj (kT.symm.trans Z)
 have U:DataW.trod (funcToken Tryd.prog) Tryd.prog W 0 (fun _=>true) true R 106 e.toList=some (.agg [.nil,.held [40,42,108,101,97,116,47,108,101,100,103,101,114,46,76,101,100,103,101,114,41,46,109,97,107,101,115],.held [40,42,108,101,97,116,47,108,101,100,103,101,114,46,76,101,100,103,101,114,41,46,114,97,105,115,101,115],.held [40,42,108,101,97,116,47,108,101,100,103,101,114,46,76,101,100,103,101,114,41,46,116,97,107,101,115],.held [40,42,108,101,97,116,47,108,101,100,103,101,114,46,76,101,100,103,101,114,41,46,102,114,101,101,115],.held [40,42,108,101,97,116,47,108,101,100,103,101,114,46,76,101,100,103,101,114,41,46,109,111,118,101,115],.held [40,42,108,101,97,116,47,108,101,100,103,101,114,46,76,101,100,103,101,114,41,46,106,111,105,110,115],.held [40,42,108,101,97,116,47,108,101,100,103,101,114,46,76,101,100,103,101,114,41,46,108,101,97,118,101,115]],p):=T
 obtain⟨k,m,_,Q,Y,hl,l⟩:=DataW.trod_array Tryd.underlying106 U
 have P:k.map (·.1) = [.nil,.held [40,42,108,101,97,116,47,108,101,100,103,101,114,46,76,101,100,103,101,114,41,46,109,97,107,101,115],.held [40,42,108,101,97,116,47,108,101,100,103,101,114,46,76,101,100,103,101,114,41,46,114,97,105,115,101,115],.held [40,42,108,101,97,116,47,108,101,100,103,101,114,46,76,101,100,103,101,114,41,46,116,97,107,101,115],.held [40,42,108,101,97,116,47,108,101,100,103,101,114,46,76,101,100,103,101,114,41,46,102,114,101,101,115],.held [40,42,108,101,97,116,47,108,101,100,103,101,114,46,76,101,100,103,101,114,41,46,109,111,118,101,115],.held [40,42,108,101,97,116,47,108,101,100,103,101,114,46,76,101,100,103,101,114,41,46,106,111,105,110,115],.held [40,42,108,101,97,116,47,108,101,100,103,101,114,46,76,101,100,103,101,114,41,46,108,101,97,118,101,115]]:=by
  have:=congrArg Prod.fst Q
  simp only[DataW.agg.injEq]at this
  exact this.symm
 rw[kC8]at Y
 rw[kC]at l
 have a : ∀ i,i<8 -> ∀ d,(k.map (·.1))[i]? = some d -> ∃ c q,e[i]? = some c/\DataW.trod (funcToken Tryd.prog) Tryd.prog W 0 (fun _=>true) true m 105 [c]=some (d,q):=fun i X d b=>by
  have f:=l i X
  rw[Nat.mul_one]at f
  have S:(e.toList.drop i).take 1 = [e.toList[i]'(by omega)]:=by rw[List.drop_eq_getElem_cons (by omega)]; rfl
  rw[S]at f
  rw[List.getElem?_map]at b
  cases hx:k[i]? with
  | none=>rw[hx]at b; cases b
  | some x =>
    rw[hx]at f b
    simp only[Option.map_some,Option.some.injEq]at b
    refine⟨e.toList[i]'(by omega),x.2,?_,by rw[f,<- b]⟩
    rw[<- Array.getElem?_toList,List.getElem?_eq_getElem (by omega)]
 rw[P]at a
 intro j hj
 rw[Nat.zero_add,World.var?_cell kG hv j]
 obtain⟨c0,q0,n,z⟩:=a 0 (by decide) _ rfl
 have H:=F3 Tryd.underlying105 z
 obtain⟨c1,q1,o,A⟩:=a 1 (by decide) _ rfl
 have I:=func_of_trod (f0:=108) Tryd.underlying105 (by kernel_rfl) A
 obtain⟨c2,q2,r,B⟩:=a 2 (by decide) _ rfl
 have J:=func_of_trod (f0:=109) Tryd.underlying105 (by kernel_rfl) B
 obtain⟨c3,q3,s,C⟩:=a 3 (by decide) _ rfl
 have K:=func_of_trod (f0:=110) Tryd.underlying105 (by kernel_rfl) C
 obtain⟨c4,q4,u,D⟩:=a 4 (by decide) _ rfl
 have L:=func_of_trod (f0:=111) Tryd.underlying105 (by kernel_rfl) D
 obtain⟨c5,q5,v,E⟩:=a 5 (by decide) _ rfl
 have M:=func_of_trod (f0:=112) Tryd.underlying105 (by kernel_rfl) E
 obtain⟨c6,q6,w,F⟩:=a 6 (by decide) _ rfl
 have N:=func_of_trod (f0:=113) Tryd.underlying105 (by kernel_rfl) F
 obtain⟨c7,q7,y,G⟩:=a 7 (by decide) _ rfl
 have O:=func_of_trod (f0:=114) Tryd.underlying105 (by kernel_rfl) G
 rcases j with _|_|_|_|_|_|_|_|j
 ·rw[n,H]; rfl
 ·rw[o,I]; rfl
 ·rw[r,J]; rfl
 ·rw[s,K]; rfl
 ·rw[u,L]; rfl
 ·rw[v,M]; rfl
 ·rw[w,N]; rfl
 ·rw[y,O]; rfl
 omega
theorem Ph (os : Os) (args : Array Value) : laidMetH Tryd.prog [("leat/ledger.kinds", Rows.laid_leat_ledger_kinds)] ((World.doorLaid Tryd.prog 600 os).forCall (fun _ _ => 0) ⟨#[], args, []⟩).memory :=
 laidMetH_of_parts3 (fuel:=8) (laidMet_of_run' 8 (by kernel_rfl) (by kernel_rfl)) (by kernel_rfl) (by kernel_rfl)
end Go.Proofs.YtcbedgfikejkoaaDoor
