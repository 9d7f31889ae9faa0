/-
  What the proof of the law rests on, part 5: walks of functions, and plain laws; each says its conditions itself.
-/
import Derived.Shelf.SlSortCmp.NoneTotal
import Derived.Shelf.SlSortCmp.WholeK
import Derived.Lib.SliceRun
import Derived.Ground.SlsfProg
import Derived.Test.YtcbedgfikejkoaaDoorProg
import Derived.Deep.Slices
import Derived.Lib.SmallJoins
import Derived.ChangeArms
import Derived.Test.YtcbedgfikejkoaaDoorZB4
set_option maxHeartbeats 1600000
set_option linter.unusedVariables false
set_option linter.unusedSimpArgs false
namespace Go.Proofs.YtcbedgfikejkoaaDoor
open Go.RowKit Rt
open Fx (eU dJ fu bf fq eZ dS dM fA gQ dH gT eP gD gU Lv sN Ln Ws Qv Wl Rp Wc Qs Wr Sb Lk Wk rC rV sR Rs Rn Rd Rk Wb Wx Wo yT Wt pE Aq Qn AX uo xL yB xJ AZ AY gG yR jM nT tC A8 yA yP xQ yQ rv aA aL bC aI ev bT Stp bU aM flat fH Mp dL aV fC gI aX down fM iU ji jv bG bA cells_one jO aY nE unseen jk iT cu bW cB bY bZ iB iG qP gV)
set_option maxRecDepth 20000
set_option linter.unusedVariables false
namespace Rt
def kr(m:dG)(o r:Int):Bool:=BD m.ao m.ar m.an o r
def DX(m:dG)(o r:Int):Bool:=BD (fun i=>m.g i 0) (fun i=>m.g i 1) m.gn o r
def mX(m:dG)(o r:Int):Nat:=Qz (fun i=>m.g i 0) (fun i=>m.g i 1) m.gn o r
noncomputable def OD(m:dG)(v:EvM):dG:=mU m (fun x=>bO x v.o v.bH) (m.T.path v.node)
def kN(m:dG)(v:EvM):Int:=if kr m v.o v.req=true then 14 else if m.T.has v.node=false then 9 else bV m (fun x=>bO x v.o v.bH) (m.T.path v.node)
noncomputable def su(m:dG)(v:EvM):dG:=OA m (OD m v).R v
noncomputable def OE(m:dG)(v:EvM):dG:=mU m (fun x=>bP x v.o (m.g (mX m v.o v.of) 3)) (m.T.path (m.g (mX m v.o v.of) 2))
def jL(m:dG)(v:EvM):Int:=if kr m v.o v.req=true then 14 else if DX m v.o v.of=false\/m.g (mX m v.o v.of) 4≠0 then 12 else bV m (fun x=>bP x v.o (m.g (mX m v.o v.of) 3)) (m.T.path (m.g (mX m v.o v.of) 2))
noncomputable def ql(m:dG)(v:EvM):dG:=JI m (OE m v).R v (mX m v.o v.of)
def VB(m:dG):Prop := ∀ i,i<m.gn->kr m (m.g i 0) (m.g i 1)=true
end Rt
theorem Fx.YP{f:Nat->Value}{x1 x2 e g h i:Operand}{v1 v2 a b c d:Value}(h1:ev f x1=v1)(j:ev f x2=v2)(k:ev f e=a)(l:ev f g=b)(m:ev f h=c)(n:ev f i=d) : [x1,x2,e,g,h,i].map (ev f) = [v1,v2,a,b,c,d]:=by rw[List.map_cons,h1,Fx.Xp j k l m n]
theorem ND.up{w w':World}{B lp a b:Nat}{m d:dG}{c:Value}{cap:Array Value}(h:ND w B lp m d a c b cap)(e:Below w.heap.size w w'):ND w' B lp m d a c b cap := { h with s:=fun g f=>h.s g (Ei e f) }
instance {w w':World} {B lp a c:Nat} {m e:dG} {d:Value} {cap:Array Value}:Rt.Tr w w' (ND w B lp m e a d c cap) (ND w' B lp m e a d c cap):=⟨fun b h=>h.up b⟩
theorem QD(m:dG)(lp B:Nat)(w:World)(h:je w B lp m)(v:EvM)(L:cZ v=true)(hwf:jR v)(hga:VB m) :
 Calls Tryd.prog 110 #[(pt lp),.agg (aA 14 (dz v))] w fun e w'=>Lb w B lp m (su m v) (kN m v) e w':=by
 have hC:=h.c
 have hT:=h.t
 have hP:=h.p
 have hR:=h.r
 have hG:=h.g
 have hA:=h.a
 have hN:=h.ne
 have lC:=h.c.lt
 have lT:=h.t.lt
 have lP:=h.p.lt
 have lR:=h.r.lt
 have lG:=h.g.lt
 have lA:=h.a.lt
 obtain⟨a,ha,ho⟩ : ∃ a:Nat,a<6/\v.o=(a:Int)+1:=dZ (iQ L)
 have hra:bD v=a:=by unfold bD; omega
 have hko:=zn L hwf
 have hvo:1<=v.o/\v.o<=6:=by omega
 refine Kent Tryd.func110 40 ?_
 refine ay<|qE ((pt lp)) fun A w1 nk M s1 z1 => ?_
 have⟨m2,m3,m4,m5,m6,m7,U⟩:=Da s1.old hC hT hP hR hG hA (Below.refl w.heap.size w)
 have wF:=gY nk
 have⟨nH,rY,vU,vV,vW⟩:=vB nk hC.lt hP.lt hR.lt hG.lt hA.lt
 have wQ:=M.lt
 refine sG fun d w2 uW C s2 z2 => ?_
 have⟨m9,m10,m11,m12,m13,m14,m15,V⟩:=Bd s2.old m2 m3 m4 m5 m6 m7 M U
 have yH:=gM uW U.size
 have⟨Jv,DL,DN,Aj,og,uF⟩:=Dc uW m2.lt m4.lt m5.lt m6.lt m7.lt M.lt
 have Ba:=C.lt
 refine av (.nilFunc)<|av (au 0)<|aD<|ay<|av ((pt d))<|Lv (au v.o) (aP C.aJ 0)<|av ((pf d 12))<|Lv (aC v.req) (aP C.aJ 12)<|av (.agg (aA 2 (bC (bC (fun n=>if n<1 then au 0 else aC 0) 0 1 (fun _=>au v.o)) 1 1 (fun _=>aC v.req))))<|lM 2 (fun n=>if n<1 then au 0 else aC 0) fun k w3 Ak N s3 z3 => ?_
 have⟨m17,m18,m19,m20,m21,m22,m23,m24,W⟩:=Db s3.old m9 m10 m11 m12 m13 m14 m15 C V
 have EB:=gM Ak V.size
 have⟨VD,Vt,VE,Ow,Vu,Ox,Oy⟩:=Gu Ak m9.lt m11.lt m12.lt m13.lt m14.lt m15.lt C.lt
 have Ga:=N.lt
 refine eX N 0 (h1:=(aY (aY (fun jq _=>by show((fun n=>if n<1 then au 0 else aC 0:Nat->Value) jq).oneCell'=true; simp only[]; repeat (first|rfl|split)) (fun _ _=>rfl)) (fun _ _=>rfl))) fun w4 qK s4 z4 => ?_
 have qL:aL w4 k 2 (bC (bC (fun n=>if n<1 then au 0 else aC 0) 0 1 (fun _=>au v.o)) 1 1 (fun _=>aC v.req)) 70:=aM qK
 have qx:aL w4 k 2 (Bc v.o v.req) 70:=Vz (Fx.uZ (by omega) (Fx.nR (j:=0) (by omega) (by omega) rfl)) (Fx.nR (j:=0) (by omega) (by omega) rfl) qL
 have iq:=gG s4 N.ty
 have⟨uU,qZ,tH,lJ,m32,oD,nI,qM⟩:=TN iq m17 m18 m19 m20 m21 m22 m23 m24
 have b4:=s4.below W W.size (by omega)
 refine aD<|Ws<|Ws ?_
 -- region 2 draws
 refine jS [0,1,2,3,4,5] [4,0,0,4,4,4] [] fun qY fO iC => ?_
 have⟨pV,uD,qF,sM,ug,O,uE,qN,ru,X⟩:=ou fO uU qZ tH lJ m32 oD nI qM qx b4
 refine Rs ((pt lp)) (aP uE.aJ 0) ?_
 refine aU ((pt lp))<|aU ((pf lp 28))<|Rs (.map (some m.ab)) (aP pV.aJ 28) ?_
 refine Rs (.agg (aA 2 (Bc v.o v.req))) (gW ru.aJ 0) ?_
 rcases Fx.qW m.ao m.ar m.an v.o v.req with ⟨Oe,yc,yg,FK⟩|gK
 ·refine Rs aG (Fx.Ey (z := .bool false) rfl rfl ((show ev _ _ = .agg (aA 2 (Bc v.o v.req))from rfl).trans (Fx.tX (y:=Bc v.o v.req) (a:=v.o) (b:=v.req) rfl rfl)) hko.1 O Tryd.underlying56 Bv (by rfl) yc yg FK rfl) ?_
  refine bF<|aQ<|ay<|av (.nilFunc)<|av (au 14)<|aD<|Wr<|sR<|aN (.tuple #[.nilFunc,au 14]) ?_
  have f:kN m v=14:=by unfold kN; exact if_pos (wo yc yg FK)
  exact⟨⟨.nilFunc,0,#[],by rw[f],rfl,fun u=>absurd (f.symm.trans u) (by first|decide|omega|assumption)⟩,X⟩
 refine Rs aF (Fx.Ew (z := .bool false) rfl rfl ((show ev _ _ = .agg (aA 2 (Bc v.o v.req))from rfl).trans (Fx.tX (y:=Bc v.o v.req) (a:=v.o) (b:=v.req) rfl rfl)) hko.1 O Tryd.underlying56 Bv (by rfl) gK) ?_
 refine bF<|aK<|Wk<|sN<|Ws<|Ws ?_
 -- region 4 draws
 refine jS [4,0,1,2,3,5,6,7] [4,0,0,4,0,4,3,0] [(6,0,[3,2,1,0]),(6,3,[3]),(6,5,[5]),(7,6,[6])] fun D9 jX oC => ?_
 have⟨vH,sO,xR,zS,wS,uh,P,F,vJ,H⟩:=ou jX pV uD qF sM ug O uE qN ru X
 refine aU ((pf d 9))<|Rs ((pt lp)) (aP P.aJ 0) ?_
 refine aU ((pt lp))<|aU ((pf lp 18))<|Rs ((pt m.tp)) (aP vH.aJ 18) ?_
 refine Rs (aC v.node) (aP F.aJ 9) ?_
 refine gP ?_
 by_cases q:(dB.has m.T v.node)=true
 ·refine mH (Sq v.node sO) aG (by rw[q])<|Ln<|aU aF<|bF<|aK<|Wk<|sN<|ay<|Lv ((pt lp)) (aP P.aJ 0)<|av ((pf d 9))<|Lv (aC v.node) (aP F.aJ 9)<|Lv (.func (.func 121) #[] #[(pt d)]) (Fx.jl (us := []) (vs := [(pt d)]) rfl rfl rfl)<|jy (Ou m lp B _ (h.up H) v.node v hvo d F) ?_
  rintro e9 G ⟨⟨E,fi1,Bl,he,ho1,hD1⟩,hb1⟩
  refine⟨_,he,?_⟩
  clear he
  have⟨Bo,vK,sP,wI,xS,oF,uV,qy,Y⟩:=Db hb1 vH xR zS wS uh P F vJ H
  have aa:Bw G G:=⟨Below.refl _ _⟩
  refine av (.tuple #[E,au (bV m (fun x=>bO x v.o v.bH) (m.T.path (v.node)))])<|av (E)<|av (au (bV m (fun x=>bO x v.o v.bH) (m.T.path (v.node))))<|lM 1 (fun _ => .nilFunc) fun l w6 J Q s8 z5 => ?_
  have⟨Br,wT,zU,yG,Z⟩:=lV s8.old oF uV qy aa Y
  have KN:=gM J Y.size
  have⟨adf,U3,U4,U5,U6,U7,adg,U8⟩:=PE J Bo.lt vK.lt sP.lt wI.lt xS.lt oF.lt uV.lt qy.lt
  have Js:=Q.lt
  have kg4:G.heap.size<=l:=by rw[J]; exact aa.b.size
  refine mZ Q 0 E (h1:=ho1) fun w7 EM S z6 => ?_
  have xV:aL w7 l 1 (fun _=>E) 89:=cu EM
  have kX:=gG S Q.ty
  have⟨Bt,Dl,F6⟩:=zI kX Br wT zU
  have GJ:=(⟨S.below yG.b yG.b.size kg4⟩:Bw G _)
  have I:=S.below Z Z.size (by omega)
  refine av (au (bV m (fun x=>bO x v.o v.bH) (m.T.path (v.node))))<|aD<|Ws<|ay<|av (au (bV m (fun x=>bO x v.o v.bH) (m.T.path (v.node)))) ?_
  by_cases D:(bV m (fun x=>bO x v.o v.bH) (m.T.path (v.node)))=0
  ·refine Lv aF (kW D)<|aD<|aK<|Wk<|sN<|ay<|Lv (.func (.func 123) #[] #[(pt l),(pt A),(pt k),(pt d)]) (Fx.jl (us := []) (vs := [(pt l),(pt A),(pt k),(pt d)]) rfl rfl rfl)<|av (.func (.func 123) #[] #[(pt l),(pt A),(pt k),(pt d)])<|av (au 0)<|aD<|Wr<|aN (.tuple #[.func (.func 123) #[] #[(pt l),(pt A),(pt k),(pt d)],au 0]) ?_
   have hD0:=hD1 D
   have hfe:=hD0.e
   subst hfe
   have b01:w.heap.size<=D9.heap.size:=by omega
   have f:kN m v=0:=by unfold kN; rw[if_neg (show ¬ kr m v.o v.req=true by unfold kr; rw[nO gK]; decide)]; rw[if_neg (by rw[q]; decide)]; exact D
   exact⟨⟨_,123,#[(pt l),(pt A),(pt k),(pt d)],by rw[f],rfl,fun _=>⟨rfl,⟨_,_,Tryd.func123,rfl,rfl⟩,fun w2 s=>(OB m lp B w2 ((h.up I).up s) v L hwf (OD m v).R D9.heap.size w.heap.size _ (by omega) _ (hD0.up (Ei GJ.b s)) _ _ _ _ (xV.eG (Sb s) (Nat.ne_of_lt xV.lt)) (Bt.eG (Sb s) (Nat.ne_of_lt Bt.lt)) (F6.eG (Sb s) (Nat.ne_of_lt F6.lt)) (Dl.eG (Sb s) (Nat.ne_of_lt Dl.lt)) ⟨by omega,by omega,by omega⟩ gK (fun i hi e=>by have q9:=hga i hi; obtain⟨j9,hj9,e9,f9⟩:=mW.1 q9; exact gK j9 hj9 ⟨e9.trans e.1,f9.trans e.2⟩)).mono fun _ _ K=>⟨K.1,K.2.1,K.2.2.mono fun _ hk=>hk⟩⟩⟩,I⟩
  refine Lv aG (qV D)<|aD<|aQ<|ay<|av (au (bV m (fun x=>bO x v.o v.bH) (m.T.path (v.node))))<|av (.nilFunc)<|av (au (bV m (fun x=>bO x v.o v.bH) (m.T.path (v.node))))<|aD<|Wr<|sR<|aN (.tuple #[.nilFunc,au (bV m (fun x=>bO x v.o v.bH) (m.T.path (v.node)))]) ?_
  have f:kN m v=bV m (fun x=>bO x v.o v.bH) (m.T.path (v.node)):=by unfold kN; rw[if_neg (show ¬ kr m v.o v.req=true by unfold kr; rw[nO gK]; decide)]; rw[if_neg (by rw[q]; decide)]
  exact⟨⟨.nilFunc,0,#[],by rw[f],rfl,fun u=>absurd (f.symm.trans u) (by first|decide|omega|assumption)⟩,I⟩
 rw[Bool.not_eq_true]at q
 refine mH (Sq v.node sO) aF (by rw[q])<|Ln<|aU aG<|bF<|aQ<|ay<|av (.nilFunc)<|av (au 9)<|aD<|Wr<|sR<|aN (.tuple #[.nilFunc,au 9]) ?_
 have f:kN m v=9:=by unfold kN; rw[if_neg (show ¬ kr m v.o v.req=true by unfold kr; rw[nO gK]; decide)]; exact if_pos q
 exact⟨⟨.nilFunc,0,#[],by rw[f],rfl,fun u=>absurd (f.symm.trans u) (by first|decide|omega|assumption)⟩,H⟩
theorem QE(m:dG)(lp B:Nat)(w:World)(h:je w B lp m)(v:EvM)(hv:cZ v=true)(hwf:jR v) :
 Calls Tryd.prog 111 #[(pt lp),.agg (aA 14 (dz v))] w fun e w'=>Lb w B lp m (ql m v) (jL m v) e w':=by
 have hC:=h.c
 have hT:=h.t
 have hP:=h.p
 have hR:=h.r
 have hG:=h.g
 have hA:=h.a
 have hN:=h.ne
 have lC:=h.c.lt
 have lT:=h.t.lt
 have lP:=h.p.lt
 have lR:=h.r.lt
 have lG:=h.g.lt
 have lA:=h.a.lt
 obtain⟨a,ha,ho⟩ : ∃ a:Nat,a<6/\v.o=(a:Int)+1:=dZ (iQ hv)
 have hra:bD v=a:=by unfold bD; omega
 have aa:=zn hv hwf
 have hvo:1<=v.o/\v.o<=6:=by omega
 refine Kent Tryd.func111 56 ?_
 refine ay<|qE ((pt lp)) fun J w1 nk m1 s1 z1 => ?_
 have⟨m2,m4,m5,m6,m7,b1⟩:=vw s1.old hC hP hR hG hA (Below.refl w.heap.size w)
 have wF:=gY nk
 have⟨nH,rY,vU,vV,vW⟩:=vB nk hC.lt hP.lt hR.lt hG.lt hA.lt
 have wQ:=m1.lt
 refine sG fun n w2 uW D s2 z2 => ?_
 have⟨m9,m11,m12,m13,m14,m15,b2⟩:=Da s2.old m2 m4 m5 m6 m7 m1 b1
 have yH:=gM uW b1.size
 have⟨Jv,DL,DN,Aj,og,uF⟩:=Dc uW m2.lt m4.lt m5.lt m6.lt m7.lt m1.lt
 have Ba:=D.lt
 refine av (.nilFunc)<|av (au 0)<|aD<|Ws ?_
 -- region 1 draws
 refine Aq (T1:=70) (T2:=70) (T1':=70) (T2':=70) (a1 := .tmp 6) (v1 := .tmp 16) (a2 := .tmp 7) (v2 := .tmp 21) (m1:=2) (m2:=2) (z1:=fun d=>if d<1 then au 0 else aC 0) (y1:=bC (bC (fun d=>if d<1 then au 0 else aC 0) 0 1 (fun _=>au v.o)) 1 1 (fun _=>aC v.req)) (z2:=fun d=>if d<1 then au 0 else aC 0) (y2:=bC (bC (fun d=>if d<1 then au 0 else aC 0) 0 1 (fun _=>au v.o)) 1 1 (fun _=>aC v.of)) (u1 := .agg (aA 2 (bC (bC (fun d=>if d<1 then au 0 else aC 0) 0 1 (fun _=>au v.o)) 1 1 (fun _=>aC v.req)))) (u2 := .agg (aA 2 (bC (bC (fun d=>if d<1 then au 0 else aC 0) 0 1 (fun _=>au v.o)) 1 1 (fun _=>aC v.of)))) 10 11 12 13 [[],[],[],[],[],[],[],[],[],[],[],[],[(0,[10]),(1,[11])],[(0,[10]),(1,[11]),(2,[12])]] [[(2,[0]),(3,[0])],[(2,[1]),(3,[1])],[(2,[2]),(3,[2])],[(2,[3]),(3,[3])],[(2,[4]),(3,[4])],[(3,[5])],[(3,[6])],[(3,[7])],[(3,[8])],[(3,[9])],[(2,[10]),(3,[10])],[(2,[11]),(3,[11])],[(3,[12])],[]] #[(pt n),au v.o,(pf n 12),aC v.req,.agg (aA 2 (bC (bC (fun d=>if d<1 then au 0 else aC 0) 0 1 (fun _=>au v.o)) 1 1 (fun _=>aC v.req))),(pt n),au v.o,(pf n 13),aC v.of,.agg (aA 2 (bC (bC (fun d=>if d<1 then au 0 else aC 0) 0 1 (fun _=>au v.o)) 1 1 (fun _=>aC v.of))),undef,undef,undef,undef] (by kernel_rfl) (by kernel_rfl) (by kernel_rfl) (by kernel_rfl) (by kernel_rfl) (by kernel_rfl) (by kernel_rfl) (by kernel_rfl) (by kernel_rfl) (by kernel_rfl) rfl rfl (by kernel_rfl) (by kernel_rfl) rfl rfl rfl rfl (by kernel_rfl) (by kernel_rfl) (fun k l=>(show ev _ (.tmp 6)=(pt k)from by kernel_rfl)) (fun k l=>(show ev _ (.tmp 7)=(pt l)from by kernel_rfl)) (fun k l=>(show ev _ (.tmp 16) = .agg (aA 2 (bC (bC (fun d=>if d<1 then au 0 else aC 0) 0 1 (fun _=>au v.o)) 1 1 (fun _=>aC v.req)))from by kernel_rfl)) (fun k l=>(show ev _ (.tmp 21) = .agg (aA 2 (bC (bC (fun d=>if d<1 then au 0 else aC 0) 0 1 (fun _=>au v.o)) 1 1 (fun _=>aC v.of)))from by kernel_rfl)) (bA _ _) (bA _ _) (aY (aY (fun jq _=>by show((fun d=>if d<1 then au 0 else aC 0:Nat->Value) jq).oneCell'=true; simp only[]; repeat (first|rfl|split)) (fun _ _=>rfl)) (fun _ _=>rfl)) (aY (aY (fun jq _=>by show((fun d=>if d<1 then au 0 else aC 0:Nat->Value) jq).oneCell'=true; simp only[]; repeat (first|rfl|split)) (fun _ _=>rfl)) (fun _ _=>rfl)) (fun k l => ?_) ?_
 ·refine⟨?_,?_,?_,?_,?_,?_,?_,?_,?_,?_,?_,?_,?_,?_,trivial⟩
  ·exact .inr TM
  ·exact .inr (Pk (au v.o) fun F u=>bf (x:=dz v) rfl (show ev _ (.tmp 12)=(pt n)from by kernel_rfl) (by kernel_rfl) (D.aJ.below u (by have:=D.lt; omega)) (i:=0) (by omega) (by omega) rfl)
  ·exact .inr TM
  ·exact .inr (Pk (aC v.req) fun F u=>bf (x:=dz v) rfl (show ev _ (.tmp 14)=(pf n 12)from by kernel_rfl) (by kernel_rfl) (D.aJ.below u (by have:=D.lt; omega)) (i:=12) (by omega) (by omega) rfl)
  ·exact .inr (Pk (.agg (aA 2 (bC (bC (fun d=>if d<1 then au 0 else aC 0) 0 1 (fun _=>au v.o)) 1 1 (fun _=>aC v.req)))) fun F u=>eP (vs := [(0,au v.o),(1,aC v.req)]) (places := #[(0,1),(1,1)]) (m:=2) (x:=fun d=>if d<1 then au 0 else aC 0) rfl (Fx.LC (show ev _ (.tmp 13)=au v.o from by kernel_rfl) (show ev _ (.tmp 15)=aC v.req from by kernel_rfl)) Tryd.underlying70 (by kernel_rfl) (by kernel_rfl) (by rw[aX (off:=0) (s:=1) (y:=fun _=>au v.o) (by kernel_rfl) (cells_one (by rfl)) (by rfl)]; rw[aX (off:=1) (s:=1) (y:=fun _=>aC v.req) (by kernel_rfl) (cells_one (by rfl)) (by rfl)]; rfl))
  ·exact .inr TM
  ·exact .inr (Pk (au v.o) fun F u=>bf (x:=dz v) rfl (show ev _ (.tmp 17)=(pt n)from by kernel_rfl) (by kernel_rfl) (D.aJ.below u (by have:=D.lt; omega)) (i:=0) (by omega) (by omega) rfl)
  ·exact .inr TM
  ·exact .inr (Pk (aC v.of) fun F u=>bf (x:=dz v) rfl (show ev _ (.tmp 19)=(pf n 13)from by kernel_rfl) (by kernel_rfl) (D.aJ.below u (by have:=D.lt; omega)) (i:=13) (by omega) (by omega) rfl)
  ·exact .inr (Pk (.agg (aA 2 (bC (bC (fun d=>if d<1 then au 0 else aC 0) 0 1 (fun _=>au v.o)) 1 1 (fun _=>aC v.of)))) fun F u=>eP (vs := [(0,au v.o),(1,aC v.of)]) (places := #[(0,1),(1,1)]) (m:=2) (x:=fun d=>if d<1 then au 0 else aC 0) rfl (Fx.LC (show ev _ (.tmp 18)=au v.o from by kernel_rfl) (show ev _ (.tmp 20)=aC v.of from by kernel_rfl)) Tryd.underlying70 (by kernel_rfl) (by kernel_rfl) (by rw[aX (off:=0) (s:=1) (y:=fun _=>au v.o) (by kernel_rfl) (cells_one (by rfl)) (by rfl)]; rw[aX (off:=1) (s:=1) (y:=fun _=>aC v.of) (by kernel_rfl) (cells_one (by rfl)) (by rfl)]; rfl))
  ·exact .inl rfl
  ·exact .inl rfl
  ·exact .inl rfl
  exact .inl rfl
 rintro k l w3 Y P G H ne1 m16 m17 hb1
 have NQ:lp≠k:=Nat.ne_of_lt (Nat.lt_of_lt_of_le (m9.lt) G)
 have OG:m.pb≠k:=Nat.ne_of_lt (Nat.lt_of_lt_of_le (m11.lt) G)
 have VF:m.rb≠k:=Nat.ne_of_lt (Nat.lt_of_lt_of_le (m12.lt) G)
 have VG:m.gb≠k:=Nat.ne_of_lt (Nat.lt_of_lt_of_le (m13.lt) G)
 have VH:m.ab≠k:=Nat.ne_of_lt (Nat.lt_of_lt_of_le (m14.lt) G)
 have VI:J≠k:=Nat.ne_of_lt (Nat.lt_of_lt_of_le (m15.lt) G)
 have NP:n≠k:=Nat.ne_of_lt (Nat.lt_of_lt_of_le (D.lt) G)
 have agh:lp≠l:=Nat.ne_of_lt (Nat.lt_of_lt_of_le (m9.lt) H)
 have adh:m.pb≠l:=Nat.ne_of_lt (Nat.lt_of_lt_of_le (m11.lt) H)
 have adi:m.rb≠l:=Nat.ne_of_lt (Nat.lt_of_lt_of_le (m12.lt) H)
 have adj:m.gb≠l:=Nat.ne_of_lt (Nat.lt_of_lt_of_le (m13.lt) H)
 have VJ:m.ab≠l:=Nat.ne_of_lt (Nat.lt_of_lt_of_le (m14.lt) H)
 have OH:J≠l:=Nat.ne_of_lt (Nat.lt_of_lt_of_le (m15.lt) H)
 have agi:n≠l:=Nat.ne_of_lt (Nat.lt_of_lt_of_le (D.lt) H)
 have⟨m18,m20,m21,m22,m23,m24,qK,b3⟩:=Bd hb1 m9 m11 m12 m13 m14 m15 D b2
 have G:w.heap.size<=k:=Nat.le_trans b2.size G
 have Ga:=m16.lt
 have H:w.heap.size<=l:=Nat.le_trans b2.size H
 have Js:=m17.lt
 have q1:Y 2=(pt J):=by rw[P]; kernel_rfl
 have q2:Y 3=(pt n):=by rw[P]; kernel_rfl
 have q5:Y 6=(pt k):=by rw[P]; kernel_rfl
 have q6:Y 7=(pt l):=by rw[P]; kernel_rfl
 clear P
 refine sN<|Ws<|Ws ?_
 -- region 2 draws
 refine jS [0,1,2,3,4,5] [4,0,0,4,4,4] [] fun qY fO iC => ?_
 have⟨qL,uU,qZ,tH,lJ,m32,oD,nI,qM,b4⟩:=ou fO m18 m20 m21 m22 m23 m24 qK m16 m17 b3
 refine Rs ((pt lp)) (aP m32.aJ 0 (ha:=q1)) ?_
 refine aU ((pt lp))<|aU ((pf lp 28))<|Rs (.map (some m.ab)) (aP qL.aJ 28) ?_
 refine Rs (.agg (aA 2 (bC (bC (fun d=>if d<1 then au 0 else aC 0) 0 1 (fun _=>au v.o)) 1 1 (fun _=>aC v.req)))) (gW nI.aJ 0 (ha:=q5)) ?_
 rcases Fx.qW m.ao m.ar m.an v.o v.req with ⟨Oe,yc,yg,FK⟩|gK
 ·refine Rs aG (Fx.Ey (z := .bool false) rfl rfl ((show ev _ _ = .agg (aA 2 (bC (bC (fun d=>if d<1 then au 0 else aC 0) 0 1 (fun _=>au v.o)) 1 1 (fun _=>aC v.req)))from rfl).trans (Fx.tX (y:=bC (bC (fun d=>if d<1 then au 0 else aC 0) 0 1 (fun _=>au v.o)) 1 1 (fun _=>aC v.req)) (a:=v.o) (b:=v.req) (Fx.uZ (by omega) (Fx.nR (j:=0) (by omega) (by omega) rfl)) (Fx.nR (j:=0) (by omega) (by omega) rfl))) aa.1 lJ Tryd.underlying56 Bv (by rfl) yc yg FK rfl) ?_
  refine bF<|aQ<|ay<|av (.nilFunc)<|av (au 14)<|aD<|Wr<|sR<|aN (.tuple #[.nilFunc,au 14]) ?_
  have A:jL m v=14:=by unfold jL; exact if_pos (wo yc yg FK)
  exact⟨⟨.nilFunc,0,#[],by rw[A],rfl,fun K=>absurd (A.symm.trans K) (by first|decide|omega|assumption)⟩,b4⟩
 refine Rs aF (Fx.Ew (z := .bool false) rfl rfl ((show ev _ _ = .agg (aA 2 (bC (bC (fun d=>if d<1 then au 0 else aC 0) 0 1 (fun _=>au v.o)) 1 1 (fun _=>aC v.req)))from rfl).trans (Fx.tX (y:=bC (bC (fun d=>if d<1 then au 0 else aC 0) 0 1 (fun _=>au v.o)) 1 1 (fun _=>aC v.req)) (a:=v.o) (b:=v.req) (Fx.uZ (by omega) (Fx.nR (j:=0) (by omega) (by omega) rfl)) (Fx.nR (j:=0) (by omega) (by omega) rfl))) aa.1 lJ Tryd.underlying56 Bv (by rfl) gK) ?_
 refine bF<|aK<|Wk<|sN<|Ws ?_
 -- region 4 draws
 refine jS [0,1,2,3,4,5,6,7,8,9,10,11] [1,0,0,1,1,1,0,0,0,2,3,0] [(10,0,[0]),(10,3,[3]),(10,4,[4]),(10,5,[5]),(10,9,[9]),(11,9,[9]),(11,10,[10])] fun D9 jX oC => ?_
 have⟨Q,qF,sM,S,pW,U,qN,ru,V,W⟩:=ou jX qL uU qZ tH lJ m32 oD nI qM b4
 refine Rd (v:=(pt lp)) (by rfl) (by rfl) (nT _) (fun F u=>bf (x:=fun _=>(pt lp)) rfl q1 (by kernel_rfl) (U.aJ.below u (by have:=U.lt; omega)) (i:=0) (by omega) (by omega) rfl) ?_
 refine aU ((pt lp))<|aU ((pf lp 27))<|Rd (v := .map (some m.gb)) (by rfl) (by rfl) (nT _) (fun F u=>bf (x:=oO m) rfl rfl (by kernel_rfl) (Q.aJ.below u (by have:=Q.lt; omega)) (i:=27) (by omega) (by omega) rfl) ?_
 refine Rd (v := .agg (aA 2 (bC (bC (fun d=>if d<1 then au 0 else aC 0) 0 1 (fun _=>au v.o)) 1 1 (fun _=>aC v.of)))) (by rfl) (by rfl) (nT _) (fun F u=>dH (x:=bC (bC (fun d=>if d<1 then au 0 else aC 0) 0 1 (fun _=>au v.o)) 1 1 (fun _=>aC v.of)) (y:=bC (bC (fun d=>if d<1 then au 0 else aC 0) 0 1 (fun _=>au v.o)) 1 1 (fun _=>aC v.of)) rfl q6 (by kernel_rfl) (by kernel_rfl) (V.aJ.below u (by have:=V.lt; omega)) (i:=0) (by omega) (by omega) (fun j _=>by rw[Nat.zero_add])) ?_
 rcases Fx.qW (fun i=>m.g i 0) (fun i=>m.g i 1) m.gn v.o v.of with ⟨f,O,L,M⟩|SH
 ·refine Rd (v := .tuple #[.agg (aA 5 (jP (m.g f))),.bool true]) (by rfl) (by rfl) (nT _) (fun F u=>Fx.Kj (z := .agg (aA 5 (fun d=>if d<1 then au 0 else if d<3 then aC 0 else if d<4 then au 0 else aC 0))) rfl rfl ((show ev _ _ = .agg (aA 2 (bC (bC (fun d=>if d<1 then au 0 else aC 0) 0 1 (fun _=>au v.o)) 1 1 (fun _=>aC v.of)))from rfl).trans (Fx.tX (y:=bC (bC (fun d=>if d<1 then au 0 else aC 0) 0 1 (fun _=>au v.o)) 1 1 (fun _=>aC v.of)) (a:=v.o) (b:=v.of) (Fx.uZ (by omega) (Fx.nR (j:=0) (by omega) (by omega) rfl)) (Fx.nR (j:=0) (by omega) (by omega) rfl))) aa.2 (S.up u) Tryd.underlying55 Bv (by kernel_rfl) O L M rfl) ?_
  refine aU (.tuple #[.agg (aA 5 (jP (m.g f))),.bool true])<|aU (.agg (aA 5 (jP (m.g f))))<|aU aG<|zG<|lM 5 (fun d=>if d<1 then au 0 else if d<3 then aC 0 else if d<4 then au 0 else aC 0) fun C w4 QF sO s6 z3 => ?_
  have⟨xR,wS,uh,vI,wG,vJ,Bo,wH,vK,b6⟩:=ou s6.old Q qF sM S pW U qN ru V W
  have VK:=gM QF W.size
  have⟨VL,adk,VN,VO,VP,VQ,adl,adn,ado⟩:=PG QF Q.lt qF.lt sM.lt S.lt pW.lt U.lt qN.lt ru.lt V.lt
  have YQ:=sO.lt
  refine Ln ⟨s6.old,?_⟩
  refine gP<|eX sO 0 (h1:=(fun j hj=>by rcases j with _|_|_|_|_|_|_|_|_|_|_|_|_|_|j <;> first|rfl|omega)) fun w5 sP s7 z4 => ?_
  have wI:aL w5 C 5 (jP (m.g f)) 72:=aM sP
  have ac:aL w5 C 5 (jP (m.g f)) 72:=wI
  have iq:=gG s7 sO.ty
  have⟨oF,qy,xU,m64,Bp,Bq,yF,zT,vL⟩:=TP iq xR wS uh vI wG vJ Bo wH vK
  have b7:=s7.below b6 b6.size (by omega)
  refine Ln<|aU aG<|bF<|Ws<|ay<|av aG<|av aF<|av aF<|av ((pf C 4))<|Lv (aC ((m.g f) 4)) (aP ac.aJ 4) ?_
  by_cases R7:((m.g f) 4)=0
  ·refine Lv aF (kW R7)<|av aF<|aD<|aK<|Wk<|sN<|ay<|Lv ((pt lp)) (aP Bq.aJ 0 (ha:=q1))<|av ((pf C 2))<|Lv (aC ((m.g f) 2)) (aP ac.aJ 2)<|Lv (.func (.func 124) #[] #[(pt n),(pt C)]) (Fx.jl (us := []) (vs := [(pt n),(pt C)]) rfl rfl (Fx.args2 q2 rfl))<|jy (Oz m lp B _ (h.up b7) ((m.g f) 2) v (m.g f) hvo n C yF ac) ?_
   rintro e9 w6 ⟨⟨Z,fi1,Bl,he,ho1,hD1⟩,E⟩
   refine⟨_,he,?_⟩
   clear he
   have⟨Br,zU,yG,EM,xV,BS,Ea,BU,A9,zV,b8⟩:=zH E oF qy xU m64 Bp Bq yF zT vL ac b7
   have bw1:Bw w6 w6:=⟨Below.refl _ _⟩
   refine av (.tuple #[Z,au (bV m (fun x=>bP x v.o (m.g f 3)) (m.T.path ((m.g f) 2)))])<|av (Z)<|av (au (bV m (fun x=>bP x v.o (m.g f 3)) (m.T.path ((m.g f) 2))))<|lM 1 (fun _ => .nilFunc) fun N w7 VR yX s9 z5 => ?_
   have⟨F7,GK,F8,JE,KQ,Gc,b9⟩:=Da s9.old BS Ea BU A9 zV bw1 b8
   have lg6:=gM VR b8.size
   have⟨adq,adr,ads,adt,adu,adv,adw,adx,ady,adz⟩:=RV VR Br.lt zU.lt yG.lt EM.lt xV.lt BS.lt Ea.lt BU.lt A9.lt zV.lt
   have tg6:=yX.lt
   have kg6:w6.heap.size<=N:=by rw[VR]; exact bw1.b.size
   refine mZ yX 0 Z (h1:=ho1) fun w8 H6 s10 z6 => ?_
   have FE:aL w8 N 1 (fun _=>Z) 89:=cu H6
   have kX:=gG s10 yX.ty
   have⟨Am,Ao,BA,uM,wh⟩:=LH kX F7 GK F8 JE KQ
   have xB:=(⟨s10.below Gc.b Gc.b.size kg6⟩:Bw w6 _)
   have b10:=s10.below b9 b9.size (by omega)
   refine av (au (bV m (fun x=>bP x v.o (m.g f 3)) (m.T.path ((m.g f) 2))))<|aD<|Ws<|ay<|av (au (bV m (fun x=>bP x v.o (m.g f 3)) (m.T.path ((m.g f) 2)))) ?_
   by_cases X:(bV m (fun x=>bP x v.o (m.g f 3)) (m.T.path ((m.g f) 2)))=0
   ·refine Lv aF (kW X)<|aD<|aK<|Wk<|sN<|ay<|Lv (.func (.func 126) #[] #[(pt N),(pt J),(pt k),(pt n),(pt C),(pt l)]) (Fx.jl (us := []) (vs := [(pt N),(pt J),(pt k),(pt n),(pt C),(pt l)]) rfl rfl (Fx.YP rfl q1 q5 q2 rfl q6))<|av (.func (.func 126) #[] #[(pt N),(pt J),(pt k),(pt n),(pt C),(pt l)])<|av (au 0)<|aD<|Wr<|aN (.tuple #[.func (.func 126) #[] #[(pt N),(pt J),(pt k),(pt n),(pt C),(pt l)],au 0]) ?_
    have I:mX m v.o v.of=f:=wu h.g.inj O L M
    have hD0:=hD1 X
    have hfe:=hD0.e
    subst hfe
    have em:ql m v=JI m (mU m (fun x=>bP x v.o (m.g f 3)) (m.T.path (m.g f 2))).R v f:=by unfold ql OE; rw[I]
    rw[em]
    have A:jL m v=0:=by unfold jL; rw[if_neg (show ¬ kr m v.o v.req=true by unfold kr; rw[nO gK]; decide)]; rw[if_neg (show ¬ (DX m v.o v.of=false\/m.g (mX m v.o v.of) 4≠0) by rw[I,show DX m v.o v.of=true from wo O L M]; rintro (q|q) <;> first|(exact absurd q (by decide))|omega),I]; exact X
    exact⟨⟨_,126,#[(pt N),(pt J),(pt k),(pt n),(pt C),(pt l)],by rw[A],rfl,fun _=>⟨rfl,⟨_,_,Tryd.func126,rfl,rfl⟩,fun w2 E=>(OC m lp B w2 ((h.up b10).up E) v hv hwf _ w5.heap.size w.heap.size _ (by omega) _ (hD0.up (Ei xB.b E)) f _ _ _ _ _ _ (FE.eG (Sb E) (Nat.ne_of_lt FE.lt)) (Am.eG (Sb E) (Nat.ne_of_lt Am.lt)) (BA.eG (Sb E) (Nat.ne_of_lt BA.lt)) (Ao.eG (Sb E) (Nat.ne_of_lt Ao.lt)) (wh.eG (Sb E) (Nat.ne_of_lt wh.lt)) (uM.eG (Sb E) (Nat.ne_of_lt uM.lt)) VK ⟨by omega,by omega,by omega,by omega,by omega⟩ gK O L M).mono fun _ _ hc=>⟨hc.1,hc.2.1,hc.2.2.mono fun _ hk=>hk⟩⟩⟩,b10⟩
   refine Lv aG (qV X)<|aD<|aQ<|ay<|av (au (bV m (fun x=>bP x v.o (m.g f 3)) (m.T.path ((m.g f) 2))))<|av (.nilFunc)<|av (au (bV m (fun x=>bP x v.o (m.g f 3)) (m.T.path ((m.g f) 2))))<|aD<|Wr<|sR<|aN (.tuple #[.nilFunc,au (bV m (fun x=>bP x v.o (m.g f 3)) (m.T.path ((m.g f) 2)))]) ?_
   have I:mX m v.o v.of=f:=wu h.g.inj O L M
   have A:jL m v=bV m (fun x=>bP x v.o (m.g f 3)) (m.T.path ((m.g f) 2)):=by unfold jL; rw[if_neg (show ¬ kr m v.o v.req=true by unfold kr; rw[nO gK]; decide)]; rw[if_neg (show ¬ (DX m v.o v.of=false\/m.g (mX m v.o v.of) 4≠0) by rw[I,show DX m v.o v.of=true from wo O L M]; rintro (q|q) <;> first|(exact absurd q (by decide))|omega),I]
   exact⟨⟨.nilFunc,0,#[],by rw[A],rfl,fun K=>absurd (A.symm.trans K) (by first|decide|omega|assumption)⟩,b10⟩
  refine Lv aG (qV R7)<|av aG<|aD<|aQ<|ay<|av (.nilFunc)<|av (au 12)<|aD<|Wr<|sR<|aN (.tuple #[.nilFunc,au 12]) ?_
  have I:mX m v.o v.of=f:=wu h.g.inj O L M
  have A:jL m v=12:=by unfold jL; rw[if_neg (show ¬ kr m v.o v.req=true by unfold kr; rw[nO gK]; decide)]; exact if_pos (.inr (by rw[I]; omega))
  exact⟨⟨.nilFunc,0,#[],by rw[A],rfl,fun K=>absurd (A.symm.trans K) (by first|decide|omega|assumption)⟩,b7⟩
 refine Rd (v := .tuple #[.agg (aA 5 (fun d=>if d<1 then au 0 else if d<3 then aC 0 else if d<4 then au 0 else aC 0)),.bool false]) (by rfl) (by rfl) (nT _) (fun F u=>Fx.Ki (z := .agg (aA 5 (fun d=>if d<1 then au 0 else if d<3 then aC 0 else if d<4 then au 0 else aC 0))) rfl rfl ((show ev _ _ = .agg (aA 2 (bC (bC (fun d=>if d<1 then au 0 else aC 0) 0 1 (fun _=>au v.o)) 1 1 (fun _=>aC v.of)))from rfl).trans (Fx.tX (y:=bC (bC (fun d=>if d<1 then au 0 else aC 0) 0 1 (fun _=>au v.o)) 1 1 (fun _=>aC v.of)) (a:=v.o) (b:=v.of) (Fx.uZ (by omega) (Fx.nR (j:=0) (by omega) (by omega) rfl)) (Fx.nR (j:=0) (by omega) (by omega) rfl))) aa.2 (S.up u) Tryd.underlying55 Bv (by kernel_rfl) SH) ?_
 refine aU (.tuple #[.agg (aA 5 (fun d=>if d<1 then au 0 else if d<3 then aC 0 else if d<4 then au 0 else aC 0)),.bool false])<|aU (.agg (aA 5 (fun d=>if d<1 then au 0 else if d<3 then aC 0 else if d<4 then au 0 else aC 0)))<|aU aF<|zG<|lM 5 (fun d=>if d<1 then au 0 else if d<3 then aC 0 else if d<4 then au 0 else aC 0) fun g7 w9 eg7 Aw s11 z7 => ?_
 have b11:=aR s11.old W
 have lg7:=gM eg7 W.size
 have⟨aag,aah,aai,aaj,aak,aal,aam,aan,aao⟩:=PG eg7 Q.lt qF.lt sM.lt S.lt pW.lt U.lt qN.lt ru.lt V.lt
 have tg7:=Aw.lt
 refine Ln ⟨s11.old,?_⟩
 refine gP<|eX Aw 0 (h1:=(fun j hj=>by rcases j with _|_|_|_|_|_|_|_|_|_|_|_|_|_|j <;> first|rfl|omega)) fun zR Au s12 z8 => ?_
 have Ib:aL zR g7 5 (fun d=>if d<1 then au 0 else if d<3 then aC 0 else if d<4 then au 0 else aC 0) 72:=aM Au
 have b12:=s12.below b11 b11.size (by omega)
 refine Ln<|aU aF<|bF<|Ws<|ay<|av aF<|av aG<|av aG<|cO<|cO<|cO<|av aG<|aD<|aQ<|ay<|av (.nilFunc)<|av (au 12)<|aD<|Wr<|sR<|aN (.tuple #[.nilFunc,au 12]) ?_
 have A:jL m v=12:=by unfold jL; rw[if_neg (show ¬ kr m v.o v.req=true by unfold kr; rw[nO gK]; decide)]; exact if_pos (.inl (nO SH))
 exact⟨⟨.nilFunc,0,#[],by rw[A],rfl,fun K=>absurd (A.symm.trans K) (by first|decide|omega|assumption)⟩,b12⟩
set_option maxRecDepth 20000
set_option linter.unusedVariables false
namespace Rt
noncomputable def iy(m:dG)(v:EvM):dG:=if v.kind=1 then Cv m v else if v.kind=2 then uL m v else if v.kind=3 then su m v else if v.kind=4 then ql m v else if v.kind=5 then Fw m v else if v.kind=6 then Fy m v else Ai m v
def fF(m:dG)(v:EvM):Int:=if v.kind=1 then ko m v else if v.kind=2 then kg m v else if v.kind=3 then kN m v else if v.kind=4 then jL m v else if v.kind=5 then kM m v else if v.kind=6 then 0 else 0
def bI(m:dG)(v:EvM):Int:=if cZ v=false then 1 else if xW m.known v=true then 14 else if iw m.known v=false then 13 else if m.inn (bD v)=false\/m.left (bD v)=true then 10 else fF m v
structure YR(m:dG):Prop where
 own : ∀ a,a<6->0<=m.own a/\m.own a<=1000
 row : ∀ i,i<m.T.n -> ∀ p,p<54->0<=m.R i p/\m.R i p<=1125899906842624
 ga:VB m
 kn:EP m.known
def YS(k:Nat):Nat:=if k=1 then 108 else if k=2 then 109 else if k=3 then 110 else if k=4 then 111 else if k=5 then 112 else if k=6 then 113 else 114
def wz:Nat->Value:=fun p=>if p=0 then .nilFunc else .func (.func (YS p)) #[] #[]
theorem QG{p:Nat}(h:1<=p):wz p = .func (.func (YS p)) #[] #[]:=if_neg (by omega)
end Rt
theorem YT {k : Nat} (h1 : 1 ≤ k) (b : k ≤ 7) : ∃ a c, Tryd.prog.funcs[YS k]? = some a ∧ (a.name == "runtime.NumGoroutine") = false ∧ a.body = some c := by
 rcases(show k=1\/k=2\/k=3\/k=4\/k=5\/k=6\/k=7 by omega)with rfl|rfl|rfl|rfl|rfl|rfl|rfl
 ·exact⟨_,_,Tryd.func108,rfl,rfl⟩
 ·exact⟨_,_,Tryd.func109,rfl,rfl⟩
 ·exact⟨_,_,Tryd.func110,rfl,rfl⟩
 ·exact⟨_,_,Tryd.func111,rfl,rfl⟩
 ·exact⟨_,_,Tryd.func112,rfl,rfl⟩
 ·exact⟨_,_,Tryd.func113,rfl,rfl⟩
 exact⟨_,_,Tryd.func114,rfl,rfl⟩
theorem ND.low{w:World}{B lp b c d:Nat}{m f:dG}{e:Value}{cap:Array Value}(h:ND w B lp m f b e d cap)(g:c<=b):ND w B lp m f c e d cap := { h with s:=fun l i=>(h.s l i).mono fun _ _ a=>⟨a.1,a.2.1,a.2.2.mono fun k j=>j.imp id (Nat.le_trans g)⟩ }
theorem QH(m:dG)(lp B:Nat)(w:World)(h:je w B lp m)(v:EvM)(c:cZ v=true)(e:jR v)(d:YR m)(k:Nat)(j:v.kind=(k:Int))(i:1<=k/\k<=7) :
 Calls Tryd.prog (YS k) #[(pt lp),.agg (aA 14 (dz v))] w (Lb w B lp m (iy m v) (fF m v)):=by
 rcases(show k=1\/k=2\/k=3\/k=4\/k=5\/k=6\/k=7 by omega)with rfl|rfl|rfl|rfl|rfl|rfl|rfl
 ·have a:v.kind=1:=by omega
  rw[show iy m v=Cv m v by unfold iy; rw[if_pos (by omega)],show fF m v=ko m v by unfold fF; rw[if_pos (by omega)]]
  exact Qy m lp B w h v c d.own
 ·have a:v.kind=2:=by omega
  rw[show iy m v=uL m v by unfold iy; rw[if_neg (by omega),if_pos (by omega)],show fF m v=kg m v by unfold fF; rw[if_neg (by omega),if_pos (by omega)]]
  exact NV m lp B w h v c a d.row
 ·have a:v.kind=3:=by omega
  rw[show iy m v=su m v by unfold iy; rw[if_neg (by omega),if_neg (by omega),if_pos (by omega)],show fF m v=kN m v by unfold fF; rw[if_neg (by omega),if_neg (by omega),if_pos (by omega)]]
  exact QD m lp B w h v c e d.ga
 ·have a:v.kind=4:=by omega
  rw[show iy m v=ql m v by unfold iy; rw[if_neg (by omega),if_neg (by omega),if_neg (by omega),if_pos (by omega)],show fF m v=jL m v by unfold fF; rw[if_neg (by omega),if_neg (by omega),if_neg (by omega),if_pos (by omega)]]
  exact QE m lp B w h v c e
 ·have a:v.kind=5:=by omega
  rw[show iy m v=Fw m v by unfold iy; rw[if_neg (by omega),if_neg (by omega),if_neg (by omega),if_neg (by omega),if_pos (by omega)],show fF m v=kM m v by unfold fF; rw[if_neg (by omega),if_neg (by omega),if_neg (by omega),if_neg (by omega),if_pos (by omega)]]
  exact Qh m lp B w h v c a
 ·have a:v.kind=6:=by omega
  rw[show iy m v=Fy m v by unfold iy; rw[if_neg (by omega),if_neg (by omega),if_neg (by omega),if_neg (by omega),if_neg (by omega),if_pos (by omega)],show fF m v=0 by unfold fF; rw[if_neg (by omega),if_neg (by omega),if_neg (by omega),if_neg (by omega),if_neg (by omega),if_pos (by omega)]]
  obtain⟨b,f,g⟩:=KF c a
  exact Qi m lp B w h v c b f g
 have a:v.kind=7:=by omega
 rw[show iy m v=Ai m v by unfold iy; rw[if_neg (by omega),if_neg (by omega),if_neg (by omega),if_neg (by omega),if_neg (by omega),if_neg (by omega)],show fF m v=0 by unfold fF; rw[if_neg (by omega),if_neg (by omega),if_neg (by omega),if_neg (by omega),if_neg (by omega),if_neg (by omega)]]
 exact NZ m lp B w h v c
theorem JJ(m:dG)(lp B:Nat)(w:World)(h:je w B lp m)(v:EvM)(l:jR v)(Q:YR m)(hB:1<=B)(M:gI w 0 0 8 wz) :
 Calls Tryd.prog 30 #[(pt lp),.agg (aA 14 (dz v))] w fun e w'=>Lb w B lp m (iy m v) (bI m v) e w':=by
 have L:=h.c
 have hT:=h.t
 have hP:=h.p
 have hR:=h.r
 have hG:=h.g
 have hA:=h.a
 have hN:=h.ne
 have lC:=h.c.lt
 have lT:=h.t.lt
 have lP:=h.p.lt
 have lR:=h.r.lt
 have lG:=h.g.lt
 have lA:=h.a.lt
 obtain⟨q,P⟩ : ∃ q:Nat,v.kind=(q:Int):=⟨v.kind.toNat,by have:=l.kind; omega⟩
 have N:Kr m.known:=fun i hi=>by have:=Q.kn i hi; exact⟨by omega,by omega⟩
 refine Kent Tryd.func30 55 ?_
 refine ay<|sG fun x w1 z E s1 z1 => ?_
 have⟨m2,m8,G⟩:=jI s1.old L M (Below.refl w.heap.size w)
 have wF:=gY z
 have⟨nH,rY,vU,vV,vW⟩:=vB z L.lt hP.lt hR.lt hG.lt hA.lt
 have Ov:0≠x:=by rw[z]; exact Nat.ne_of_lt (M.lt (by omega))
 have wQ:=E.lt
 refine av (.nilFunc)<|av (au 0)<|aD<|Ws<|Wb<|ay<|av ((pt lp))<|Lv aF (Fx.jF rfl rfl rfl (by kernel_rfl))<|av aF<|aD<|aK<|ay<|Lv (.agg (aA 14 (dz v))) (gW E.aJ 0) ?_
 by_cases f:(cZ v)=true
 ·have C:cZ v=true:=f
  obtain⟨a,ha,ho⟩ : ∃ a:Nat,a<6/\v.o=(a:Int)+1:=dZ (iQ C)
  have D:bD v=a:=by unfold bD; omega
  have hkr:=nN C
  refine fB (Co v _ l) aG (by rw[f]) ?_
  intro w2 hb1
  have⟨m9,m15,m16,b2⟩:=iH hb1 m2 m8 E G
  refine av aF<|av aF<|aD<|aK<|Ws ?_
  -- region 5 draws
  refine jS [0,1,2,3,4,5,6] [0,0,0,4,4,3,0] [(5,3,[3]),(5,4,[4]),(6,5,[5])] fun qY fO iC => ?_
  have⟨R,m23,S,H⟩:=iH fO m9 m15 m16 b2
  refine aU ((pt lp))<|aU ((pt lp))<|aU ((pf lp 12))<|Rs (.agg (aA 6 (rv .u64 m.known))) (gW R.aJ 12 (fun j hj=>mh (p:=j) (by omega) (by omega))) ?_
  refine Rs (.agg (aA 14 (dz v))) (gW S.aJ 0) ?_
  refine gP ?_
  by_cases k:(xW m.known v)=true
  ·refine fB (NS m.known v _ l) aG (by rw[k]) ?_
   intro w3 hb2
   have b4:=aR hb2 H
   refine Ln<|aU aG<|bF<|aQ<|ay<|av (.nilFunc)<|av (au 14)<|aD<|Wr<|bW<|sR<|aN (.tuple #[.nilFunc,au 14]) ?_
   have b:bI m v=14:=by unfold bI; rw[if_neg (by rw[f]; decide)]; exact if_pos k
   exact⟨⟨.nilFunc,0,#[],by rw[b],rfl,fun d=>absurd (b.symm.trans d) (by first|decide|omega|assumption)⟩,b4⟩
  rw[Bool.not_eq_true]at k
  refine fB (NS m.known v _ l) aF (by rw[k]) ?_
  intro w4 hb3
  have⟨oD,sM,ug,b5⟩:=iH hb3 R m23 S H
  refine Ln<|aU aF<|bF<|aK<|Ws ?_
  -- region 7 draws
  refine jS [0,1,2,3,4,5,6,7] [0,0,0,4,4,3,0,0] [(5,3,[3]),(5,4,[4]),(6,5,[5]),(7,5,[5])] fun D9 jX oC => ?_
  have⟨T,xR,U,I⟩:=iH jX oD sM ug b5
  refine aU ((pt lp))<|aU ((pt lp))<|aU ((pf lp 12))<|Rs (.agg (aA 6 (rv .u64 m.known))) (gW T.aJ 12 (fun j hj=>mh (p:=j) (by omega) (by omega))) ?_
  refine Rs (.agg (aA 14 (dz v))) (gW U.aJ 0) ?_
  refine gP ?_
  by_cases n:(iw m.known v)=true
  ·refine fB (Jt m.known v _ l N) aG (by rw[n]) ?_
   intro w5 hb4
   have⟨wS,wH,vK,b7⟩:=iH hb4 T xR U I
   refine Ln<|aU aF<|aU aF<|bF<|aK<|Ws<|Ws ?_
   -- region 9 draws
   refine jS [0,1,4,5,2,3,6,7,8,9] [0,0,4,0,0,0,0,4,0,0] [] fun XQ zQ I5 => ?_
   have⟨F,xU,V,J⟩:=iH zQ wS wH vK b7
   refine aU ((pt lp))<|aU ((pt x))<|aU ((pt lp))<|aU ((pt lp))<|Rs (au v.o) (aP V.aJ 0) ?_
   refine Rp (au a) (fun _=>jw)<|Rp ((pf lp a)) (fun _=>yS 6 1) ?_
   by_cases s:(m.inn a)=true
   ·refine Rs aG (aP F.aJ a ((xk (by omega)).trans (congrArg Value.bool s))) ?_
    refine aU aF<|aU aF<|bF<|aK ?_
    -- region 10 draws
    refine jS [0,1,4,5,2,3,6,7,8] [0,0,4,0,0,0,0,4,0] [] fun wt4 Ja R9 => ?_
    have⟨W,wT,X,K⟩:=iH Ja F xU V J
    refine aU ((pt lp))<|aU ((pt x))<|aU ((pt lp))<|aU ((pf lp 6))<|Rs (au v.o) (aP X.aJ 0) ?_
    refine Rp (au a) (fun _=>jw)<|Rp ((pf lp (a+6))) (fun _=>yS 6 1) ?_
    by_cases u:(m.left a)=true
    ·refine Rs aG (aP W.aJ (a+6) ((vR (p:=a) (by omega) (by omega)).trans (congrArg Value.bool u))) ?_
     refine aU aG<|bF<|aQ<|ay<|av (.nilFunc)<|av (au 10)<|aD<|Wr<|bW<|sR<|aN (.tuple #[.nilFunc,au 10]) ?_
     have b:bI m v=10:=by unfold bI; rw[if_neg (by rw[f]; decide)]; rw[if_neg (by rw[k]; decide)]; rw[if_neg (by rw[n]; decide)]; exact if_pos (.inr (by rw[D]; exact u))
     exact⟨⟨.nilFunc,0,#[],by rw[b],rfl,fun d=>absurd (b.symm.trans d) (by first|decide|omega|assumption)⟩,K⟩
    rw[Bool.not_eq_true]at u
    refine Rs aF (aP W.aJ (a+6) ((vR (p:=a) (by omega) (by omega)).trans (congrArg Value.bool u))) ?_
    refine aU aF<|bF<|aK<|Wk<|cB<|sN<|Ws ?_
    -- region 12 draws
    refine jS [0,4,1,2,3,5,6,7,8,9,10] [0,4,0,4,0,4,3,0,0,0,0] [(6,1,[3,2,1]),(6,3,[3]),(6,5,[5]),(7,6,[6]),(8,6,[6]),(9,6,[6]),(10,6,[6])] fun wt5 Jb X4 => ?_
    have⟨A9,Y,y⟩:=jI Jb wT X K
    refine aU ((pf x 8))<|aU ((pt lp))<|Rs (.int .u8 ((q:Int))) (aP Y.aJ 8 (congrArg (Value.int IntKind.u8) P)) ?_
    refine Rp ((pf 0 q)) (fun _=>yS 8 1)<|Rs (.func (.func (YS q)) #[] #[]) (aP A9 q (QG (by omega))) ?_
    refine Rs (.agg (aA 14 (dz v))) (gW Y.aJ 0) ?_
    refine gP<|uo (by rfl) (Fx.Jo (args := [(pt lp),.agg (aA 14 (dz v))]) rfl rfl rfl (by rfl) (YT (by omega) (by omega))) rfl<|(QH m lp B _ (h.up y) v C l Q q P (by omega)).mono ?_
    rintro e9 w6 ⟨⟨A,fi1,Bl,O,ho1,hD1⟩,hb5⟩
    refine⟨_,O,?_⟩
    clear O
    have Z:=aR hb5 y
    refine Ln<|aU (A)<|aU (au (fF m v))<|aU (A)<|aU (au (fF m v))<|bF<|Wr<|aN (.tuple #[A,au (fF m v)]) ?_
    have b:bI m v=fF m v:=by unfold bI; rw[if_neg (by rw[f]; decide)]; rw[if_neg (by rw[k]; decide)]; rw[if_neg (by rw[n]; decide)]; exact if_neg (by rw[D,s,u]; decide)
    exact⟨⟨_,_,_,by rw[b],ho1,fun d=>(hD1 (b.symm.trans d)).low y.size⟩,Z⟩
   rw[Bool.not_eq_true]at s
   refine Rs aF (aP F.aJ a ((xk (by omega)).trans (congrArg Value.bool s))) ?_
   refine aU aG<|aU aG<|bF<|aQ<|Wk<|sN<|aQ<|ay<|av (.nilFunc)<|av (au 10)<|aD<|Wr<|bW<|sR<|aN (.tuple #[.nilFunc,au 10]) ?_
   have b:bI m v=10:=by unfold bI; rw[if_neg (by rw[f]; decide)]; rw[if_neg (by rw[k]; decide)]; rw[if_neg (by rw[n]; decide)]; exact if_pos (.inl (by rw[D]; exact s))
   exact⟨⟨.nilFunc,0,#[],by rw[b],rfl,fun d=>absurd (b.symm.trans d) (by first|decide|omega|assumption)⟩,J⟩
  rw[Bool.not_eq_true]at n
  refine fB (Jt m.known v _ l N) aF (by rw[n]) ?_
  intro w7 hb6
  have aa:=aR hb6 I
  refine Ln<|aU aG<|aU aG<|bF<|aQ<|ay<|av (.nilFunc)<|av (au 13)<|aD<|Wr<|bW<|sR<|aN (.tuple #[.nilFunc,au 13]) ?_
  have b:bI m v=13:=by unfold bI; rw[if_neg (by rw[f]; decide)]; rw[if_neg (by rw[k]; decide)]; exact if_pos n
  exact⟨⟨.nilFunc,0,#[],by rw[b],rfl,fun d=>absurd (b.symm.trans d) (by first|decide|omega|assumption)⟩,aa⟩
 rw[Bool.not_eq_true]at f
 refine fB (Co v _ l) aF (by rw[f]) ?_
 intro w8 Xb
 have ab:=aR Xb G
 refine av aG<|av aG<|aD<|aQ<|ay<|av (.nilFunc)<|av (au 1)<|aD<|Wr<|bW<|sR<|aN (.tuple #[.nilFunc,au 1]) ?_
 have b:bI m v=1:=by unfold bI; exact if_pos f
 exact⟨⟨.nilFunc,0,#[],by rw[b],rfl,fun d=>absurd (b.symm.trans d) (by first|decide|omega|assumption)⟩,ab⟩
set_option maxRecDepth 20000
set_option linter.unusedVariables false
namespace Rt
noncomputable def iF(m:dG)(v:EvM):dG:=if bI m v=0 then { iy m v with known:=bB (iy m v).known (bD v) ((iy m v).known (bD v)+1) } else m
theorem FL(m:dG)(v:EvM):(iy m v).known=m.known:=by
 unfold iy
 repeat (first|rfl|split)
def JK:Nat->Int:=fun _=>0
def kU(m:dG)(k:Int):Nat->Int:=if m.T.has k=true then yh m k else JK
end Rt
theorem je.known{w w':World}{B lp:Nat}{m:dG}{K:Nat->Int}(h:je w B lp m)(e:Stp lp w w')(d:aL w' lp 29 (oO { m with known:=K }) 59):je w' B lp { m with known:=K }:=by
 have b:=gG e h.c.ty
 exact { c:=d,t:=h.t.om b (by decide),p:=h.p.om b trivial,r:=h.r.om b trivial,g:=h.g.om b trivial,a:=h.a.om b trivial,ne:=⟨h.ne.mp,h.ne.mr,h.ne.mg,h.ne.ma,h.ne.pr,h.ne.pg,h.ne.pa,h.ne.rg,h.ne.ra,h.ne.ga⟩,lB:=h.lB,pB:=h.pB,rB:=h.rB,gB:=h.gB,aB:=h.aB }
theorem sw{m:dG}{v:EvM}(h:bI m v=0):cZ v=true:=by
 cases hc:cZ v with
 | true=>rfl
 | false=>unfold bI at h; rw[if_pos hc]at h; cases h
theorem yt{m:dG}{v:EvM}(h:bI m v=0):v.seq=m.known (bD v)+1/\fF m v=0/\m.inn (bD v)=true/\m.left (bD v)=false:=by
 have d:=sw h
 unfold bI at h
 rw[if_neg (by rw[d]; decide)]at h
 by_cases c:xW m.known v=true
 ·rw[if_pos c]at h; cases h
 rw[if_neg c]at h
 by_cases a:iw m.known v=false
 ·rw[if_pos a]at h; cases h
 rw[if_neg a]at h
 by_cases b:m.inn (bD v)=false\/m.left (bD v)=true
 ·rw[if_pos b]at h; cases h
 rw[if_neg b]at h
 refine⟨?_,h,?_,?_⟩
 ·have a:iw m.known v=true:=by cases e:iw m.known v with|true=>rfl|false=>exact absurd e a
  unfold iw at a
  simp only[Bool.and_eq_true,decide_eq_true_iff]at a
  exact a.1.2
 ·cases e:m.inn (bD v)with|true=>rfl|false=>exact absurd (.inl e) b
 cases e:m.left (bD v)with|false=>rfl|true=>exact absurd (.inr e) b
theorem adB(m:dG)(lp B:Nat)(w:World)(h:je w B lp m)(v:EvM)(C:jR v)(A:YR m)(q:1<=B)(i:gI w 0 0 8 wz) :
 Calls Tryd.prog 29 #[(pt lp),.agg (aA 14 (dz v))] w fun e w'=>e = .returned (au (bI m v))/\Below w.heap.size w w':=by
 have s:=h.c
 have K:=h.t
 have x:=h.p
 have y:=h.r
 have u:=h.g
 have o:=h.a
 have J:=h.ne
 have N:=h.c.lt
 have R:=h.t.lt
 have P:=h.p.lt
 have Q:=h.r.lt
 have O:=h.g.lt
 have M:=h.a.lt
 refine Kent Tryd.func29 14 ?_
 refine ay<|sG fun n w1 b k E z1 => ?_
 have⟨D,f⟩:=iA E.old i (Below.refl w.heap.size w)
 have S:=gY b
 have⟨T,U,V,W,X⟩:=vB b s.lt x.lt y.lt u.lt o.lt
 have Y:0≠n:=by rw[b]; exact Nat.ne_of_lt (i.lt (by omega))
 have Z:=k.lt
 refine av (au 0)<|aD<|ay<|av ((pt lp))<|Lv (.agg (aA 14 (dz v))) (gW k.aJ 0)<|jy (JJ m lp B _ (h.up f) v C A q D) ?_
 rintro G w2 ⟨⟨d,H,F,j,L,I⟩,z⟩
 refine⟨_,j,?_⟩
 clear j
 have l:=aR z f
 refine av (.tuple #[d,au (bI m v)])<|av (d)<|av (au (bI m v))<|av (d)<|av (au (bI m v))<|aD<|ay<|av (au (bI m v))<|av (au (bI m v))<|aD<|Wr<|aN (au (bI m v)) ?_
 exact⟨rfl,l⟩
theorem QI(m:dG)(lp B:Nat)(w:World)(h:je w B lp m)(v:EvM)(hwf:jR v)(L:YR m)(Y:1<=B)(H:gI w 0 0 8 wz) :
 Calls Tryd.prog 15 #[(pt lp),.agg (aA 14 (dz v))] w fun e w'=>e = .returned (au (bI m v))/\je w' B lp (iF m v)/\iU (He m lp w.heap.size) w w':=by
 have E:=h.c
 have hT:=h.t
 have hP:=h.p
 have hR:=h.r
 have hG:=h.g
 have X:=h.a
 have hN:=h.ne
 have lC:=h.c.lt
 have lT:=h.t.lt
 have lP:=h.p.lt
 have lR:=h.r.lt
 have lG:=h.g.lt
 have lA:=h.a.lt
 refine Kent Tryd.func15 30 ?_
 refine ay<|sG fun D w1 u C s1 z1 => ?_
 have⟨b,m8,j⟩:=jI s1.old E H (Below.refl w.heap.size w)
 have wF:=gY u
 have⟨nH,rY,vU,vV,vW⟩:=vB u E.lt hP.lt hR.lt hG.lt X.lt
 have Ov:0≠D:=by rw[u]; exact Nat.ne_of_lt (H.lt (by omega))
 have wQ:=C.lt
 refine av (au 0)<|aD<|ay<|av ((pt lp))<|Lv (.agg (aA 14 (dz v))) (gW C.aJ 0)<|jy (JJ m lp B _ (h.up j) v hwf L Y m8) ?_
 rintro U w2 ⟨⟨y,W,T,i,ho1,Z⟩,hb1⟩
 refine⟨_,i,?_⟩
 clear i
 have⟨N,l⟩:=iA hb1 C j
 refine av (.tuple #[y,au (bI m v)])<|av (y)<|av (au (bI m v))<|av (y)<|av (au (bI m v))<|aD<|Ws<|ay<|av (au (bI m v)) ?_
 by_cases d:(bI m v)=0
 ·refine Lv aF (kW d)<|aD<|aK<|Wk<|sN<|Ws ?_
  have z:=Z d
  have hfe:=z.e
  subst hfe
  refine Wl<|av (.func (.func W) #[] T)<|uo (by rfl) (Fx.Jo (args := []) rfl rfl rfl (by simp) z.f) rfl<|(z.s _ (Below.refl _ _)).mono ?_
  rintro U n ⟨i,A,F⟩
  refine⟨_,i,?_⟩
  clear i
  have I:iU (He m lp w.heap.size) w n:=(Fx.iU.of_below l) |> fun q=>Fx.iU.trans _ _ _ q (F.mono fun k hk=>hk.imp id (Nat.le_trans j.size))
  obtain⟨b,x⟩ : ∃ q,q=iy m v:=⟨_,rfl⟩
  rw[<- x]at A
  have V:b.known=m.known:=by rw[x,FL]
  have G:=A.c
  have lC2:=G.lt
  have hkb:=(yt d).1
  have M:=sw d
  obtain⟨a,J,ho⟩ : ∃ a:Nat,a<6/\v.o=(a:Int)+1:=dZ (iQ M)
  have hra:bD v=a:=by unfold bD; omega
  have hbd:=mR M
  have hka:=L.kn a J
  have O:=(h.up l).DF (w':=n) (N) (by decide) F (by have:=N.lt; have:=j.size; omega)
  have ajJ:=O.lt
  refine aD<|Ws ?_
  -- region 5 draws
  refine jS [0,1,4,5,9,10,2,3,6,7,8,11,12] [0,0,4,0,0,0,0,4,0,0,0,0,3] [(12,2,[2]),(12,7,[7])] fun qY K iC => ?_
  have s3:Stp n.heap.size n qY:=Sb K
  have⟨P,m19,m20⟩:=jI K G A O
  have R:=I.then s3 (.inr I.size)
  refine aU ((pt lp))<|aU ((pt D))<|aU ((pt lp))<|aU ((pf lp 12))<|aU ((pt lp))<|aU ((pf lp 12))<|Rs (au v.o) (aP m20.aJ 0) ?_
  refine Rp (au a) (fun _=>jw)<|Rp ((pf lp (a+12))) (fun _=>yS 6 1)<|Rs (aC (b.known a)) (aP P.aJ (a+12) (mh (p:=a) (by omega) (by omega))) ?_
  refine Rp (aC (b.known a+1)) (fun v1=>Fx.IG rfl rfl rfl (jk (by rw[V]; omega) rfl))<|Rp ((pf lp (a+12))) (fun _=>yS 6 1)<|gP<|mZ P (a+12) (aC (b.known a+1)) fun w4 m21 Q z2 => ?_
  have m22:aL w4 lp 29 (oO { b with known:=bB b.known a (b.known a+1) }) 59:=m21.to (KL J (by omega) _)
  have S:=R.then Q (.inl (.inl (.inl rfl)))
  refine Ln (bF (ay (av (au 0) (aD (Wr (aN (au 0) (⟨by rw[d],?_,S⟩)))))))
  rw[show iF m v = { b with known:=bB b.known a (b.known a+1) } by unfold iF; rw[if_pos d,<- x,hra]]
  exact m19.known Q m22
 refine Lv aG (qV d) (aD (aQ (ay (av (au (bI m v)) (av (au (bI m v)) (aD (Wr (sR (aN (au (bI m v)) (⟨rfl,?_,Fx.iU.of_below l⟩))))))))))
 rw[show iF m v=m by unfold iF; exact if_neg d]; exact h.up l
set_option maxRecDepth 20000
set_option linter.unusedVariables false
namespace Rt
def tK(k f c d e b a:Nat):dG := { inn:=fun i=>decide (i<k),left:=fun _=>false,known:=fun _=>0,own:=fun _=>0,T:=dB.zero,R:=fun _ _=>0,gn:=0,g:=fun _ _=>0,an:=0,ao:=fun _=>0,ar:=fun _=>0,tp:=f,mb:=c,pb:=d,rb:=e,gb:=b,ab:=a }
end Rt
theorem OI(k g c d f b a:Nat)(h:k<6):fH (oO (tK k g c d f b a)) k (.bool true)=oO (tK (k+1) g c d f b a):=by
 rw[Nz h]
 have:bB (tK k g c d f b a).inn k true=(tK (k+1) g c d f b a).inn:=by
  funext i
  show(if i=k then true else decide (i<k))=decide (i<k+1)
  by_cases e:i=k
  ·subst e; rw[if_pos rfl]; exact(decide_eq_true (by omega)).symm
  ·rw[if_neg e]; exact decide_eq_decide.2 (by omega)
 show oO { tK k g c d f b a with inn:=_ }=_
 rw[this]; rfl
theorem QJ(m:dG)(lp B:Nat)(w:World)(h:je w B lp m) :
 Calls Tryd.prog 25 #[(pt lp)] w fun e w'=>e = .returned (.agg (aA 6 (rv .u64 m.known)))/\Below w.heap.size w w':=by
 have f:=h.c
 have E:=h.t
 have q:=h.p
 have s:=h.r
 have o:=h.g
 have n:=h.a
 have D:=h.ne
 have H:=h.c.lt
 have L:=h.t.lt
 have J:=h.p.lt
 have K:=h.r.lt
 have I:=h.g.lt
 have G:=h.a.lt
 refine Kent Tryd.func25 10 ?_
 refine ay<|xJ (m:=6) (y:=rv .u64 (fun _=>0)) (by rfl) rfl (by kernel_rfl) rfl fun l T d i z U => ?_
 have⟨u,b⟩:=iA z.old f (Below.refl w.heap.size w)
 have M:=gY d
 have⟨N,O,P,Q,R⟩:=vB d f.lt q.lt s.lt o.lt n.lt
 have S:=i.lt
 refine aD<|Ws<|ay<|av ((pt lp))<|Lv aF (Fx.jF rfl rfl rfl (by kernel_rfl))<|aD<|aK<|Wk<|sN<|ay<|av ((pt lp))<|av ((pt lp))<|av ((pf lp 12))<|Lv (.agg (aA 6 (rv .u64 m.known))) (gW u.aJ 12 (fun j F=>mh (p:=j) (by omega) (by omega)))<|eX i 0 fun C v A V => ?_
 have x:aL C l 6 (rv .u64 m.known) 31:=aM v
 have k:=A.below b b.size (by omega)
 refine aD (Wr (⟨.agg (aA 6 (rv .u64 m.known)),rV Tryd.results25 ⟨_,rfl,aV x.aJ (by kernel_rfl) (by kernel_rfl)⟩,?_⟩))
 exact⟨rfl,k⟩
theorem QK(m:dG)(lp B:Nat)(w:World)(h:je w B lp m)(i b:Int)(hi : -9223372036854775808<=i/\i<=9223372036854775807) :
 Calls Tryd.prog 12 #[(pt lp),au i,aC b] w fun e w'=>e = .returned (au (dU (kU m b) i))/\Below w.heap.size w w':=by
 have u:=h.c
 have F:=h.t
 have E:=h.p
 have l:=h.r
 have C:=h.g
 have A:=h.a
 have D:=h.ne
 have H:=h.c.lt
 have L:=h.t.lt
 have J:=h.p.lt
 have K:=h.r.lt
 have I:=h.g.lt
 have G:=h.a.lt
 refine Kent Tryd.func12 17 ?_
 refine ay<|av (au 0)<|aD<|Ws<|ay<|av ((pt lp))<|Lv aF (Fx.jF rfl rfl rfl (by kernel_rfl))<|aD<|aK<|Wk<|sN<|ay<|av ((pt lp))<|av ((pt lp))<|av ((pf lp 20))<|Lv (.map (some m.rb)) (aP u.aJ 20)<|av (aC b) ?_
 rcases Fx.mJ m.T.x m.T.n b with ⟨d,k,f⟩|gK
 ·refine Lv (.agg (aA 54 (rv .i64 (m.R d)))) (Fx.pK (z := .agg (aA 54 (rv .i64 (fun _=>0)))) rfl rfl rfl l Tryd.underlying54 Tryd.underlying29 (by kernel_rfl) k f rfl)<|av (au i)<|fB (pY (m.R d) i _ hi) _ rfl ?_
  intro M v
  have o:=aR v (Below.refl w.heap.size w)
  refine av (au (dU (m.R d) i))<|aD<|Wr<|aN (au (dU (m.R d) i)) ?_
  have j:kU m b=m.R d:=by unfold kU yh; rw[if_pos (show m.T.has b=true from gZ k f),show m.idx b=d from jH h.t.inv.inj k f]
  exact⟨congrArg (fun q=>Ending.returned (Value.int .i64 (dU q i))) j.symm,o⟩
 refine Lv (.agg (aA 54 (rv .i64 (fun _=>0)))) (Fx.IY (z := .agg (aA 54 (rv .i64 (fun _=>0)))) rfl rfl rfl l Tryd.underlying54 Tryd.underlying29 (by kernel_rfl) gK)<|av (au i)<|fB (pY (fun _=>0) i _ hi) _ rfl ?_
 intro N y
 have s:=aR y (Below.refl w.heap.size w)
 refine av (au (dU (fun _=>0) i))<|aD<|Wr<|aN (au (dU (fun _=>0) i)) ?_
 have j:kU m b=JK:=by unfold kU; exact if_neg (by rw[show m.T.has b=false from sI gK]; decide)
 exact⟨congrArg (fun q=>Ending.returned (Value.int .i64 (dU q i))) j.symm,s⟩
-- (*ledger.Ledger).Path is not in this seat
-- (*ledger.Ledger).Path is not in this seat
theorem YU(k:Nat)(hk:1<=k/\k<=6)(w:World) :
 Calls Tryd.prog 6 #[au ((k:Int))] w fun e w' => ∃ lp m,e = .returned (.tuple #[(pt lp),au 0])/\(∃ tp mb pb rb gb ab,m=tK k tp mb pb rb gb ab)/\je w' w.heap.size lp m/\Below w.heap.size w w':=by
 refine Kent Tryd.func6 30 ?_
 refine ay<|av (.pointer none)<|av (au 0)<|aD<|Ws<|ay<|av (au k)<|Lv aF Er<|av aF<|av (au k)<|Lv aF tQ<|av aF<|aD<|aK<|Wk<|sN<|ay<|jy (Sn _) ?_
 rintro e9 w1 ⟨n,x,V,hg1,W,hb1⟩
 refine⟨_,V,?_⟩
 clear V
 have J:=aR hb1 (Below.refl w.heap.size w)
 have m2:mM w1 (w.heap.size) n x dB.zero:=W.weak (Below.refl w.heap.size w).size
 clear W hg1
 refine Fx.L.Et (by rfl) rfl rfl fun o w2 Q G s2 z1 => ?_
 have⟨m4,K⟩:=iA s2.old m2 J
 have wF:=gM Q J.size
 have VT:=bR Q m2.lt
 have wQ:=G.lt
 refine Fx.L.Et (by rfl) rfl rfl fun q w3 R H s3 z2 => ?_
 have⟨m6,m7,M⟩:=jI s3.old m4 G K
 have yH:=gM R K.size
 have⟨VU,NJ⟩:=ow R m4.lt G.lt
 have Ba:=H.lt
 refine Fx.L.LQ (by rfl) rfl rfl fun s w4 S I s4 z3 => ?_
 have⟨m9,X,Y,N⟩:=iH s4.old m6 m7 H M
 have EB:=gM S M.size
 have⟨VW,adC,OG⟩:=Bf S m6.lt m7.lt H.lt
 have Ga:=I.lt
 refine Fx.L.LQ (by rfl) rfl rfl fun u w5 T E s5 z4 => ?_
 have⟨m13,Z,aa,ac,O⟩:=lV s5.old m9 X Y I N
 have KN:=gM T N.size
 have⟨VX,VJ,OH,Ig⟩:=Ke T m9.lt X.lt Y.lt I.lt
 have Js:=E.lt
 refine av (.agg (aA 29 (bC (bC (bC (bC (bC (fun d=>if d<12 then .bool false else if d<18 then aC 0 else if d<19 then .pointer none else if d<21 then .map none else if d<27 then au 0 else .map none) 18 1 (fun _=>(pt n))) 19 1 (fun _ => .map (some o))) 20 1 (fun _ => .map (some q))) 27 1 (fun _ => .map (some s))) 28 1 (fun _ => .map (some u)))))<|AZ (m:=29) (y:=bC (bC (bC (bC (bC (fun d=>if d<12 then .bool false else if d<18 then aC 0 else if d<19 then .pointer none else if d<21 then .map none else if d<27 then au 0 else .map none) 18 1 (fun _=>(pt n))) 19 1 (fun _ => .map (some o))) 20 1 (fun _ => .map (some q))) 27 1 (fun _ => .map (some s))) 28 1 (fun _ => .map (some u))) (by rfl) rfl rfl (bA _ _) rfl fun b w6 U ad s6 z5 => ?_
 have⟨m18,m19,m20,m21,m22,b6⟩:=vw s6.old m13 Z aa ac E O
 have VK:=gM U O.size
 have⟨adD,adE,adF,adG⟩:=Ke U Z.lt aa.lt ac.lt E.lt
 have YQ:=ad.lt
 have l:QlN (tK 0 n x o q s u):=⟨VT,VU,VW,VX,by assumption,by assumption,by assumption,by assumption,by assumption,by assumption⟩
 have m23:aL w6 b 29 (oO (tK 0 n x o q s u)) 59:=ad.congr (fun j hj=>match j,hj with|0,_=>rfl|1,_=>rfl|2,_=>rfl|3,_=>rfl|4,_=>rfl|5,_=>rfl|6,_=>rfl|7,_=>rfl|8,_=>rfl|9,_=>rfl|10,_=>rfl|11,_=>rfl|12,_=>rfl|13,_=>rfl|14,_=>rfl|15,_=>rfl|16,_=>rfl|17,_=>rfl|18,_=>rfl|19,_=>rfl|20,_=>rfl|21,_=>rfl|22,_=>rfl|23,_=>rfl|24,_=>rfl|25,_=>rfl|26,_=>rfl|27,_=>rfl|28,_=>rfl|j+29,h=>absurd h (by omega))
 refine av ((pt b))<|aD<|Ws<|ay<|av (au k)<|av (au 0)<|aD<|Wb<|Wo (fun f z => ∃ i:Nat,i<=k/\f 4=(pt b)/\f 19=au ((k:Int))/\f 20=au ((i:Int))/\mM z (w.heap.size) n x dB.zero/\Mp z o 0 (fun _=>0) (fun _ => .pointer none)/\Mp z q 0 (fun _=>0) (fun _ => .pointer none)/\fC z s 0 (fun _=>0) (fun _=>0) (fun _ => .pointer none)/\fC z u 0 (fun _=>0) (fun _=>0) (fun _ => .pointer none)/\aL z b 29 (oO (tK i n x o q s u)) 59/\Below w.heap.size w z) (fun f _=>((k:Int)-intOf (f 20)).toNat) ⟨0,(by omega),(by rfl),Fx.ic,Fx.ic,m18,m19,m20,m21,m22,m23,b6⟩ ?_
 rintro f1 w7 ⟨i,v,C,D,A,m24,qK,qL,qx,uU,F,B⟩
 refine ay ?_
 by_cases P:(i:Int)<(k:Int)
 ·refine Lv aG (jU P (hx:=A) (hy:=D))<|aD<|Ws<|aQ<|Wk<|sN<|Ws<|Wb<|ay<|aS A<|av (au i)<|aD<|Wl<|aS C<|av (au i)<|av ((pt b))<|av ((pt b))<|Lv ((pf b i)) (yS 6 1)<|mZ F i aG fun w8 tH s7 z6 => ?_
  have lJ:aL w8 b 29 (oO (tK (i+1) n x o q s u)) 59:=tH.to (OI i _ _ _ _ _ _ (by omega))
  have iq:=gG s7 F.ty
  have⟨m32,oD,nI,qM,pV⟩:=LH iq m24 qK qL qx uU
  have b8:=s7.below B B.size (by omega)
  refine Ln<|cB<|sN<|Wl<|Lv (au ((i:Int)+1)) (fZ (hx:=A))<|av (au ((i:Int)+1))<|Ln<|iG ⟨i+1,(by omega),C,(D.trans Fx.ic),Fx.ic,m32,oD,nI,qM,pV,lJ,b8⟩ ?_
  show((k:Int)-intOf ((au ((i:Int)+1)))).toNat<_
  simp only[A,intOf]; omega
 refine Lv aF (jV P (hx:=A) (hy:=D))<|aD<|Ws<|aK<|Wx<|bY<|iB<|bZ<|sN<|ay<|aS C<|av ((pt b))<|av (au 0)<|aD<|Wr<|aN (.tuple #[(pt b),au 0]) ?_
 have eik:i=k:=by omega
 subst eik
 exact⟨b,tK i n x o q s u,rfl,⟨_,_,_,_,_,_,rfl⟩,{ c:=F,t:=m24,p:=qK.ni fun i v=>absurd v (Nat.not_lt_zero _),r:=qL.ni fun i v=>absurd v (Nat.not_lt_zero _),g:=qx.ni fun i v=>absurd v (Nat.not_lt_zero _),a:=uU.ni fun i v=>absurd v (Nat.not_lt_zero _),ne:=⟨l.mp,l.mr,l.mg,l.ma,l.pr,l.pg,l.pa,l.rg,l.ra,l.ga⟩,lB:=VK,pB:=wF,rB:=yH,gB:=EB,aB:=KN },B⟩
end Go.Proofs.YtcbedgfikejkoaaDoor
namespace Go.Proofs.YtcbedgfikejkoaaDoor.Fx
open Go.RowKit Go.Shelf Go.Sort Go.Lib
def iM(a b:Int):Int:=if a<b then -1 else if b<a then 1 else 0
theorem JL(a b:Int):iM a b<0<->a<b:=by
 unfold iM
 split
 ·simp_all
 split <;> simp_all
theorem QL{c:Type}(ky:c->Int):SWO (ltOf fun x y=>iM (ky x) (ky y)):=by
 have e : ∀ x y,(ltOf fun x y=>iM (ky x) (ky y)) x y=decide (ky x<ky y):=fun x y=>by
  unfold ltOf
  exact decide_eq_decide.2 (JL _ _)
 refine⟨fun x => ?_,fun x y z a b => ?_,fun x y z a b => ?_⟩ <;> simp only[e,decide_eq_true_eq,decide_eq_false_iff_not]at * <;> omega
end Go.Proofs.YtcbedgfikejkoaaDoor.Fx
namespace Go.Proofs.YtcbedgfikejkoaaDoor.Fx
open Go.RowKit Go.Shelf Go.Sort Go.Lib
theorem FM{w:World}{B g cap m N s:Nat}{E:TypeId}(a:Array Value)(os:Array Obj){x:Nat->Value}(h:Own w B E s (.slice (some ⟨g,0,none⟩) m cap) m x)(f:a.size=m*s) :
 Own (sortWorld id w g 0 N a os) B E s (.slice (some ⟨g,0,none⟩) m cap) m (fun q=>a[q]!)/\Stp g w (sortWorld id w g 0 N a os):=by
 rcases h.2 with ⟨b,_⟩|⟨g',cap',cur,b,hB,hg,hn,hm,hs,ht⟩
 ·cases b
 simp only[Value.slice.injEq,Option.some.injEq,Addr.mk.injEq]at b
 obtain⟨⟨rfl,_⟩,_,rfl⟩:=b
 have n:g<w.heap.size:=(Array.getElem?_eq_some_iff.1 hg).1
 have d:(sortWorld id w g 0 N a os).heap=(w.heap.modify g (onCells (putCells id 0 a)))++os:=rfl
 have e : ∀ k,k<w.heap.size->(sortWorld id w g 0 N a os).heap[k]? = (w.heap.modify g (onCells (putCells id 0 a)))[k]? := fun k c=>by
  rw[d,Array.getElem?_append_left (by simpa using c)]
 have p:m*s<=cap*s:=Nat.mul_le_mul_right s hn
 refine⟨⟨by simp,.inr ⟨g,cap,putCells id 0 a cur,rfl,hB,?_,hn,hm,?_,?_⟩⟩,⟨rfl,rfl,rfl,by rw[d]; simp,fun k c o => ?_⟩⟩
 ·rw[e g n,Array.getElem?_modify,if_pos rfl,hg]; rfl
 ·simp[putCells,hs]
 ·apply List.ext_getElem?
  intro i
  by_cases j:i<m*s
  ·have l:i<cur.size:=by omega
   rw[List.getElem?_take_of_lt (by omega),Array.getElem?_toList]
   unfold putCells
   rw[Array.getElem?_mapIdx,Array.getElem?_eq_getElem l]
   simp[j,f]
  rw[List.getElem?_eq_none (by simp; omega),List.getElem?_eq_none (by simp; omega)]
 rw[e k c,Array.getElem?_modify,if_neg (Ne.symm o)]
theorem Ih{w:World}{B g cap m s:Nat}{E:TypeId}(d:Array Value){x:Nat->Value}(h:Own w B E s (.slice (some ⟨g,0,none⟩) m cap) m x)(n:d.size=m*s)(hx : ∀ q,q<m*s->x q=d[q]!)(i:0<m) :
 Holds id w g 0 d/\g<w.heap.size:=by
 obtain⟨l,k,e,_,f,_,c⟩:=h.form i
 rcases h.2 with ⟨a,_⟩|⟨g2,cap2,cur,a,hB,hg,hn,hm,hs,ht⟩
 ·cases a
 simp only[Value.slice.injEq,Option.some.injEq,Addr.mk.injEq]at a e
 obtain⟨⟨rfl,_⟩,_,rfl⟩:=a
 obtain⟨⟨rfl,_⟩,_,rfl⟩:=e
 refine⟨fun j o=>⟨?_,?_⟩,f⟩
 ·have b:=c j (by omega)
  rw[b,hx j (by omega)]; rfl
 simp[World.frozen?,hg]
theorem CB{a:Type} [Inhabited a]{s:Nat}{enc:a->Nat->Value}{e0:a}{l:List a}(f:0<s) : ∀ q,q<l.length*s->flat s (fun k=>enc (l.getD k e0)) q=(Go.Sort.flatK (fun x=>(List.range s).map (enc x)) s l.toArray)[q]! := fun q b=>by
 have d:q / s<l.length:=Nat.div_lt_of_lt_mul (by rw[Nat.mul_comm]; exact b)
 have e:q % s<s:=Nat.mod_lt _ f
 rw[Go.Sort.get_flatK _ _ _ q (by simpa using b)]
 unfold flat
 have c:l.toArray[q / s]! = l.getD (q / s) e0:=by simp[d]
 rw[c]
 simp[e]
theorem OJ{P:Program}{ρ:Ren}(H:SlLaysF0.n6 P ρ){o:Nat}(T : ∀ I w,(callFunc o I).run P w = .ok (.enter o I) w){w:World}{B cap s:Nat}{a:Option Addr}{E:TypeId}(K:0<s)
 (R : ∀ w,(isAgg (ρ.t 24)).run P w = .ok true w) (zE : ∀ w,(Go.sizeOf (ρ.t 24)).run P w = .ok s w) {n:Type} [Inhabited n] {enc:n->Nat->Value} {e0:n} (h1 : ∀ x j,j<s->(enc x j).oneCell'=true) {ky:n->Int} {l:List n}
 (h:Own w B E s (.slice a l.length cap) l.length (flat s fun q=>enc (l.getD q e0)))
 (X : ∀ M x y,Calls P o #[.agg (aA s (enc x)),.agg (aA s (enc y))] M fun e w'=>e = .returned (.int .i64 (iM (ky x) (ky y))) /\ ∃ q os',w'=grow (M.drewN q) os') (hm:l.length<4611686018427387904) :
 Calls P (ρ.f 6) #[.slice a l.length cap,.func (.func o) #[] #[]] w fun e w'=>e = .returned (.tuple #[]) /\ ∃ G:List n,G.Perm l/\G.Pairwise (fun x y=>ky x<=ky y)/\Own w' B E s (.slice a l.length cap) l.length (flat s fun q=>enc (G.getD q e0))/\(∀ k,k<w.heap.size->(Value.slice a l.length cap).ownBlock≠some k->w'.heap[k]? = w.heap[k]?)/\jO [E] w w'/\Below B w w':=by
 by_cases U:l.length=0
 ·have D:l = []:=List.length_eq_zero_iff.1 U
  subst D
  refine(AnyF.slices_SortFunc_none H a cap _ w).mono ?_
  rintro e w' ⟨C,rfl⟩
  exact⟨C,[],List.Perm.refl _,List.Pairwise.nil,h,fun _ _ _=>rfl,A8 _,Below.refl _ _⟩
 obtain⟨g,c2,r,hB,hg,hmc,_⟩:=h.form (by omega)
 simp only[Value.slice.injEq]at r
 obtain⟨rfl,_,rfl⟩:=r
 have z : ∀ x,((fun x=>(List.range s).map (enc x)) x).length=s:=fun x=>by simp
 have hsz:(Go.Sort.flatK (fun x=>(List.range s).map (enc x)) s l.toArray).size=l.length*s:=by simp
 obtain⟨W,D⟩:=Ih _ h hsz (CB K) (by omega)
 have hty:Ty w g E:=h.ty rfl
 have A : ∀ x,((List.range s).map (enc x)).toArray=aA s (enc x):=fun x=>by
  apply Array.ext
  ·simp[aZ]
  ·intro i h1 V
   have d:i<s:=by simpa using h1
   have:=dX (enc x) d
   rw[Array.getElem?_eq_getElem V]at this
   rw[Option.some.inj this]; simp
 have J:=AnyQ.slices_SortFunc H s R zE (fun x=>(List.range s).map (enc x)) z (fun x v A=>by
  obtain⟨j,u,rfl⟩:=List.mem_map.1 A
  exact h1 x j (List.mem_range.1 u)) (fun x y=>iM (ky x) (ky y)) (QL _) o #[] g 0 cap l.toArray w T
  (fun N p dk hdk x y=>by rw[A,A]; exact X _ x y) W D (by simpa using hm)
 rw[show l.toArray.size=l.length by simp]at J
 refine J.mono ?_
 rintro e w' ⟨C,b,N,p,⟨m,_,L⟩,hso,rfl⟩
 have m:b.size=l.length:=by simpa using m
 have hw:sortWorldK (fun x=>(List.range s).map (enc x)) s w g 0 N b p=sortWorld id w g 0 N (Go.Sort.flatK (fun x=>(List.range s).map (enc x)) s b) p:=rfl
 rw[hw]
 obtain⟨o1,c⟩:=FM (N:=N) (Go.Sort.flatK (fun x=>(List.range s).map (enc x)) s b) p h (by simp[m])
 have r:(b.extract 0 l.length).toList=b.toList:=by
  rw[<- m]; simp
 have S:(l.toArray.extract 0 l.length).toList=l:=by simp
 rw[r,S]at L
 refine⟨C,b.toList,L,?_,?_,fun k z hne=>c.block k z (fun e=>hne (by rw[e]; rfl)),gG c hty,⟨c.os,c.tape,c.output,c.size,fun k z=>c.block k (by omega) (by omega)⟩⟩
 ·rw[List.pairwise_iff_getElem]
  intro i j Y u Z
  have d:=hso i j (Nat.zero_le _) Z (by rw[<- m]; simpa using u)
  unfold ltOf at d
  rw[decide_eq_false_iff_not,JL]at d
  have O:b[i]! = b.toList[i]:=by rw[getElem!_pos b i (by simpa using Y)]; simp
  have Q:b[j]! = b.toList[j]:=by rw[getElem!_pos b j (by simpa using u)]; simp
  rw[O,Q]at d
  exact Int.not_lt.1 d
 have:=fun q (F:q<l.length*s)=>CB (enc:=enc) (e0:=e0) (l:=b.toList) K q (by simpa [m] using F)
 have o3:Own (sortWorld id w g 0 N (Go.Sort.flatK (fun x=>(List.range s).map (enc x)) s b) p) B E s (.slice (some ⟨g,0,none⟩) l.length cap) l.length (flat s fun q=>enc (b.toList.getD q e0)):=o1.congr fun q F=>by
  have:=this q F
  simp only[Array.toArray_toList]at this
  exact this.symm
 exact o3
end Go.Proofs.YtcbedgfikejkoaaDoor.Fx
namespace Go.Proofs.YtcbedgfikejkoaaDoor
open Go.Shelf
def KW:Go.Shelf.Ren:=⟨fun|6=>17|15=>34|14=>33|28=>53|29=>54|20=>45|21=>46|22=>47|23=>48|24=>49|25=>50|26=>51|27=>52|46=>62|47=>63|48=>64|49=>65|50=>66|57=>81|n=>n,fun|22=>41|24=>72|25=>77|3=>3|39=>96|0=>0|53=>117|55=>29|4=>4|46=>110|45=>109|50=>114|5=>5|9=>9|66=>128|70=>132|76=>142|77=>143|n=>n,fun|n=>n⟩
theorem YV:Go.Proofs.SlLaysF0.n6 Tryd.prog KW := {
 mixed:=by kernel_rfl
 f6:=⟨Tryd.f17.name,by decide,Tryd.func17.trans (congrArg some (by kernel_rfl))⟩
 f14:=⟨Tryd.f33.name,by decide,Tryd.func33.trans (congrArg some (by kernel_rfl))⟩
 f15:=Tryd.func34.trans (congrArg some (by kernel_rfl))
 f20:=⟨Tryd.f45.name,by decide,Tryd.func45.trans (congrArg some (by kernel_rfl))⟩
 f21:=⟨Tryd.f46.name,by decide,Tryd.func46.trans (congrArg some (by kernel_rfl))⟩
 f22:=⟨Tryd.f47.name,by decide,Tryd.func47.trans (congrArg some (by kernel_rfl))⟩
 f23:=⟨Tryd.f48.name,by decide,Tryd.func48.trans (congrArg some (by kernel_rfl))⟩
 f24:=⟨Tryd.f49.name,by decide,Tryd.func49.trans (congrArg some (by kernel_rfl))⟩
 f25:=⟨Tryd.f50.name,by decide,Tryd.func50.trans (congrArg some (by kernel_rfl))⟩
 f26:=⟨Tryd.f51.name,by decide,Tryd.func51.trans (congrArg some (by kernel_rfl))⟩
 f27:=⟨Tryd.f52.name,by decide,Tryd.func52.trans (congrArg some (by kernel_rfl))⟩
 f28:=Tryd.func53.trans (congrArg some (by kernel_rfl))
 f29:=Tryd.func54.trans (congrArg some (by kernel_rfl))
 f46:=⟨Tryd.f62.name,by decide,Tryd.func62.trans (congrArg some (by kernel_rfl))⟩
 f47:=Tryd.func63.trans (congrArg some (by kernel_rfl))
 f48:=Tryd.func64.trans (congrArg some (by kernel_rfl))
 f49:=⟨Tryd.f65.name,by decide,Tryd.func65.trans (congrArg some (by kernel_rfl))⟩
 f50:=⟨Tryd.f66.name,by decide,Tryd.func66.trans (congrArg some (by kernel_rfl))⟩
 f57:=⟨Tryd.f81.name,by decide,Tryd.func81.trans (congrArg some (by kernel_rfl))⟩
 t0:=Tryd.underlying0
 a0:=Tryd.isAgg0
 z0:=Tryd.sizeOf0
 v0:=Tryd.zeroValue0
 t3:=Tryd.underlying3
 a3:=Tryd.isAgg3
 z3:=Tryd.sizeOf3
 v3:=Tryd.zeroValue3
 t4:=Tryd.underlying4
 a4:=Tryd.isAgg4
 z4:=Tryd.sizeOf4
 v4:=Tryd.zeroValue4
 t5:=Tryd.underlying5
 a5:=Tryd.isAgg5
 z5:=Tryd.sizeOf5
 v5:=Tryd.zeroValue5
 t9:=Tryd.underlying9
 a9:=Tryd.isAgg9
 z9:=Tryd.sizeOf9
 v9:=Tryd.zeroValue9
 t22:=Tryd.underlying41
 a22:=Tryd.isAgg41
 z22:=Tryd.sizeOf41
 v22:=Tryd.zeroValue41
 t25:=Tryd.underlying77
 a25:=Tryd.isAgg77
 z25:=Tryd.sizeOf77
 v25:=Tryd.zeroValue77
 t39:=Tryd.underlying96
 a39:=Tryd.isAgg96
 z39:=Tryd.sizeOf96
 v39:=Tryd.zeroValue96
 t45:=Tryd.underlying109
 a45:=Tryd.isAgg109
 z45:=Tryd.sizeOf109
 v45:=Tryd.zeroValue109
 t46:=Tryd.underlying110
 a46:=Tryd.isAgg110
 z46:=Tryd.sizeOf110
 v46:=Tryd.zeroValue110
 t50:=Tryd.underlying114
 a50:=Tryd.isAgg114
 z50:=Tryd.sizeOf114
 v50:=Tryd.zeroValue114
 t53:=Tryd.underlying117
 a53:=Tryd.isAgg117
 z53:=Tryd.sizeOf117
 v53:=Tryd.zeroValue117
 t55:=Tryd.underlying29
 a55:=Tryd.isAgg29
 z55:=Tryd.sizeOf29
 v55:=Tryd.zeroValue29
 t66:=Tryd.underlying128
 a66:=Tryd.isAgg128
 z66:=Tryd.sizeOf128
 v66:=Tryd.zeroValue128
 t70:=Tryd.underlying132
 a70:=Tryd.isAgg132
 z70:=Tryd.sizeOf132
 v70:=Tryd.zeroValue132
 t76:=Tryd.underlying142
 a76:=Tryd.isAgg142
 z76:=Tryd.sizeOf142
 v76:=Tryd.zeroValue142
 t77:=Tryd.underlying143
 a77:=Tryd.isAgg143
 z77:=Tryd.sizeOf143
 v77:=Tryd.zeroValue143 }
end Go.Proofs.YtcbedgfikejkoaaDoor
namespace Go.Proofs.YtcbedgfikejkoaaDoor
open Go.RowKit Go.Sort Rt
set_option linter.unusedVariables false
set_option maxRecDepth 20000
namespace Fx
def QM(w w':World):Prop := ∃ q a,w'=grow (w.drewN q) a
theorem QM.refl(w:World):QM w w:=⟨0,#[],by rw[grow_empty]; rfl⟩
theorem QM.alloc{w a b:World}(h:QM w a)(z : ∃ o,b=a.alloc o):QM w b:=by
 obtain⟨q,c,rfl⟩:=h
 obtain⟨o,rfl⟩:=z
 exact⟨q,c ++ #[o],by rw[alloc_eq_grow,grow_grow]⟩
theorem QM.drew{w a b:World}(h:QM w a)(z:b=a.drew):QM w b:=by
 obtain⟨q,c,rfl⟩:=h
 subst z
 exact⟨q+1,c,rfl⟩
section
variable {P:Program} {n:Nat} {Q:Post} {f:Nat->Value} {w:World} {ops:Array Oper} {rest:List Oper} {o:Oper}
theorem L.YW{T:TypeId}{x:Operand}{v:Value}{m:Nat}{y:Nat->Value}(e:Region.wanted o (yf ops f)=true)(c:o.op = .box T x)(hx:ev f x=v)(a:v.cells=aA m y)(b:inn n o.dst=true)
 (h : ∀ g w',g=w.heap.size->aL w' g m y T->Stp w.heap.size w w'->(∃ o,w'=w.alloc o)->L P n ops Q rest (put f o.dst (.pointer (some ⟨g,0,none⟩))) w'):L P n ops Q (o::rest) f w:=by
 have d:(execOp (ev f) o).run P w = .ok (.value (.pointer (some ⟨w.heap.size,0,none⟩))) (w.alloc (.cells v.cells T)):=by
  unfold execOp
  simp[c,hx,Instr.box,newVar,newRow]
 refine L.val e d b (h _ _ rfl ?_ (Stp.alloc _ _) ⟨_,rfl⟩)
 show(w.alloc _).heap[w.heap.size]? = _
 rw[alloc_at,if_pos rfl,a]
theorem L.QN{T E:TypeId}{len s:Nat}{k:List (Nat × Operand)}{vs:List (Nat × Value)}{zc y:Nat->Value}(H:Region.wanted o (yf ops f)=true)(A:o.op = .buildSlice T len k.toArray)(B:k.map (fun p=>(p.1,ev f p.2))=vs)(G:P.underlying T=some (.slice E))(d:(P.info? E).map (·.size)=some s)
 (m:Nat.ble (len*s) 16777216=true) (c:Nat.beq (len*s) 0=false) (I:((P.info? E).bind (·.zero)).map (·.cells)=some (aA s zc)) (t:Instr.fill (fun i=>some (i*s,s)) (aA (len*s) (fun j=>zc (j % s))) vs=some (aA (len*s) y)) (r:inn n o.dst=true)
 (h : ∀ g w',g=w.heap.size->aL w' g (len*s) y E->Stp w.heap.size w w'->(∃ o,w'=w.alloc o)->L P n ops Q rest (put f o.dst (.slice (some ⟨g,0,none⟩) len len)) w'):L P n ops Q (o::rest) f w:=by
 obtain⟨z,J,K⟩:=Option.map_eq_some_iff.1 I
 obtain⟨i,b,M⟩:=Option.bind_eq_some_iff.1 J
 have F:i.size=s:=by rw[b]at d; simpa using d
 have N : ¬ len*s>2^24:=by have:=Nat.le_of_ble_eq_true m; omega
 have a:len*s≠0:=fun e=>by rw[e]at c; exact absurd c (by decide)
 have D:0<s:=Nat.pos_of_ne_zero fun e=>a (by rw[e,Nat.mul_zero])
 have q:(Array.range (len*s)).map (fun j=>z.cells[j % z.cells.size]!)=aA (len*s) (fun j=>zc (j % s)):=by
  refine oo (by simp) fun j v => ?_
  have x:j % s<s:=Nat.mod_lt _ D
  have u:=dX zc x
  rw[K]
  simp[v,aZ]
  rw[getElem!_def,u]
 have C:(execOp (ev f) o).run P w = .ok (.value (.slice (some ⟨w.heap.size,0,none⟩) len len)) (w.alloc (.cells (aA (len*s) y) E)):=by
  unfold execOp
  simp only[A,List.map_toArray,B]
  unfold Instr.buildSlice
  have l : ¬ 16777216<len*s:=by omega
  simp[underlying,sizeOf,typeInfo,zeroValue,G,b,F,M,l]
  simp[a,q,t,newRow]
 refine L.val H C r (h _ _ rfl ?_ (Stp.alloc _ _) ⟨_,rfl⟩)
 show(w.alloc _).heap[w.heap.size]? = _
 rw[alloc_at,if_pos rfl]
end
section
variable {P:Program} {n:Nat} {ops:List Oper} {Q:Post}
theorem W.VY{f:Nat->Value}{w:World}{id:Nat}(l:List Nat)(cs:List Nat)(S:World->World->Prop)(j : ∀ w,S w w)(m : ∀ a b c,S a b->S b c->S a c)(eO:List (Nat × Nat × List Nat))(t:P.follows .mixedOrders=true)(u:jh n ops=true)(x:Region.noSelect ops.toArray=true)(e:uz ops l=true)(v:pF ops cs eO l=true)
 (h : ∀ g,Below w.heap.size w g->g=w.drew->R P n ops cs S Q l f g):W P n (.region id ops.toArray true) Q f w:=fun a o=>by
 refine wp_region_any t ?_
 unfold uz at e
 rw[Bool.and_eq_true,Bool.and_eq_true,Bool.and_eq_true,List.all_eq_true,List.all_eq_true]at e
 obtain⟨⟨⟨y,z⟩,p3⟩,p4⟩:=e
 have s:=Nat.eq_of_beq_eq_true y
 have A:l.Nodup:=of_decide_eq_true p3
 have:=R.any (P:=P) (Q:=Q) (eO:=eO) u x j m ops.length l (Array.replicate ops.length false) a f w.drew s (by simp) (D8.start _ _ _) (fun i=>by
  have p : ∀ i,(Array.replicate ops.length false).getD i false=false:=fun i=>getD_replicate_false _ _
  constructor
  ·intro d; exact⟨by simpa [Nat.blt_eq] using z i d,p i⟩
  ·intro d
   obtain⟨k,q,r⟩:=List.any_eq_true.1 (p4 i (by simpa using d.1))
   rw[Nat.eq_of_beq_eq_true r]; exact q) A (pG v) o (h w.drew (Below.refl _ _).drew rfl)
 simpa using this
end
end Fx
namespace Rt
structure DY where
 x:Nat->Int
 h:0<=x 1/\x 1<=18446744073709551615
def g0:DY:=⟨fun _=>0,by decide⟩
instance:Inhabited DY:=⟨g0⟩
def Ee(x:Nat->Int):DY:=if h:0<=x 1/\x 1<=18446744073709551615 then⟨x,h⟩else g0
def FN(x:DY):Int:=x.x 0*18446744073709551616+x.x 1
theorem SI{x:Nat->Int}(h:0<=x 1/\x 1<=18446744073709551615):(Ee x).x=x:=by unfold Ee; rw[dif_pos h]
def Le(a b:Int):Int:=if a=0 then b else a
def Ii(a b:Int)(i:Nat):Int:=if i=0 then a else b
def orW(a b:Int):Nat->Value:=fun j => .int .i64 (Ii a b j)
section
variable {a b:Int} {i:Nat}
theorem adH(d:i=0\/a=0)(c:Ii a b i=0):i+1=0\/a=0:=by
 unfold Ii at c
 rcases d with rfl|e
 ·exact .inr (by simpa using c)
 exact .inr e
theorem adI(d:i=0\/a=0)(c:Ii a b i=0):i+1<2\/Le a b=0:=by
 unfold Ii at c
 by_cases e:i=0
 ·exact .inl (by omega)
 rw[if_neg e]at c
 rcases d with h|h
 ·exact absurd h e
 exact .inr (by unfold Le; rw[if_pos h]; exact c)
theorem adJ(d:i=0\/a=0)(c : ¬ Ii a b i=0):Le a b=Ii a b i:=by
 unfold Ii at c ⊢
 unfold Le
 by_cases e:i=0
 ·rw[if_pos e]at c ⊢; rw[if_neg c]
 rw[if_neg e]
 rcases d with h|h
 ·exact absurd h e
 rw[if_pos h]
theorem adK(h:i<2\/Le a b=0)(c : ¬ (i:Int)<2):Le a b=0:=by
 rcases h with h|h
 ·omega
 exact h
end
theorem VZ(x y:DY):Le (Fx.iM (x.x 0) (y.x 0)) (Fx.iM (x.x 1) (y.x 1))=Fx.iM (FN x) (FN y):=by
 have a:=x.h
 have b:=y.h
 unfold Le Fx.iM FN
 repeat' split
 all_goals first|rfl|omega
structure KX(n:Nat)(S:Nat->Bool)(il:List Nat):Prop where
 nd:il.Nodup
 mem : ∀ i,i∈il<->(i<n/\S i=true)
theorem KX.start(n:Nat):KX n (fun _=>false) []:=⟨List.nodup_nil,fun i=>⟨fun h=>(nomatch h),fun h=>(nomatch h.2)⟩⟩
theorem KX.step{n i:Nat}{S:Nat->Bool}{c:List Nat}(h:KX n S c)(hi:i<n)(l:S i=false):KX n (Fx.aI S i true) (c ++ [i]):=by
 have k:i ∉ c:=fun g=>by have:=((h.mem i).1 g).2; rw[l]at this; cases this
 refine⟨List.nodup_append.2 ⟨h.nd,by simp,fun a f b d e => ?_⟩,fun j => ?_⟩
 ·rw[List.mem_singleton]at d; subst d; subst e; exact k f
 rw[List.mem_append,List.mem_singleton,h.mem]
 show _<->(j<n/\(if j=i then true else S j)=true)
 by_cases e:j=i
 ·subst e; rw[if_pos rfl]; exact⟨fun _=>⟨hi,rfl⟩,fun _ => .inr rfl⟩
 rw[if_neg e]; exact⟨fun h=>h.elim id fun h=>absurd h e,fun h => .inl h⟩
theorem KX.len{n:Nat}{S:Nat->Bool}{c:List Nat}(h:KX n S c):c.length<=n :=
 xq n c.length (fun q=>c.getD q 0) (fun q d=>by
  have:c.getD q 0∈c:=by rw[List.getD_eq_getElem?_getD,List.getElem?_eq_getElem d]; exact List.getElem_mem d
  exact((h.mem _).1 this).1) fun a b f g e=>by
  have e:c.getD a 0=c.getD b 0:=e
  rw[List.getD_eq_getElem?_getD,List.getD_eq_getElem?_getD,List.getElem?_eq_getElem f,List.getElem?_eq_getElem g]at e
  exact(List.getElem_inj h.nd).1 e
structure YX(m:dG)(l:List DY):Prop where
 mem : ∀ x,x∈l -> ∃ i,i<m.gn/\x.x=m.g i
 all : ∀ i,i<m.gn -> ∃ x,x∈l/\x.x=m.g i
 up:l.Pairwise fun x y=>FN x<FN y
theorem YX.of{m:dG}{w:World}{b:Nat}{t:List Nat}{l:List DY}{S:Nat->Bool}(o:Fx.fC w b m.gn (fun i=>m.g i 0) (fun i=>m.g i 1) (nY m.g))(hi:KX m.gn S t)(z : ∀ i,i<m.gn->S i=true)(r:l.Perm (t.map fun i=>Ee (m.g i)))(B:l.Pairwise fun x y=>FN x<=FN y):YX m l:=by
 have k : ∀ i,i<m.gn->(Ee (m.g i)).x=m.g i:=fun i hi=>SI (o.ok hi).b
 have f : ∀ i,i∈t<->i<m.gn:=fun i=>by rw[hi.mem]; exact⟨fun h=>h.1,fun h=>⟨h,z i h⟩⟩
 have p : ∀ x,x∈l -> ∃ i,i<m.gn/\x=Ee (m.g i):=fun x s=>by
  obtain⟨i,c,d⟩:=List.mem_map.1 (r.mem_iff.1 s)
  exact⟨i,(f i).1 c,d.symm⟩
 have A:l.Nodup:=by
  rw[r.nodup_iff,List.nodup_iff_pairwise_ne,List.pairwise_map]
  refine(List.nodup_iff_pairwise_ne.1 hi.nd).imp_of_mem fun {a b} ha hb q e=>q ?_
  have c:=congrArg DY.x e
  rw[k a ((f a).1 ha),k b ((f b).1 hb)]at c
  exact o.inj a b ((f a).1 ha) ((f b).1 hb) (by show m.g a 0=m.g b 0; rw[c]) (by show m.g a 1=m.g b 1; rw[c])
 refine⟨fun x s => ?_,fun i c => ?_,?_⟩
 ·obtain⟨i,c,d⟩:=p x s
  exact⟨i,c,by rw[d,k i c]⟩
 ·exact⟨Ee (m.g i),r.mem_iff.2 (List.mem_map.2 ⟨i,(f i).2 c,rfl⟩),k i c⟩
 refine(B.and (List.nodup_iff_pairwise_ne.1 A)).imp_of_mem fun {a b} ha hb h => ?_
 obtain⟨i,c,u⟩:=p a ha
 obtain⟨j,d,v⟩:=p b hb
 have q:=h.2
 rcases Int.lt_or_eq_of_le h.1 with h3|h3
 ·exact h3
 exfalso
 have C:=a.h
 have D:=b.h
 unfold FN at h3
 refine q ?_
 have n:a.x 0=b.x 0/\a.x 1=b.x 1:=by omega
 rw[u,v,k i c,k j d]at n
 have:=o.inj i j c d n.1 n.2
 rw[u,v,this]
def OL(m:dG)(l:List Int)(k:Nat):Nat->Value:=Ni (l.getD k 0) (m.T.par (l.getD k 0)) (yh m (l.getD k 0))
def Po(l:List DY)(k:Nat):Nat->Value:=jP (l.getD k g0).x
theorem FP{id a:Int}{R:Nat->Int}{z:Nat->Value} : ∀ j,j<56->Fx.bC (Fx.bC (Fx.bC z 0 1 (fun _ => .int .u64 id)) 1 1 (fun _ => .int .u64 a)) 2 54 (Fx.rv .i64 R) j=Ni id a R j:=fun j b=>by
 unfold Fx.bC Ni
 rcases(show j=0\/j=1\/2<=j by omega)with rfl|rfl|h
 ·rfl
 ·rfl
 ·rw[if_pos (by omega),if_neg (by omega),if_neg (by omega)]; rfl
theorem QO{m:dG}{l:List Int}{n:Nat}{id b:Int}{R:Nat->Int}{z z2:Nat->Value}(c:l.getD n 0=id)(d:m.T.par id=b)(f:yh m id=R) : ∀ j,j<(n+1)*56->Fx.iT (Fx.flat 56 (OL m l)) (n*56) (Fx.bC z (0*56) 56 (Fx.bC (Fx.bC (Fx.bC z2 0 1 (fun _ => .int .u64 id)) 1 1 (fun _ => .int .u64 b)) 2 54 (Fx.rv .i64 R))) j=Fx.flat 56 (OL m l) j:=fun j a =>
 (Fx.zD j a).trans (Fx.bG (fun k _ q g=>by
  unfold Fx.Ka
  by_cases e:k=n
  ·subst e; rw[if_pos rfl,FP q g]; unfold OL; rw[c,d,f]
  ·rw[if_neg e]) j a)
theorem QS{g:Nat->Nat->Int}{a:List Nat}{i:Nat}{z:Nat->Value} : ∀ j,j<(a.length+1)*5->Fx.iT (Fx.flat 5 fun k=>jP (g (a.getD k 0))) (a.length*5) (Fx.bC z (0*5) 5 (jP (g i))) j=Fx.flat 5 (fun k=>jP (g ((a ++ [i]).getD k 0))) j:=fun j b =>
 (Fx.zD j b).trans (Fx.bG (fun k c q _=>by
  unfold Fx.Ka
  by_cases e:k=a.length
  ·subst e; rw[if_pos rfl]; simp[List.getD_eq_getElem?_getD]
  ·rw[if_neg e]; show jP (g (a.getD k 0)) q=_; rw[List.getD_eq_getElem?_getD,List.getD_eq_getElem?_getD,List.getElem?_append_left (by omega)]) j b)
theorem QT{m:dG}{a:List Nat}{S:Nat->Bool}{w:World}{b:Nat}(d:Fx.fC w b m.gn (fun i=>m.g i 0) (fun i=>m.g i 1) (nY m.g))(hi:KX m.gn S a) : ∀ j,j<(a.map fun i=>Ee (m.g i)).length*5->Fx.flat 5 (fun k=>jP (m.g (a.getD k 0))) j=Fx.flat 5 (Po (a.map fun i=>Ee (m.g i))) j:=fun j f =>
 Fx.bG (n:=(a.map fun i=>Ee (m.g i)).length) (fun k c q _=>by
  rw[List.length_map]at c
  unfold Po
  have h:a.getD k 0∈a:=by rw[List.getD_eq_getElem?_getD,List.getElem?_eq_getElem c]; exact List.getElem_mem c
  have e:((a.map fun i=>Ee (m.g i)).getD k g0)=Ee (m.g (a.getD k 0)):=by
   rw[List.getD_eq_getElem?_getD,List.getD_eq_getElem?_getD,List.getElem?_eq_getElem (by rw[List.length_map]; exact c),List.getElem?_eq_getElem c,List.getElem_map]; rfl
  rw[e,SI (d.ok ((hi.mem _).1 h).1).b]) j f
theorem KY(s:zZ)(a:Option Addr)(n c:Nat):Fx.fH (lZ s) 18 (.slice a n c)=lZ { s with na:=a,nn:=n,nc:=c }:=by
 funext p
 unfold Fx.fH lZ
 by_cases e:p=18
 ·subst e; rw[if_pos rfl,if_neg (by omega),if_neg (by omega),if_neg (by omega),if_pos rfl]
 rw[if_neg e]
 repeat' split
 all_goals first|rfl|omega
theorem Ij(s:zZ)(a:Option Addr)(n c:Nat) : ∀ p,p<20->Fx.fH (lZ s) 19 (.slice a n c) p=lZ { s with ga:=a,gn:=n,gc:=c } p:=fun p b=>by
 unfold Fx.fH lZ
 by_cases e:p=19
 ·subst e; rw[if_pos rfl,if_neg (by omega),if_neg (by omega),if_neg (by omega),if_neg (by omega)]
 ·rw[if_neg e]
  repeat' split
  all_goals first|rfl|omega
def OM(m:dG)(d:Option Addr)(f e:Nat)(a:Option Addr)(c b:Nat):zZ:=⟨m.inn,m.left,m.known,d,f,e,a,c,b⟩
theorem QU{id a:Int}{R:Nat->Int}{z z2:Nat->Value} : ∀ j,j<1*56->(Fx.bC z (0*56) 56 (Fx.bC (Fx.bC (Fx.bC z2 0 1 (fun _ => .int .u64 id)) 1 1 (fun _ => .int .u64 a)) 2 54 (Fx.rv .i64 R)) j).oneCell'=true:=fun j b=>by
 rw[show Fx.bC z (0*56) 56 (Fx.bC (Fx.bC (Fx.bC z2 0 1 (fun _ => .int .u64 id)) 1 1 (fun _ => .int .u64 a)) 2 54 (Fx.rv .i64 R)) j=Fx.bC (Fx.bC (Fx.bC z2 0 1 (fun _ => .int .u64 id)) 1 1 (fun _ => .int .u64 a)) 2 54 (Fx.rv .i64 R) (j-0*56) by unfold Fx.bC; rw[if_pos (by omega)],FP _ (by omega)]
 exact Nn _ _ _ _
theorem QV{x:Nat->Int}{z:Nat->Value} : ∀ j,j<1*5->(Fx.bC z (0*5) 5 (jP x) j).oneCell'=true:=fun j a=>by
 unfold Fx.bC; rw[if_pos (by omega)]; exact ze x _
theorem V3{m:dG}{c:List Nat}{S:Nat->Bool}{w f:World}{b B cap d:Nat}{a:Option Addr}{T:TypeId}(l:Fx.fC w b m.gn (fun i=>m.g i 0) (fun i=>m.g i 1) (nY m.g))(hi:KX m.gn S c)(e:d=c.length)(n:Fx.Own f B T 5 (.slice a d cap) d (Fx.flat 5 fun k=>jP (m.g (c.getD k 0)))) :
 Fx.Own f B T 5 (.slice a (c.map fun i=>Ee (m.g i)).length cap) (c.map fun i=>Ee (m.g i)).length (Fx.flat 5 (Po (c.map fun i=>Ee (m.g i)))):=by
 have h:=n.congr (y:=Fx.flat 5 (Po (c.map fun i=>Ee (m.g i)))) (fun j o=>QT l hi j (by rw[List.length_map,<- e]; exact o))
 rw[List.length_map,<- e]; exact h
theorem OO(m:dG){z:Nat->Value}(e : ∀ j,18<=j->z j = .slice none 0 0){x1 x2:Nat->Value}(h1 : ∀ j,j<6->x1 j = .bool (m.inn j))(d : ∀ j,j<6->x2 j = .bool (m.left j)) : ∀ j,j<20->Fx.bC (Fx.bC (Fx.bC z 0 6 x1) 6 6 x2) 12 6 (Fx.rv .u64 m.known) j=lZ (OM m none 0 0 none 0 0) j:=fun j f=>by
 unfold Fx.bC lZ
 by_cases a:j<6
 ·rw[if_neg (by omega),if_neg (by omega),if_pos (by omega),if_pos a]; exact h1 _ (by omega)
 ·by_cases b:j<12
  ·rw[if_neg (by omega),if_pos (by omega),if_neg a,if_pos b]; exact d _ (by omega)
  ·by_cases c:j<18
   ·rw[if_pos (by omega),if_neg a,if_neg b,if_pos c]; rfl
   ·rw[if_neg (by omega),if_neg (by omega),if_neg (by omega),if_neg a,if_neg b,if_neg c,e j (by omega)]
    split <;> rfl
end Rt
structure StQ(w:World)(B:Nat)(m:dG)(s:zZ)(l:List Int)(gl:List DY):Prop where
 inn:s.inn=m.inn
 left:s.left=m.left
 known:s.known=m.known
 nn:s.nn=l.length
 gn:s.gn=gl.length
 ls:l.Pairwise (· < ·) /\ ∀ k,k∈l<->m.T.has k=true
 len:l.length<=32
 gs:YX m gl
 glb:gl.length<=m.gn
 n:Fx.Own w B 68 56 (.slice s.na s.nn s.nc) s.nn (Fx.flat 56 (OL m l))
 g:Fx.Own w B 72 5 (.slice s.ga s.gn s.gc) s.gn (Fx.flat 5 (Po gl))
end Go.Proofs.YtcbedgfikejkoaaDoor
namespace Go.Proofs.YtcbedgfikejkoaaDoor
open Go.RowKit Rt
open Fx (eU dJ fu bf fq eZ dS dM fA gQ dH gT eP gD gU Lv sN Ln Ws Qv Wl Rp Wc Qs Wr Sb Lk Wk rC rV sR Rs Rn Rd Rk Wb Wx Wo yT Wt pE Aq Qn AX uo xL yB xJ AZ AY gG yR jM nT tC A8 yA yP xQ yQ rv aA aL bC aI ev bT Stp bU aM flat fH Mp dL aV fC gI aX down fM iU iM ji jv bG bA cells_one jO aY nE unseen jk iT cu bW cB bY bZ iB iG qP gV)
set_option maxRecDepth 20000
set_option linter.unusedVariables false
theorem JM(n:Int)(w:World) :
 Calls Tryd.prog 35 #[au n] w fun e w'=>e = .returned (.bool false)/\w'=w:=by
 refine Kent Tryd.func35 6 ?_
 refine ay<|av aF<|aD<|ay<|av (au n)<|av (au n)<|Lv aF (kW rfl)<|av aF<|aD<|Wr<|aN aF ?_
 exact⟨rfl,rfl⟩
theorem QW(a b:Int)(w:World) :
 Calls Tryd.prog 20 #[au a,au b] w fun e w'=>e = .returned (au (iM a b))/\w'=w:=by
 refine Kent Tryd.func20 20 ?_
 refine ay<|av (au 0)<|aD<|ay<|av (au a)<|mH (JM a _) _ rfl<|av aF<|aD<|ay<|av (au b)<|mH (JM b _) _ rfl<|av aF<|aD<|Ws<|ay<|av aF<|aD<|aK<|Wk<|sN<|Ws<|ay<|av aF<|aD<|aK<|Wk<|sN<|Ws<|ay<|av (au a)<|av (au b) ?_
 by_cases c:a<b
 ·refine Lv aG (jU c)<|aD<|aQ<|ay<|av (au (-1))<|aD<|Wr<|sR<|aN (au (-1)) ?_
  exact⟨by unfold iM; simp[c],rfl⟩
 refine Lv aF (jV c)<|aD<|aK<|Wk<|sN<|Ws<|ay<|av (au a)<|av (au b) ?_
 by_cases d:b<a
 ·refine Lv aG (vo d)<|aD<|aQ<|ay<|av (au 1)<|aD<|Wr<|sR<|aN (au 1) ?_
  exact⟨by unfold iM; simp[c,d],rfl⟩
 refine Lv aF (vv d)<|aD<|aK<|Wk<|sN<|ay<|av (au 0)<|aD<|Wr<|aN (au 0) ?_
 exact⟨by unfold iM; simp[c,d],rfl⟩
theorem JN(n:Int)(w:World) :
 Calls Tryd.prog 36 #[aC n] w fun e w'=>e = .returned (.bool false)/\w'=w:=by
 refine Kent Tryd.func36 6 ?_
 refine ay<|av aF<|aD<|ay<|av (aC n)<|av (aC n)<|Lv aF (kW rfl)<|av aF<|aD<|Wr<|aN aF ?_
 exact⟨rfl,rfl⟩
theorem QX(a b:Int)(w:World) :
 Calls Tryd.prog 21 #[aC a,aC b] w fun e w'=>e = .returned (au (iM a b))/\w'=w:=by
 refine Kent Tryd.func21 20 ?_
 refine ay<|av (au 0)<|aD<|ay<|av (aC a)<|mH (JN a _) _ rfl<|av aF<|aD<|ay<|av (aC b)<|mH (JN b _) _ rfl<|av aF<|aD<|Ws<|ay<|av aF<|aD<|aK<|Wk<|sN<|Ws<|ay<|av aF<|aD<|aK<|Wk<|sN<|Ws<|ay<|av (aC a)<|av (aC b) ?_
 by_cases c:a<b
 ·refine Lv aG (jU c)<|aD<|aQ<|ay<|av (au (-1))<|aD<|Wr<|sR<|aN (au (-1)) ?_
  exact⟨by unfold iM; simp[c],rfl⟩
 refine Lv aF (jV c)<|aD<|aK<|Wk<|sN<|Ws<|ay<|av (aC a)<|av (aC b) ?_
 by_cases d:b<a
 ·refine Lv aG (vo d)<|aD<|aQ<|ay<|av (au 1)<|aD<|Wr<|sR<|aN (au 1) ?_
  exact⟨by unfold iM; simp[c,d],rfl⟩
 refine Lv aF (vv d)<|aD<|aK<|Wk<|sN<|ay<|av (au 0)<|aD<|Wr<|aN (au 0) ?_
 exact⟨by unfold iM; simp[c,d],rfl⟩
theorem adL(a b:Int)(c:Nat)(w:World)(q:gI w c 0 2 (orW a b)) :
 Calls Tryd.prog 19 #[bJ c 2 2] w fun e w'=>e = .returned (au (Le a b))/\w'=w:=by
 refine Kent Tryd.func19 18 ?_
 refine ay<|av (au 0)<|aD<|ay<|av (au 0)<|aD<|Ws<|ay<|av (bJ c 2 2)<|av (au 2)<|av (au 0)<|aD<|Wb<|Wo (fun f p => ∃ i:Nat,i<=2/\((i=0\/a=0))/\((i<2\/Le a b=0))/\p=w/\f 3=au 0/\f 6=bJ c 2 2/\f 7=au 2/\f 8=au ((i:Int))/\gI p c 0 2 (orW a b)) (fun f _=>(2-intOf (f 8)).toNat) ⟨0,(by omega),(.inl rfl),(.inl (by decide)),rfl,Fx.ic,(by rfl),Fx.ic,Fx.ic,q⟩ ?_
 rintro s u ⟨i,t,m,r,l,j,n,k,g,o⟩
 refine ay ?_
 by_cases h:(i:Int)<2
 ·refine Lv aG (jU h (hx:=g) (hy:=k))<|aD<|Ws<|aQ<|Wk<|sN<|Ws<|Wb<|ay<|Lv ((pf c i)) (dw 1 (hx:=n) (hi:=g))<|Lv (au (Ii a b i)) (aP o i)<|av (au (Ii a b i))<|aD<|ay<|av (au (Ii a b i))<|aS j ?_
  by_cases d:(Ii a b i)=0
  ·refine Lv aF (kW d)<|aD<|aK<|Wk<|cB<|sN<|Wl<|Lv (au ((i:Int)+1)) (fZ (hx:=g))<|av (au ((i:Int)+1))<|Ln<|iG ⟨i+1,(by omega),(adH m d),(adI m d),l,(j.trans Fx.ic),n,(k.trans Fx.ic),Fx.ic,o⟩ ?_
   show(2-intOf ((au ((i:Int)+1)))).toNat<_
   simp only[g,intOf]; omega
  refine Lv aG (qV d)<|aD<|aQ<|ay<|av (au (Ii a b i))<|av (au (Ii a b i))<|aD<|Wr<|bW<|sR<|qP<|bW<|sR<|aN (au (Ii a b i)) ?_
  exact⟨by rw[adJ m d],l⟩
 refine Lv aF (jV h (hx:=g) (hy:=k))<|aD<|Ws<|aK<|Wx<|bY<|iB<|bZ<|sN<|ay<|aS j<|av (au 0)<|aD<|Wr<|aN (au 0) ?_
 exact⟨by rw[adK r h],l⟩
set_option maxRecDepth 20000
set_option linter.unusedVariables false
theorem Rt.V4{w:World}{g:Nat}{a b:Int}{z:Nat->Value}{T:TypeId}(h:aL w g 2 (bC (bC z (0*1) 1 (fun _=>au a)) (1*1) 1 (fun _=>au b)) T):gI w g 0 2 (orW a b):=(h.congr (y:=orW a b) fun j c=>by
 rcases(show j=0\/j=1 by omega)with rfl|rfl <;> rfl).aJ
theorem V5(x y:DY)(w:World) :
 Calls Tryd.prog 18 #[.agg (aA 5 (jP x.x)),.agg (aA 5 (jP y.x))] w fun e w'=>e = .returned (au (iM (FN x) (FN y))) /\ ∃ q C,w'=Go.Sort.grow (w.drewN q) C:=by
 refine Kent Tryd.func18 17 ?_
 refine ay<|Fx.L.YW (m:=5) (y:=jP x.x) (by rfl) rfl rfl (bA _ _) rfl fun k U t d D H => ?_
 have f:=aR D.old (Below.refl w.heap.size w)
 have K:=gY t
 have R:=d.lt
 refine Fx.L.YW (m:=5) (y:=jP y.x) (by rfl) rfl rfl (bA _ _) rfl fun l V g n E I => ?_
 have⟨B,p⟩:=iA E.old d f
 have M:=gM g f.size
 have O:=bR g d.lt
 have S:=n.lt
 refine av (au 0)<|aD<|Ws ?_
 -- region 1 draws
 refine Fx.W.VY [0,2,5,7,1,3,6,8,4,9,10,11,12] [0,4,0,4,2,0,1,0,1,2,2,3,0] Fx.Mk nT Fx.Mk.trans (eO := [(4,1,[1]),(9,1,[4,1]),(10,1,[4,1]),(11,1,[10,4,1]),(4,3,[3]),(9,3,[4,3]),(10,3,[4,3]),(11,3,[10,4,3]),(11,6,[9,6]),(11,8,[9,8]),(9,4,[4]),(10,4,[4]),(11,4,[10,4]),(12,4,[4]),(10,9,[9]),(11,9,[9]),(12,9,[9]),(11,10,[10]),(12,10,[10]),(12,11,[11])]) (by kernel_rfl) (by kernel_rfl) (by kernel_rfl) (by kernel_rfl) (by kernel_rfl) fun Y z A => ?_
 have⟨a,b,r⟩:=jI z B n p
 refine aU ((pt k))<|aU ((pt l))<|aU ((pf k 1))<|aU ((pf l 1))<|Rs (au (x.x 0)) (aP a.aJ 0) ?_
 refine Rs (au (y.x 0)) (aP b.aJ 0) ?_
 refine Rd (v:=aC (x.x 1)) (by rfl) (by rfl) (nT _) (fun G c=>bf (x:=jP x.x) rfl rfl (by kernel_rfl) (a.aJ.below c (by have:=a.lt; omega)) (i:=1) (by omega) (by omega) rfl) ?_
 refine Rd (v:=aC (y.x 1)) (by rfl) (by rfl) (nT _) (fun G c=>bf (x:=jP y.x) rfl rfl (by kernel_rfl) (b.aJ.below c (by have:=b.lt; omega)) (i:=1) (by omega) (by omega) rfl) ?_
 refine zG (mH (QW (x.x 0) (y.x 0) _) _ rfl (Ln ⟨Below.refl _ _,?_⟩))
 refine zG (mH (QX (x.x 1) (y.x 1) _) _ rfl (Ln ⟨Below.refl _ _,?_⟩))
 refine zG<|Fx.L.QN (vs := [(0,au (iM (x.x 0) (y.x 0))),(1,au (iM (x.x 1) (y.x 1)))]) (s:=1) (zc:=rv .i64 (fun _=>0)) (y:=bC (bC (fun j=>(rv .i64 (fun _=>0)) (j % 1)) (0*1) 1 (fun _=>au (iM (x.x 0) (y.x 0)))) (1*1) 1 (fun _=>au (iM (x.x 1) (y.x 1)))) (by rfl) rfl rfl Tryd.underlying97 (by kernel_rfl) (by rfl) (by rfl) (by kernel_rfl) (by rw[aX (off:=0*1) (s:=1) (y:=fun _=>au (iM (x.x 0) (y.x 0))) rfl (cells_one (by rfl)) (by rfl)]; rw[aX (off:=1*1) (s:=1) (y:=fun _=>au (iM (x.x 1) (y.x 1))) rfl (cells_one (by rfl)) (by rfl)]; rfl) rfl fun u X h o F J => ?_
 have N:=gM h r.size
 have⟨P,Q⟩:=ow h a.lt b.lt
 have T:=o.lt
 refine Ln ⟨F.old,?_⟩
 refine gP<|mH (adL (iM (x.x 0) (y.x 0)) (iM (x.x 1) (y.x 1)) u _ (V4 o)) _ rfl<|Ln<|aU (au (Le (iM (x.x 0) (y.x 0)) (iM (x.x 1) (y.x 1))))<|bF<|Wr<|aN (au (Le (iM (x.x 0) (y.x 0)) (iM (x.x 1) (y.x 1)))) ?_
 exact⟨by rw[<- VZ],(((((Fx.QM.refl w).alloc H).alloc I).drew A).alloc J)⟩
theorem V6{w:World}{B cap:Nat}{a:Option Addr}{l:List DY}(h:Fx.Own w B 72 5 (.slice a l.length cap) l.length (flat 5 (Po l)))(g:l.length<=1000000) :
 Calls Tryd.prog 17 #[.slice a l.length cap,.func (.func 18) #[] #[]] w fun e w'=>e = .returned (.tuple #[]) /\ ∃ b:List DY,b.Perm l/\b.Pairwise (fun x y=>FN x<=FN y)/\Fx.Own w' B 72 5 (.slice a l.length cap) l.length (flat 5 (Po b))/\(∀ k,k<w.heap.size->(Value.slice a l.length cap).ownBlock≠some k->w'.heap[k]? = w.heap[k]?)/\jO [72] w w'/\Below B w w':=by
 have d:Fx.Own w B 72 5 (.slice a l.length cap) l.length (flat 5 fun q=>(fun x:DY=>jP x.x) (l.getD q g0)):=h
 have:=Fx.OJ YV (fun c w=>enters_of Tryd.func18 (by kernel_rfl) rfl c w) (by decide) Tryd.isAgg72 Tryd.sizeOf72 (enc:=fun x:DY=>jP x.x) (e0:=g0) (ky:=FN) (fun x j _=>ze x.x j) d
  (by intro f x y; refine(V5 x y f).mono fun e w' h => ?_; exact h) (by omega)
 exact this
theorem QY{m:dG}{d:List Nat}{S:Nat->Bool}{o w:World}{b B cap c:Nat}{a:Option Addr}(l:fC o b m.gn (fun i=>m.g i 0) (fun i=>m.g i 1) (nY m.g))(hi:KX m.gn S d)(e:c=d.length)(n:Fx.Own w B 72 5 (.slice a c cap) c (flat 5 fun k=>jP (m.g (d.getD k 0))))(p:c<=1000000) :
 Calls Tryd.prog 17 #[.slice a c cap,.func (.func 18) #[] #[]] w fun e w'=>e = .returned (.tuple #[]) /\ ∃ f:List DY,f.Perm (d.map fun i=>Ee (m.g i))/\f.Pairwise (fun x y=>FN x<=FN y)/\Fx.Own w' B 72 5 (.slice a c cap) c (flat 5 (Po f))/\(∀ k,k<w.heap.size->(Value.slice a c cap).ownBlock≠some k->w'.heap[k]? = w.heap[k]?)/\jO [72] w w'/\Below B w w':=by
 have h:(d.map fun i=>Ee (m.g i)).length=c:=by rw[List.length_map]; exact e.symm
 have j:=V6 (V3 l hi e n) (by rw[h]; omega)
 rw[h]at j
 exact j
set_option maxRecDepth 20000
set_option linter.unusedVariables false
set_option maxHeartbeats 1000000 in
theorem QZ(m:dG)(lp B:Nat)(w:World)(h:je w B lp m)(hgn:m.gn<=900000) :
 Calls Tryd.prog 9 #[(pt lp)] w fun e w' => ∃ s l gl,e = .returned (.agg (aA 20 (lZ s)))/\StQ w' w.heap.size m s l gl/\Below w.heap.size w w':=by
 have hC:=h.c
 have hT:=h.t
 have hP:=h.p
 have hR:=h.r
 have hG:=h.g
 have hA:=h.a
 have hN:=h.ne
 have lC:=h.c.lt
 have lT:=h.t.lt
 have lP:=h.p.lt
 have lR:=h.r.lt
 have lG:=h.g.lt
 have lA:=h.a.lt
 refine Kent Tryd.func9 72 ?_
 refine ay<|xJ (m:=20) (y:=fun d=>if d<12 then .bool false else if d<18 then aC 0 else .slice none 0 0) (by rfl) rfl (by kernel_rfl) rfl fun C w1 nk m1 s1 z1 => ?_
 have⟨m2,m3,m4,m5,m6,m7,b1⟩:=Da s1.old hC hT hP hR hG hA (Below.refl w.heap.size w)
 have wF:=gY nk
 have⟨nH,rY,vU,vV,vW⟩:=vB nk hC.lt hP.lt hR.lt hG.lt hA.lt
 have wQ:=m1.lt
 refine aD<|Ws<|ay<|av ((pt lp))<|Lv aF (Fx.jF rfl rfl rfl (by kernel_rfl))<|aD<|aK<|Wk<|sN<|Ws ?_
 -- region 3 draws
 refine Wt 13 (by kernel_rfl) (by kernel_rfl) fun qY fO iC => ?_
 have⟨m8,m9,m10,m11,m12,m13,m14,b2⟩:=Bd fO m2 m3 m4 m5 m6 m7 m1 b1
 refine Pj ((pt lp))<|Pj ((pt lp))<|Pj ((pt lp))<|AY (.agg (aA 6 (fun j => .bool (m.inn j)))) (gW m8.aJ 0 (fun j I=>by rw[Nat.zero_add]; exact xk I))<|Pj ((pt lp))<|Pj ((pt lp))<|Pj ((pf lp 6))<|AY (.agg (aA 6 (fun j => .bool (m.left j)))) (gW m8.aJ 6 (fun j I=>vR (p:=j) I (by omega)))<|Pj ((pt lp))<|Pj ((pt lp))<|Pj ((pf lp 12))<|AY (.agg (aA 6 (rv .u64 m.known))) (gW m8.aJ 12 (fun j I=>mh (p:=j) (by omega) (by omega)))<|Pj (.agg (aA 20 (bC (bC (bC (fun d=>if d<12 then .bool false else if d<18 then aC 0 else .slice none 0 0) 0 6 (fun j => .bool (m.inn j))) 6 6 (fun j => .bool (m.left j))) 12 6 (rv .u64 m.known))))<|Fx.St.nil ?_
 refine eX m14 0 (h1:=(aY (aY (aY (fun jq _=>by show((fun d=>if d<12 then .bool false else if d<18 then aC 0 else .slice none 0 0:Nat->Value) jq).oneCell'=true; simp only[]; repeat (first|rfl|split)) (fun _ _=>rfl)) (fun _ _=>rfl)) (fun _ _=>rfl))) fun U m15 s3 z2 => ?_
 have m16:aL U C 20 (bC (bC (bC (fun d=>if d<12 then .bool false else if d<18 then aC 0 else .slice none 0 0) 0 6 (fun j => .bool (m.inn j))) 6 6 (fun j => .bool (m.left j))) 12 6 (rv .u64 m.known)) 43:=aM m15
 have m17:aL U C 20 (lZ (OM m none 0 0 none 0 0)) 43:=m16.congr (OO m (fun j I=>by show(if j<12 then _ else if j<18 then _ else _)=_; rw[if_neg (by omega),if_neg (by omega)]) (fun _ _=>rfl) (fun _ _=>rfl))
 have iq:=gG s3 m14.ty
 have⟨m18,m19,m20,m21,m22,m23⟩:=aaS iq m8 m9 m10 m11 m12 m13
 have b3:=s3.below b2 b2.size (by omega)
 refine aD<|Ws<|ay<|av ((pt lp))<|av ((pt lp))<|av ((pf lp 18))<|Lv ((pt m.tp)) (aP m18.aJ 18)<|jy (MZ m19) ?_
 rintro e9 w3 ⟨SG,M,b,he,m24,hq1,YJ,hb1⟩
 refine⟨_,he,?_⟩
 clear he
 have⟨qK,qL,qx,uU,qZ,tH,lJ,b4⟩:=Bd hb1 m18 m19 m20 m21 m22 m23 m17 b3
 refine av (au b.length)<|av (au 0)<|aD<|Wb ?_
 have m32:Fx.Own w3 w.heap.size 68 56 (.slice none 0 0) 0 (flat 56 (OL m b)):=yA _ _ _ _ _
 have kll:=YJ
 refine Wo (fun f u => ∃ i:Nat,∃ D:Option Addr,∃ E:Nat,i<=b.length/\f 0=(pt lp)/\f 2=(pt C)/\f 27 = .slice SG (b.length) (M)/\f 28=au ((b.length:Int))/\f 29=au ((i:Int))/\aL u lp 29 (oO m) 59/\mM u B m.tp m.mb m.T/\Mp u m.pb m.T.n m.T.x (yJ m.T)/\Mp u m.rb m.T.n m.T.x (qd m.R)/\fC u m.gb m.gn (fun i=>m.g i 0) (fun i=>m.g i 1) (nY m.g)/\fC u m.ab m.an m.ao m.ar yK/\Fx.Own u U.heap.size 29 1 (.slice SG (b.length) (M)) b.length (qJ b)/\aL u C 20 (lZ (OM m D i E none 0 0)) 43/\Fx.Own u w.heap.size 68 56 (.slice D (i) (E)) i (flat 56 (OL m b))/\Below w.heap.size w u) (fun f _=>((b.length:Int)-intOf (f 29)).toNat) ⟨0,none,0,(by omega),(by rfl),(by rfl),(by rfl),Fx.ic,Fx.ic,qK,qL,qx,uU,qZ,tH,m24,lJ,m32,b4⟩ ?_
 rintro f1 w4 ⟨i,D,E,hi,O,h2,h3,h4,P,oD,nI,qM,pV,uD,qF,sM,ug,pW,b5⟩
 refine ay ?_
 by_cases c30:(i:Int)<(b.length:Int)
 ·refine Lv aG (jU c30 (hx:=P) (hy:=h4))<|aD<|Ws<|aQ<|Wk<|sN<|Ws<|Wb<|ay ?_
  obtain⟨JD,eq1⟩:=sM.addr (by omega)
  have uE:Fx.Own w4 U.heap.size 29 1 (bJ JD b.length M) b.length (qJ b):=sM.mG (congrArg (fun q=>Value.slice q b.length M) eq1)
  refine Lv ((pf JD i)) (dw 1 (hx:=(h3.trans (congrArg (fun q=>Value.slice q (b.length) (M)) eq1))) (hi:=P))<|Lv (aC (b.getD i 0)) (aP uE.aJ i)<|av (aC (b.getD i 0))<|aD ?_
  obtain⟨H,hjz,Z⟩:=eT ((hq1.2 _).1 (oz (show i<b.length by omega) rfl))
  have ejx:yh m (b.getD i 0)=m.R H:=by unfold yh dG.idx; rw[jH h.t.inv.inj hjz Z]
  have ejp:m.T.par (b.getD i 0)=m.T.p H:=vE h.t.inv.inj hjz Z
  -- region 7 draws
  refine yQ [0,2,3,4,5,7,9,10,11,13,1,6,8,12,14,15,16,17,18,19] [0,1,0,0,0,0,4,0,4,0,0,0,4,0,4,0,2,2,0,3] (jO [68]) A8 Fx.jO.trans (eO := [(19,1,[1]),(16,6,[15,8,6]),(17,6,[16,15,8,6]),(19,6,[6]),(16,8,[15,8]),(17,8,[16,15,8]),(19,8,[8]),(16,12,[15,14,12]),(17,12,[16,15,14,12]),(19,12,[12]),(16,14,[15,14]),(17,14,[16,15,14]),(19,14,[14]),(17,16,[16]),(18,16,[16]),(19,16,[16]),(18,17,[17]),(19,17,[17])]) (by kernel_rfl) (by kernel_rfl) (by kernel_rfl) (by kernel_rfl) (by kernel_rfl) fun D9 jX oC => ?_
  have⟨qN,ru,vH,sO,xR,zS,wS,uh,vI,b6⟩:=ou jX oD nI qM pV uD qF ug pW uE b5
  refine Rp ((pf C 18)) (fun _=>xO h2 18)<|aU (aC (b.getD i 0))<|bM O<|aU ((pt lp))<|aU ((pf lp 19))<|aU (aC (b.getD i 0))<|bM O<|aU ((pt lp))<|aU ((pf lp 20))<|aU (aC (b.getD i 0))<|Rd (v := .slice D (i) (E)) (by rfl) (by rfl) (A8 _) (fun v1 hv1=>bf (x:=lZ (OM m D i E none 0 0)) rfl rfl (by kernel_rfl) (wS.om hv1 (by decide)).aJ (i:=18) (by omega) (by omega) rfl) ?_
  refine Rs (.map (some m.pb)) (aP qN.aJ 19) ?_
  refine Rs (aC (m.T.p H)) (Fx.pK (z:=aC 0) rfl rfl rfl vH Tryd.underlying53 Tryd.underlying29 (by rfl) hjz Z rfl) ?_
  refine Rs (.map (some m.rb)) (aP qN.aJ 20) ?_
  refine Rs (.agg (aA 54 (rv .i64 (m.R H)))) (Fx.pK (z := .agg (aA 54 (rv .i64 (fun _=>0)))) rfl rfl rfl sO Tryd.underlying54 Tryd.underlying29 (by kernel_rfl) hjz Z rfl) ?_
  refine aU (.agg (aA 56 (bC (bC (bC (fun d=>if d<2 then aC 0 else au 0) 0 1 (fun _=>aC (b.getD i 0))) 1 1 (fun _=>aC (m.T.p H))) 2 54 (rv .i64 (m.R H)))))<|zG<|xL (vs := [(0,.agg (aA 56 (bC (bC (bC (fun d=>if d<2 then aC 0 else au 0) 0 1 (fun _=>aC (b.getD i 0))) 1 1 (fun _=>aC (m.T.p H))) 2 54 (rv .i64 (m.R H)))))]) (s:=56) (zc:=fun d=>if d<2 then aC 0 else au 0) (y:=bC (fun j=>(fun d=>if d<2 then aC 0 else au 0) (j % 56)) (0*56) 56 (bC (bC (bC (fun d=>if d<2 then aC 0 else au 0) 0 1 (fun _=>aC (b.getD i 0))) 1 1 (fun _=>aC (m.T.p H))) 2 54 (rv .i64 (m.R H)))) (by rfl) rfl rfl Tryd.underlying40 (by kernel_rfl) (by rfl) (by rfl) (by kernel_rfl) (by rw[aX (off:=0*56) (s:=56) (y:=bC (bC (bC (fun d=>if d<2 then aC 0 else au 0) 0 1 (fun _=>aC (b.getD i 0))) 1 1 (fun _=>aC (m.T.p H))) 2 54 (rv .i64 (m.R H))) rfl (bA _ _) (by rfl)]; rfl) rfl fun g2 w5 X wG s6 z3 => ?_
  have⟨vJ,Bo,wH,vK,sP,wI,xS,oF,uV,b7⟩:=ou s6.old qN ru vH sO xR zS wS uh vI b6
  have yH:=gM X b6.size
  have⟨adM,adN,adO,adP,adQ,adR⟩:=Dc X qN.lt vH.lt sO.lt xR.lt zS.lt wS.lt
  have adS:(.slice D (i) (E):Value).ownBlock≠some g2:=by rw[X]; exact uh.uw (Nat.le_refl _)
  have adT:=bR X vI.lt
  have Ba:=wG.lt
  refine Ln ⟨Fx.jO.of_below s6.old,?_⟩
  refine zG<|yB (B:=w.heap.size) (s:=56) (bytes:=448) (k:=i) (m:=1) (v := .slice D (i) (E)) (x:=flat 56 (OL m b)) (by rfl) rfl rfl rfl Tryd.underlying40 (by kernel_rfl) (by kernel_rfl) rfl rfl oF wG.aJ QU (by omega) (by omega) (by omega) b7.size fun g3 V w6 ho1 hg1 L8 hlt1 => ?_
  have kX:=yR hg1 oF
  have⟨xU,m64,Bp,Bq,yF,zT,vL,Br⟩:=TN kX vJ Bo wH vK sP wI xS uV
  have qy:Fx.Own w6 w.heap.size 68 56 (bJ g3 (i+1) V) (i+1) (flat 56 (OL m b)):=(ho1.congr (fun j I=>QO rfl ejp ejx j I))
  have b8:Below w.heap.size w w6:=yP b7 hg1 b7.size (fun q hq=>(oF.ge hq).1)
  refine Ln ⟨kX,?_⟩
  refine Rp ((pf C 18)) (fun _=>xO h2 18)<|gP<|mZ vL 18 (bJ g3 (i+1) V) fun w7 wT s7 z4 => ?_
  have zU:aL w7 C 20 (lZ (OM m (some ⟨g3,0,none⟩) (i+1) V none 0 0)) 43:=wT.to (KY _ _ _ _)
  have wR:=gG s7 vL.ty
  have⟨yG,EM,xV,BS,Ea,BU,A9,zV⟩:=TN wR xU m64 Bp Bq yF zT Br qy
  have b9:=s7.below b8 b8.size (by omega)
  refine Ln<|Rn<|cB<|sN<|Wl<|Lv (au ((i:Int)+1)) (fZ (hx:=P))<|av (au ((i:Int)+1))<|Ln ?_
  have yX:Fx.Own w7 U.heap.size 29 1 (.slice SG (b.length) (M)) b.length (qJ b):=A9.mG (congrArg (fun q=>Value.slice q b.length M) eq1.symm)
  skip
  refine iG ⟨i+1,(some ⟨g3,0,none⟩),V,(by omega),O,h2,h3,(h4.trans Fx.ic),Fx.ic,yG,EM,xV,BS,Ea,BU,yX,zU,zV,b9⟩ ?_
  show((b.length:Int)-intOf ((au ((i:Int)+1)))).toNat<_
  simp only[P,intOf]; omega
 refine Lv aF (jV c30 (hx:=P) (hy:=h4))<|aD<|Ws<|aK<|Wx<|bY<|iB<|bZ<|sN<|Ws<|ay<|aS O<|av ((pt lp))<|av ((pf lp 27))<|Lv (.map (some m.gb)) (aP oD.aJ 27)<|Fx.L.TT (by rfl) rfl rfl rfl uD Tryd.underlying55 fun g4 w8 Bj Bt s8 z5 => ?_
 have⟨BX,F8,JE,b10⟩:=iH s8.old uD ug pW b5
 have KN:=gM Bj b5.size
 have Js:=Bt.lt
 refine aD<|Wb ?_
 have KQ:Fx.Own w8 w.heap.size 72 5 (.slice none 0 0) 0 (flat 5 (fun k=>jP (m.g (([]:List Nat).getD k 0)))):=yA _ _ _ _ _
 refine yT (fun kE f u => ∃ S:Nat->Bool,∃ kk:Nat,∃ J:List Nat,∃ o:Nat,∃ F:Option Addr,∃ G:Nat,kk=unseen S m.gn/\kk=kE/\KX m.gn S J/\o=J.length/\f 2=(pt C)/\f 57=(pt g4)/\fC u m.gb m.gn (fun i=>m.g i 0) (fun i=>m.g i 1) (nY m.g)/\Fx.Own u w.heap.size 68 56 (.slice D (i) (E)) i (flat 56 (OL m b))/\aL u C 20 (lZ (OM m D i E F o G)) 43/\Fx.Own u w.heap.size 72 5 (.slice F (o) (G)) o (flat 5 (fun k=>jP (m.g (J.getD k 0))))/\Fx.It u g4 m.gb m.gn S/\Below w.heap.size w u) (unseen (fun _=>false) m.gn) ⟨(fun _=>false),(unseen (fun _=>false) m.gn),[],0,none,0,rfl,rfl,(KX.start _),rfl,h2,(by rfl),BX,JE,F8,KQ,Bt,b10⟩ ?_
 rintro kE f2 w9 ⟨S,kk,J,o,F,G,hkk,hkE,Q,hgl,K,h7,Gc,H6,FE,JG,Gd,b11⟩
 refine ay<|Fx.L.Xz (by rfl) rfl rfl h7 Gc Gd (fun EN => ?_)<|fun A zR hi1 hS1 Og Xc s9 z6 => ?_
 ·skip
  refine av aF<|aD<|Ws<|aK<|Wx<|bY<|iB<|bZ<|sN<|Ws ?_
  have eL:(J.map fun i=>Ee (m.g i)).length=o:=by rw[List.length_map]; exact hgl.symm
  have adU:=Q.len
  refine Wl<|Lv ((pf C 19)) (xO K 19)<|Lv (.slice F (o) (G)) (aP FE.aJ 19)<|fB (QY h.g Q hgl JG (by omega)) _ rfl ?_
  rintro Kn ⟨gl,hpm,hup,Ld,_,Bn,hb2⟩
  have b12:=b11.trans hb2
  have⟨Bz,xu⟩:=Es Bn H6 FE
  have agn:=xu.lt
  refine aD<|ay<|Lv (.agg (aA 20 (lZ (OM m D i E F o G)))) (gW xu.aJ 0 (ha:=K))<|eX xu 0 (ha:=K) (h1:=(fun j _=>Dr _ j)) fun La Am s10 z7 => ?_
  have Ao:aL La C 20 (lZ (OM m D i E F o G)) 43:=aM Am
  have GD:=gG s10 xu.ty
  have⟨uM,wh⟩:=Es GD Bz Ld
  have b13:=s10.below b12 b12.size (by omega)
  refine aD (Wr (⟨.agg (aA 20 (lZ (OM m D i E F o G))),rV Tryd.results9 ⟨_,K,aV Ao.aJ (by kernel_rfl) (by kernel_rfl)⟩,?_⟩))
  have eil:i=b.length:=by omega
  have egl:o=gl.length:=by rw[hpm.length_eq,eL]
  exact⟨OM m D i E F o G,b,gl,rfl,{ inn:=rfl,left:=rfl,known:=rfl,nn:=eil,gn:=egl,ls:=hq1,len:=kll,gs:=YX.of h.g Q EN hpm hup,glb:=by omega,n:=uM,g:=wh },b13⟩
 skip
 have hcm1:=Gd.xP s9
 have xB:=Gc.dh hcm1 (Gd.rb.symm)
 have Aw:=H6.dh hcm1
 have DW:=FE.dh hcm1
 have DU:=JG.dh hcm1
 have b14:=s9.below b11 b11.size (by omega)
 refine av aG<|aD<|Ws<|aQ<|Wk<|sN<|Wb<|ay<|Lv (.tuple #[Fx.kS (m.g A 0) (m.g A 1),.agg (aA 5 (jP (m.g A)))]) (Fx.LU (k1:=fun i=>m.g i 0) (k2:=fun i=>m.g i 1) (val:=nY m.g) (i:=A) rfl h7 xB Xc hi1)<|av (.agg (aA 5 (jP (m.g A))))<|lM 5 (fun d=>if d<1 then au 0 else if d<3 then aC 0 else if d<4 then au 0 else aC 0) fun g5 Sc QF xC s11 z8 => ?_
 have⟨Ar,KT,Qw,KU,H9,b15⟩:=vw s11.old xB Aw DW DU Og b14
 have VK:=gM QF b14.size
 have⟨aaq,aar⟩:=ow QF xB.lt DW.lt
 have JO:(.slice F (o) (G):Value).ownBlock≠some g5:=by rw[QF]; exact DU.uw (Nat.le_refl _)
 have YQ:=xC.lt
 refine eX xC 0 (h1:=(fun j _=>ze _ j)) fun Uo Ia s12 z9 => ?_
 have Au:aL Uo g5 5 (jP (m.g A)) 72:=aM Ia
 have EH:=gG s12 xC.ty
 have⟨Ib,Om,Ie⟩:=zI EH Ar KT Qw
 have Q0:=KU.eG s12 JO
 have V7:=kJ EH H9
 have b16:=s12.below b15 b15.size (by omega)
 refine aD ?_
 have adU:=Q.len
 have hgn1:o<=m.gn:=by omega
 refine Wl<|Lv ((pf C 19)) (xO K 19)<|Lv (.slice F (o) (G)) (aP Ie.aJ 19)<|Lv (.agg (aA 5 (jP (m.g A)))) (gW Au.aJ 0)<|xL (vs := [(0,.agg (aA 5 (jP (m.g A))))]) (s:=5) (zc:=fun d=>if d<1 then au 0 else if d<3 then aC 0 else if d<4 then au 0 else aC 0) (y:=bC (fun j=>(fun d=>if d<1 then au 0 else if d<3 then aC 0 else if d<4 then au 0 else aC 0) (j % 5)) (0*5) 5 (jP (m.g A))) (by rfl) rfl rfl Tryd.underlying41 (by kernel_rfl) (by rfl) (by rfl) (by kernel_rfl) (by rw[aX (off:=0*5) (s:=5) (y:=jP (m.g A)) rfl (bA _ _) (by rfl)]; rfl) rfl fun g6 W9 Y YZ s13 ZV => ?_
 have⟨V8,Q5,Q6,OP,V9,adV,b17⟩:=Da s13.old Ib Om Ie Q0 V7 Au b16
 have lg6:=gM Y b16.size
 have⟨aas,aat⟩:=ow Y Ib.lt Ie.lt
 have aau:(.slice F (o) (G):Value).ownBlock≠some g6:=by rw[Y]; exact Q0.uw (Nat.le_refl _)
 have aav:=bR Y Au.lt
 have tg6:=YZ.lt
 refine yB (B:=w.heap.size) (s:=5) (bytes:=40) (k:=o) (m:=1) (v := .slice F (o) (G)) (x:=flat 5 (fun k=>jP (m.g (J.getD k 0)))) (by rfl) rfl rfl rfl Tryd.underlying41 (by kernel_rfl) (by kernel_rfl) rfl rfl OP YZ.aJ QV (by omega) (by omega) (by omega) b17.size fun N W w16 ho2 hg2 Wd hlt2 => ?_
 have Wh:=yR hg2 OP
 have⟨adW,Q7,Y0,Wi⟩:=Gt Wh V8 Q5 Q6 V9
 have aaw:g5≠N:=fun e=>Wd.elim (fun e2=>JO (by rw[e]; exact e2)) (fun e2=>by have:=adV.lt; omega)
 have Wj:Fx.Own w16 w.heap.size 72 5 (bJ N (o+1) W) (o+1) (flat 5 (fun k=>jP (m.g ((J ++ [A]).getD k 0)))):=(ho2.congr (fun j I=>by rw[hgl]at I ⊢; exact QS j I))
 have b18:Below w.heap.size w w16:=yP b17 hg2 b17.size (fun q hq=>(OP.ge hq).1)
 refine Lv ((pf C 19)) (xO K 19)<|mZ Y0 19 (bJ N (o+1) W) fun X8 adX PU ZX => ?_
 have adY:aL X8 C 20 (lZ (OM m D i E (some ⟨N,0,none⟩) (o+1) W)) 43:=adX.congr (Ij _ _ _ _)
 have Wm:=gG PU Y0.ty
 have⟨Wn,adZ,aea,aeb⟩:=Gt Wm adW Q7 Wi Wj
 have b19:=PU.below b18 b18.size (by omega)
 refine Ln<|cB ?_
 skip
 refine iG ⟨unseen (aI S A true) m.gn,(by have O:=Fx.kK hS1 m.gn hi1; omega),(aI S A true),(unseen (aI S A true) m.gn),(J ++ [A]),o+1,(some ⟨N,0,none⟩),W,rfl,rfl,(Q.step hi1 hS1),(by rw[List.length_append,<- hgl]; rfl),K,h7,Wn,adZ,adY,aeb,aea,b19⟩ (by decide)
end Go.Proofs.YtcbedgfikejkoaaDoor
namespace Go.Proofs.YtcbedgfikejkoaaDoor
open Go.RowKit Go
set_option linter.unusedVariables false
namespace Rt
section
variable {f:(Nat->Int)->(Nat->Int) × Int} {idx:Nat->Nat} {R:Nat->Nat->Int} {r r':Nat->Nat->Int} {n K k:Nat}
theorem yu : ∀ {n:Nat},(∀ i,i<n->r i=r' i)->jr f r n=jr f r' n
 | 0,_=>rfl
 | n+1,h=>by unfold jr; rw[yu (n:=n) fun i a=>h i (by omega),h n (by omega)]
theorem Ay : ∀ {K:Nat},(∀ i j,i<K->j<K->idx i=idx j->i=j)->(dK f idx R K).2=jr f (fun i=>R (idx i)) K/\((dK f idx R K).2=0 -> ∀ k,(dK f idx R K).1 k=R k/\(∀ i,i<K->idx i≠k)\/(dK f idx R K).1 k=(f (R k)).1 /\ ∃ i,i<K/\idx i=k)
 | 0,_=>⟨rfl,fun _ k => .inl ⟨rfl,fun _ h=>absurd h (Nat.not_lt_zero _)⟩⟩
 | K+1,hi=>by
   obtain⟨q,r⟩:=Ay (K:=K) fun i j a b=>hi i j (by omega) (by omega)
   unfold jr
   rw[<- q]
   by_cases c:(dK f idx R K).2=0
   ·have n:=r c
    have p:(dK f idx R K).1 (idx K)=R (idx K):=by
     rcases n (idx K)with h|⟨_,i,d,g⟩
     ·exact h.1
     ·have:=hi i K (by omega) (by omega) g; omega
    rw[if_pos c]
    have e:dK f idx R (K+1)=(if(f ((dK f idx R K).1 (idx K))).2=0 then(bB (dK f idx R K).1 (idx K) (f ((dK f idx R K).1 (idx K))).1,0)else((dK f idx R K).1,(f ((dK f idx R K).1 (idx K))).2)):=by show(if _ then _ else _)=_; rw[if_pos c]
    rw[e,p]
    by_cases l:(f (R (idx K))).2=0
    ·rw[if_pos l]
     refine⟨l.symm,fun _ k => ?_⟩
     show bB (dK f idx R K).1 (idx K) _ k=R k/\_\/bB (dK f idx R K).1 (idx K) _ k=(f (R k)).1/\_
     unfold bB
     by_cases e:k=idx K
     ·subst e; rw[if_pos rfl]; exact .inr ⟨rfl,K,by omega,rfl⟩
     ·rw[if_neg e]
      rcases n k with ⟨d,g⟩|⟨d,i,g,h5⟩
      ·refine .inl ⟨d,fun i s m => ?_⟩
       by_cases o:i=K
       ·subst o; exact e m.symm
       ·exact g i (by omega) m
      ·exact .inr ⟨d,i,by omega,h5⟩
    ·rw[if_neg l]; exact⟨rfl,fun h=>absurd h l⟩
   ·rw[if_neg c]
    have e:dK f idx R (K+1)=dK f idx R K:=by show(if _ then _ else _)=_; rw[if_neg c]
    rw[e]
    exact⟨rfl,fun h=>absurd h c⟩
end
structure xE(T:dB)(L:dR):Prop where
 has : ∀ k,T.has k=true <-> ∃ i,i<L.nn/\L.id i=k
 n:T.n=L.nn
 par : ∀ i,i<L.nn->T.par (L.id i)=L.par i
section
variable {T:dB} {L:dR} {N:Nat} {x:Int}
theorem xE.find(h:xE T L)(b:Inv0 L N)(x:Int):T.has x=true<->0<=aT L.t L.tn x:=by
 rw[h.has,fG,b.wY]
 constructor
 ·rintro ⟨i,a,e⟩; exact⟨i,a,by rw[(b.tid i a).1]; exact e⟩
 rintro ⟨i,a,e⟩; exact⟨i,a,by rw[<- (b.tid i a).1]; exact e⟩
theorem xE.findF(h:xE T L)(a:Inv0 L N)(x:Int):T.has x=false<->aT L.t L.tn x<0:=by
 have:=h.find a x
 cases e:T.has x with
 | false=>rw[e]at this; exact⟨fun _=>by rcases Sw (aT L.t L.tn x)with h1|h1; exact h1; exact absurd (this.2 h1) (by decide),fun _=>rfl⟩
 | true=>rw[e]at this; have:=this.1 rfl; exact⟨fun h=>(nomatch h),fun h=>by omega⟩
theorem Inv0.at(c:Inv0 L N){i:Nat}(hi:i<L.nn):L.node (L.id i)=(i:Int):=by
 rw[c.node,<- (c.tid i hi).1]
 exact oM (fun a b d f e=>c.Yn a b d f e) (by rw[c.wY]; exact hi)
theorem xE.next(h:xE T L)(a:Inv0 L N)(hx:T.has x=true):T.par x=L.t (aT L.t L.tn x).toNat 1:=by
 obtain⟨i,b,rfl⟩:=(h.has x).1 hx
 have e:=a.at b
 rw[a.node]at e
 rw[e,h.par i b]
 exact((a.tid i b).2).symm
theorem xE.path(h:xE T L)(f:T.ok)(a:Inv0 L N)(x:Int):(T.path x).length=fQ L.t L.tn x /\ ∀ q,q<(T.path x).length->(T.path x).getD q 0=bL L.t L.tn q x:=by
 have g : ∀ q,q<(T.path x).length->T.has ((T.path x).getD q 0)=true/\(q+1<(T.path x).length->(T.path x).getD (q+1) 0=T.par ((T.path x).getD q 0))/\(q+1=(T.path x).length->T.has (T.par ((T.path x).getD q 0))=false):=mo (f.stop x)
 have j : ∀ q,q<(T.path x).length->(T.path x).getD q 0=bL L.t L.tn q x:=by
  intro q
  induction q with
  | zero =>
    intro b
    cases hx:T.has x with
    | false=>rw[show T.path x = []from jm hx]at b; exact absurd b (Nat.not_lt_zero _)
    | true=>rw[dB.step f hx]; rfl
  | succ q ih =>
    intro b
    have l:=ih (by omega)
    have c:=(g q (by show q<(T.path x).length; omega))
    have e:=c.2.1 b
    show(T.path x).getD (q+1) 0=L.t (aT L.t L.tn (bL L.t L.tn q x)).toNat 1
    rw[<- l,<- h.next a c.1]
    exact e
 refine⟨?_,j⟩
 obtain⟨D,n,m⟩:=a.dep x
 refine vP (D:=D) (fun i k => ?_) ?_ m (by omega)
 ·rw[<- j i k,<- h.find a]; exact(g i k).1
 by_cases d:(T.path x).length=0
 ·rw[d]
  show aT L.t L.tn x<0
  rw[<- h.findF a]
  cases hx:T.has x with
  | false=>rfl
  | true=>rw[dB.step f hx]at d; simp at d
 obtain⟨q,b⟩ : ∃ q,(T.path x).length=q+1:=⟨(T.path x).length-1,by omega⟩
 have c:=g q (by show q<(T.path x).length; omega)
 have e:=c.2.2 (by show q+1=(T.path x).length; omega)
 rw[b]
 show aT L.t L.tn (L.t (aT L.t L.tn (bL L.t L.tn q x)).toNat 1)<0
 rw[<- j q (by omega),<- h.next a c.1,<- h.findF a]
 exact e
theorem Q8(d:Inv0 L N)(x:Int):aT L.t L.tn (bL L.t L.tn (fQ L.t L.tn x) x)<0:=by
 obtain⟨D,e,b⟩:=d.dep x
 obtain⟨K,f,a,c⟩:=oN D b
 rw[<- vP c a b (by omega)]; exact a
theorem xE.mem(h:xE T L)(f:T.ok)(d:Inv0 L N)(x y:Int):y∈T.path x <-> ∃ i,i<fQ L.t L.tn x/\bL L.t L.tn i x=y:=by
 obtain⟨c,b⟩:=h.path f d x
 rw[<- c]
 constructor
 ·intro g
  obtain⟨i,a,e⟩:=List.getElem_of_mem g
  refine⟨i,a,?_⟩
  rw[<- b i a,List.getD_eq_getElem?_getD,List.getElem?_eq_getElem a]; exact e
 rintro ⟨i,a,rfl⟩
 rw[<- b i a,List.getD_eq_getElem?_getD,List.getElem?_eq_getElem a]; exact List.getElem_mem a
theorem xE.err(h:xE T L)(l:T.ok)(a:Inv0 L N)(id pa:Int):T.err id pa=Nl L.t L.tn id pa:=by
 unfold dB.err nu Nl
 by_cases c:id=0
 ·rw[if_pos c,if_pos c]
 rw[if_neg c,if_neg c]
 by_cases d:dD T.x T.n id=true
 ·rw[if_pos d,if_pos ((h.find a id).1 d)]
 rw[if_neg d,if_neg (fun e=>d ((h.find a id).2 e))]
 have j:(¬ pa=0/\dD T.x T.n pa=false)<->(pa≠0/\aT L.t L.tn pa<0):=by
  rw[<- h.findF a]; exact Iff.rfl
 by_cases f : ¬ pa=0/\dD T.x T.n pa=false
 ·rw[if_pos f,if_pos (j.1 f)]
 rw[if_neg f,if_neg (fun e=>f (j.2 e))]
 have k:(32<=T.n\/4<=(ig T.x T.p T.n 4 pa).length)<->(32<=L.tn\/Ci L.t L.tn pa):=by
  obtain⟨q,r⟩:=h.path l a pa
  have v:(T.path pa).length<=4:=dB.vY
  have:4<=(T.path pa).length<->Ci L.t L.tn pa:=by
   constructor
   ·intro s i u
    have b:=(mo (l.stop pa)) i (by show i<(T.path pa).length; omega)
    rw[<- r i (by omega),<- h.find a]; exact b.1
   ·intro o
    rcases Nat.lt_or_ge (T.path pa).length 4 with b|b
    ·exfalso
     have m:=o _ b
     rw[q]at m
     have:=Q8 a pa
     omega
    ·exact b
  show(32<=T.n\/4<=(T.path pa).length)<->_
  rw[this,h.n,a.wY]
 by_cases g:32<=T.n\/4<=(ig T.x T.p T.n 4 pa).length
 ·rw[if_pos g,if_pos (k.1 g)]
 rw[if_neg g,if_neg (fun e=>g (k.2 e))]
end
end Rt
end Go.Proofs.YtcbedgfikejkoaaDoor
namespace Go.Proofs.YtcbedgfikejkoaaDoor
open Go.RowKit Go
set_option linter.unusedVariables false
set_option maxRecDepth 20000
namespace Rt
section
variable {m:dG} {k:Int} {i:Nat}
theorem dG.JQ(b:m.T.ok)(c:m.T.has k=true):m.idx k<m.T.n/\m.T.x (m.idx k)=k:=by
 obtain⟨j,a,e⟩:=eT c
 have:m.idx k=j:=jH b.inj a e
 rw[this]; exact⟨a,e⟩
theorem OQ(x:Nat->Int)(id:Int) : ∀ n,(∀ i,i<n->x i≠id)->vS (Fx.aI x n id) (n+1) id=n:=fun n _=>by
 unfold vS
 rw[if_pos]
 unfold Fx.aI
 rw[if_pos rfl]
theorem CF{x y:Nat->Int}{k:Int} : ∀ {n:Nat},(∀ i,i<n->x i=y i)->vS x n k=vS y n k
 | 0,_=>rfl
 | n+1,h=>by unfold vS; rw[h n (by omega),CF (n:=n) fun i a=>h i (by omega)]
theorem OT(x:Nat->Int){id k:Int}(n:Nat)(b:id≠k):vS (Fx.aI x n id) (n+1) k=vS x n k:=by
 have a:Fx.aI x n id n=id:=by unfold Fx.aI; rw[if_pos rfl]
 show(if Fx.aI x n id n=k then n else vS (Fx.aI x n id) n k)=_
 rw[a,if_neg b]
 exact CF fun i c=>by unfold Fx.aI; rw[if_neg (by omega)]
theorem CG{f g:Nat->Int}{o:Int} : ∀ {n:Nat},(∀ i,i<n->f i=g i)->rG f o n=rG g o n
 | 0,_=>rfl
 | n+1,h=>by unfold rG; rw[CG (n:=n) fun i a=>h i (by omega),h n (by omega)]
theorem FQ{f:Nat->Int}{o v:Int}{k:Nat} : ∀ n,k<=n->rG (Fx.bT f k v) o (n+1)=rG f o n+if v / 1099511627776=o then 1 else 0
 | 0,h=>by
   obtain rfl:k=0:=by omega
   show 0+(if Fx.bT f 0 v 0 / 1099511627776=o then 1 else 0)=0+_
   rw[bK]
 | n+1,h=>by
   by_cases e:k=n+1
   ·subst e
    show rG (Fx.bT f (n+1) v) o (n+1)+(if Fx.bT f (n+1) v (n+1) / 1099511627776=o then 1 else 0)=_
    rw[bK,CG (g:=f) fun i a=>zf a]
   ·show rG (Fx.bT f k v) o (n+1)+(if Fx.bT f k v (n+1) / 1099511627776=o then 1 else 0)=rG f o n+(if f n / 1099511627776=o then 1 else 0)+_
    rw[FQ n (by omega),zh (by omega)]
    show _+(if f n / 1099511627776=o then 1 else 0)=_
    omega
theorem JR{f:Nat->Int}{o:Int} : ∀ n,rG f o n<=n
 | 0=>Nat.le_refl _
 | n+1=>by have:=JR (f:=f) (o:=o) n; unfold rG; split <;> omega
theorem oP{P:Nat->Bool}{n:Nat}:0<=fE P n <-> ∃ j,j<n/\P j=true:=by
 rcases gu P n with ⟨k,c,e,a⟩|⟨e,h⟩
 ·rw[e]; exact⟨fun _=>⟨k,c,a⟩,fun _=>by omega⟩
 rw[e]; exact⟨fun h=>by omega,fun⟨j,b,a⟩=>by rw[h j b]at a; cases a⟩
end
structure eB(m:dG)(L:dR):Prop where
 T:xE m.T L
 inn:m.inn=L.inn
 left:m.left=L.left
 known:m.known=L.known
 row : ∀ i,i<L.nn->yh m (L.id i)=L.R i
 own : ∀ a,a<6->m.own a=((rG L.id ((a:Int)+1) L.nn:Nat):Int)
 gi : ∀ i j,i<m.gn->j<m.gn->m.g i 0=m.g j 0->m.g i 1=m.g j 1->i=j
 gn:m.gn=L.gn
 g1 : ∀ q,q<L.gn -> ∃ j,j<m.gn/\m.g j=L.g q
 g2 : ∀ j,j<m.gn -> ∃ q,q<L.gn/\L.g q=m.g j
 ask : ∀(a:Nat) (r:Int),a<6->(kr m ((a:Int)+1) r=true <-> ∃ j,j<L.rn a/\L.rq a j=r)
 ga:VB m
 li : ∀ p q,p<L.gn->q<L.gn->L.g p 0=L.g q 0->L.g p 1=L.g q 1->p=q
section
variable {m:dG} {L:dR} {N:Nat} {v:EvM} {x:Int}
theorem eB.node(h:eB m L)(a:Inv0 L N)(x:Int):m.T.has x=true<->0<=L.node x:=by rw[h.T.find a,a.node]
theorem eB.FT(h:eB m L)(a:Inv0 L N)(x:Int):m.T.has x=false<->L.node x<0:=by rw[h.T.findF a,a.node]
theorem Inv0.Q9(a:Inv0 L N)(hx:0<=L.node x):(L.node x).toNat<L.nn/\L.id (L.node x).toNat=x:=by
 rw[a.node]at hx ⊢
 obtain⟨j,b,e,c⟩:=rF hx
 rw[e]
 rw[a.wY]at b
 exact⟨b,by show L.id j=x; rw[<- (a.tid j b).1]; exact c⟩
theorem eB.rk(h:eB m L)(c:Inv0 L N)(hx:0<=L.node x):yh m x=L.R (L.node x).toNat:=by
 obtain⟨a,b⟩:=c.Q9 hx
 rw[<- h.row _ a,b]
theorem eB.yM(h:eB m L)(f:m.T.ok)(a:Inv0 L N)(hx:m.T.has x=true)(r:Nat->Int):eB (yM m x r) { L with R:=bB L.R (L.node x).toNat r }:=by
 have l:=(h.node a x).1 hx
 obtain⟨j,c⟩:=a.Q9 l
 refine { h with row:=fun i b => ?_,T:=⟨h.T.has,h.T.n,h.T.par⟩ }
 show Fx.aI m.R (m.idx x) r (m.idx (L.id i))=bB L.R (L.node x).toNat r i
 unfold Fx.aI bB
 by_cases e:i=(L.node x).toNat
 ·subst e; rw[c,if_pos rfl,if_pos rfl]
 rw[if_neg e,if_neg]
 ·exact h.row i b
 intro g
 have d:=(dG.JQ f ((h.T.has _).2 ⟨i,b,rfl⟩)).2
 have k:=(dG.JQ f hx).2
 rw[g,k]at d
 exact e (a.inj i _ b j (by rw[c]; exact d.symm))
theorem eB.along(h:eB m L)(l:m.T.ok)(g:Inv0 L N)(f:(Nat->Int)->(Nat->Int) × Int)(x:Int) :
 bV m f (m.T.path x)=(dK f (tJ L x) L.R (fQ L.t L.tn x)).2/\((dK f (tJ L x) L.R (fQ L.t L.tn x)).2=0 -> ∀ i,i<L.nn->(mU m f (m.T.path x)).R (m.idx (L.id i))=(dK f (tJ L x) L.R (fQ L.t L.tn x)).1 i):=by
 obtain⟨z,p⟩:=h.T.path l g x
 have w:(m.T.path x).Nodup:=dB.uN l x
 have o : ∀ i,i<fQ L.t L.tn x->0<=L.node (bL L.t L.tn i x):=fun i c=>by rw[g.node]; exact Ag c
 have y : ∀ i j,i<fQ L.t L.tn x->j<fQ L.t L.tn x->tJ L x i=tJ L x j->i=j:=fun i j c v e=>by
  have a:=g.Q9 (o i c)
  have b:=g.Q9 (o j v)
  have e:(L.node (bL L.t L.tn i x)).toNat=(L.node (bL L.t L.tn j x)).toNat:=e
  rw[e]at a
  have k:bL L.t L.tn i x=bL L.t L.tn j x:=a.2.symm.trans b.2
  rw[<- p i (by omega),<- p j (by omega)]at k
  exact xD w (by omega) (by omega) k
 obtain⟨A,B⟩:=Ay (f:=f) (idx:=tJ L x) (R:=L.R) y
 refine⟨?_,fun s i c => ?_⟩
 ·rw[A]
  unfold bV
  rw[z]
  exact yu fun i c=>by
   rw[p i (by omega)]
   exact h.rk g (o i c)
 have u:=(dG.JQ l ((h.T.has _).2 ⟨i,c,rfl⟩)).2
 show(if m.T.x (m.idx (L.id i))∈m.T.path x then(f (m.R (m.idx (L.id i)))).1 else m.R (m.idx (L.id i)))=_
 rw[u,show m.R (m.idx (L.id i))=L.R i from h.row i c]
 have r:L.id i∈m.T.path x <-> ∃ q,q<fQ L.t L.tn x/\tJ L x q=i:=by
  rw[h.T.mem l g]
  constructor
  ·rintro ⟨q,d,e⟩
   exact⟨q,d,(zk g c d).2 e⟩
  ·rintro ⟨q,d,e⟩
   exact⟨q,d,(zk g c d).1 e⟩
 rcases B s i with ⟨n,k⟩|⟨n,q,d,k⟩
 ·rw[n,if_neg]
  rw[r]; rintro ⟨q,d,e⟩; exact k q d e
 rw[n,if_pos (r.2 ⟨q,d,k⟩)]
theorem eB.asked(h:eB m L)(f:cZ v=true)(r:Int):kr m v.o r=true<->0<=L.rE (bD v) r:=by
 obtain⟨a,c,d⟩:=dZ (iQ f)
 have:bD v=a:=by unfold bD; omega
 rw[this,d,h.ask a r c]
 unfold dR.rE
 rw[oP]
 constructor
 ·rintro ⟨j,b,e⟩; exact⟨j,b,decide_eq_true e⟩
 rintro ⟨j,b,e⟩; exact⟨j,b,of_decide_eq_true e⟩
theorem eB.grant(h:eB m L)(o r:Int):(DX m o r=true<->0<=L.grant o r)/\(0<=L.grant o r->(L.grant o r).toNat<L.gn/\mX m o r<m.gn/\m.g (mX m o r)=L.g (L.grant o r).toNat/\L.g (L.grant o r).toNat 0=o/\L.g (L.grant o r).toNat 1=r):=by
 have n:DX m o r=true <-> ∃ j,j<m.gn/\m.g j 0=o/\m.g j 1=r:=mW
 have p:0<=L.grant o r <-> ∃ q,q<L.gn/\L.g q 0=o/\L.g q 1=r:=by
  unfold dR.grant
  rw[oP]
  constructor
  ·rintro ⟨j,a,e⟩; rw[Bool.and_eq_true]at e; exact⟨j,a,of_decide_eq_true e.1,of_decide_eq_true e.2⟩
  ·rintro ⟨j,a,b,c⟩; exact⟨j,a,by rw[decide_eq_true b,decide_eq_true c]; rfl⟩
 refine⟨?_,fun l => ?_⟩
 ·rw[n,p]
  constructor
  ·rintro ⟨j,a,b,c⟩
   obtain⟨q,d,e⟩:=h.g2 j a
   exact⟨q,d,by rw[e]; exact b,by rw[e]; exact c⟩
  rintro ⟨q,d,b,c⟩
  obtain⟨j,a,e⟩:=h.g1 q d
  exact⟨j,a,by rw[e]; exact b,by rw[e]; exact c⟩
 have : ∃ q,q<L.gn/\L.grant o r=(q:Int)/\L.g q 0=o/\L.g q 1=r:=by
  unfold dR.grant at l ⊢
  rcases gu (fun i=>decide (L.g i 0=o)&&decide (L.g i 1=r)) L.gn with ⟨q,d,e,k⟩|⟨e,_⟩
  ·rw[Bool.and_eq_true]at k; exact⟨q,d,e,of_decide_eq_true k.1,of_decide_eq_true k.2⟩
  ·omega
 obtain⟨q,d,e,b,c⟩:=this
 rw[e]
 obtain⟨j,a,f⟩:=h.g1 q d
 have:mX m o r=j:=wu h.gi a (by show m.g j 0=o; rw[f]; exact b) (by show m.g j 1=r; rw[f]; exact c)
 rw[this]
 exact⟨d,a,f,b,c⟩
theorem eB.Y1(h:eB m L)(i:m.T.ok)(g:Inv0 L N)(e:cZ v=true)(l:v.kind=1):ko m v=rH L v:=by
 obtain⟨a,j,d⟩:=dZ (iQ e)
 have k:bD v=a:=by unfold bD; omega
 unfold ko rH
 rw[k,h.own a j,d]
 have b:(5<=((rG L.id ((a:Int)+1) L.nn:Nat):Int)\/140737488355328<v.bH)<->(5<=rG L.id ((a:Int)+1) L.nn\/140737488355328<v.bH):=by omega
 have f:ng v=wJ ((a:Int)+1) v.seq:=by rw[<- d,zi e]; rfl
 by_cases c:5<=rG L.id ((a:Int)+1) L.nn\/140737488355328<v.bH
 ·rw[if_pos c,if_pos (b.2 c)]
 rw[if_neg c,if_neg (fun q=>c (b.1 q)),h.T.err i g,f]
theorem eB.make(h:eB m L)(A:m.T.ok)(r:Inv0 L N)(l:cZ v=true)(D:v.kind=1)(z:rH L v=0):eB (Cv m v) (rM L v):=by
 obtain⟨k,g,H,I,J,K,M,y,P,Q,G⟩:=uJ r l D z
 have t:=zi l
 have O:=mR l
 have f:ng v=wJ v.o v.seq:=by rw[t]; rfl
 have w:m.T.has (ng v)=false:=by
  rw[h.T.findF r,f,oL]
  exact G.no
 have E : ∀ i,i<m.T.n->m.T.x i≠ng v:=fun i d e=>by
  have:=dB.vX d; rw[e,w]at this; cases this
 rw[y]
 have C : ∀ q,(m.T.put (ng v) v.node).has q=true<->(m.T.has q=true\/q=ng v):=fun q=>by
  rw[dB.iO,Bool.or_eq_true,decide_eq_true_iff]
  exact⟨fun h=>h.imp id Eq.symm,fun h=>h.imp id Eq.symm⟩
 have u : ∀ q,q<L.nn->L.id q≠ng v:=fun q F e=>by
  have:=(h.T.has _).2 ⟨q,F,rfl⟩; rw[e,w]at this; cases this
 refine {
  T:=⟨fun q => ?_,?_,fun i d => ?_⟩
  inn:=h.inn
  left:=h.left
  known:=h.known
  row:=fun i d => ?_
  own:=fun a s => ?_
  gi:=h.gi
  gn:=h.gn
  g1:=h.g1
  g2:=h.g2
  ask:=h.ask
  ga:=h.ga
  li:=h.li }
 ·show(m.T.put (ng v) v.node).has q=true <-> ∃ i,i<L.nn+1/\Fx.bT L.id k (wJ v.o v.seq) i=q
  rw[C,h.T.has]
  constructor
  ·rintro (⟨i,d,e⟩|e)
   ·obtain⟨j,b,_,c⟩:=rR (k:=k) d
    exact⟨j,b,by rw[c]; exact e⟩
   exact⟨k,by omega,by rw[bK,e,f]⟩
  rintro ⟨i,d,e⟩
  rcases bX g d with rfl|⟨j,b,c,_,_⟩
  ·rw[bK]at e; exact .inr (by rw[<- e,f])
  rw[c]at e; exact .inl ⟨j,b,e⟩
 ·show m.T.n+1=L.nn+1
  rw[h.T.n]
 ·show(m.T.put (ng v) v.node).par (Fx.bT L.id k (wJ v.o v.seq) i)=Fx.bT L.par k v.node i
  rw[dB.pU]
  rcases bX g d with rfl|⟨j,b,c,_,_⟩
  ·rw[bK,bK,if_pos f]
  rw[c,c,if_neg (fun e=>u j b e.symm)]; exact h.T.par j b
 ·show Fx.aI m.R m.T.n _ (vS (Fx.aI m.T.x m.T.n (ng v)) (m.T.n+1) (Fx.bT L.id k (wJ v.o v.seq) i))=Fx.bT L.R k _ i
  rcases bX g d with rfl|⟨j,b,c,_,_⟩
  ·rw[bK,bK,<- f,OQ _ _ _ E]; unfold Fx.aI; rw[if_pos rfl]
  rw[c,c,OT _ _ (fun e=>u j b e.symm)]
  have p:=(dG.JQ A ((h.T.has _).2 ⟨j,b,rfl⟩)).1
  have p:vS m.T.x m.T.n (L.id j)<m.T.n:=p
  unfold Fx.aI
  rw[if_neg (by omega)]
  exact h.row j b
 show bB m.own (bD v) (m.own (bD v)+1) a=((rG (Fx.bT L.id k (wJ v.o v.seq)) ((a:Int)+1) (L.nn+1):Nat):Int)
 rw[FQ _ g,t]
 have B:(1099511627776*v.o+v.seq) / 1099511627776=v.o:=by omega
 rw[B]
 unfold bB
 by_cases e:a=bD v
 ·rw[if_pos e,<- e,h.own a s,if_pos (by unfold bD at e; omega)]; rfl
 rw[if_neg e,h.own a s,if_neg (by unfold bD at e; omega)]; rfl
attribute [local irreducible] fQ dK bV in
theorem eB.rz(h:eB m L)(d:m.T.ok)(g:Inv0 L N)(i:cZ v=true):kN m v=mP L v:=by
 unfold kN mP
 by_cases c:kr m v.o v.req=true
 ·rw[if_pos c,if_pos ((h.asked i _).1 c)]
 rw[if_neg c,if_neg (fun e=>c ((h.asked i _).2 e))]
 obtain⟨j,_⟩:=h.T.path d g v.node
 have f:m.T.has v.node=false<->fQ L.t L.tn v.node=0:=by
  rw[<- j]
  constructor
  ·intro b; rw[show m.T.path v.node = []from jm b]; rfl
  ·intro b
   cases e:m.T.has v.node with
   | false=>rfl
   | true=>rw[dB.step d e]at b; simp at b
 by_cases a:m.T.has v.node=false
 ·rw[if_pos a,if_pos (f.1 a)]
 rw[if_neg a,if_neg (fun e=>a (f.2 e))]
 exact(h.along d g _ _).1
theorem OU{k1 k2:Nat->Int}{n:Nat}{a b o r:Int}:BD (Fx.aI k1 n a) (Fx.aI k2 n b) (n+1) o r=true<->(BD k1 k2 n o r=true\/(a=o/\b=r)):=by
 rw[mW,mW]
 unfold Fx.aI
 constructor
 ·rintro ⟨j,f,c,d⟩
  by_cases e:j=n
  ·subst e; rw[if_pos rfl]at c d; exact .inr ⟨c,d⟩
  rw[if_neg e]at c d; exact .inl ⟨j,by omega,c,d⟩
 rintro (⟨j,f,c,d⟩|⟨c,d⟩)
 ·exact⟨j,by omega,by rw[if_neg (by omega)]; exact c,by rw[if_neg (by omega)]; exact d⟩
 exact⟨n,by omega,by rw[if_pos rfl]; exact c,by rw[if_pos rfl]; exact d⟩
theorem eB.JU(h:eB m L)(w:cZ v=true)(d:dG)(f:dR)(i:d.an=m.an+1)(k:d.ao=Fx.aI m.ao m.an v.o)(l:d.ar=Fx.aI m.ar m.an v.req)(n:f.rn=bB L.rn (bD v) (L.rn (bD v)+1))(p:f.rq=bB L.rq (bD v) (bB (L.rq (bD v)) (L.rn (bD v)) v.req)) :
 (∀(a:Nat) (r:Int),a<6->(kr d ((a:Int)+1) r=true <-> ∃ j,j<f.rn a/\f.rq a j=r))/\(∀ o r,kr m o r=true->kr d o r=true)/\kr d v.o v.req=true:=by
 obtain⟨b,x,t⟩:=dZ (iQ w)
 have u:bD v=b:=by unfold bD; omega
 have g : ∀ o r,kr d o r=true<->(kr m o r=true\/(v.o=o/\v.req=r)):=fun o r=>by
  unfold kr; rw[i,k,l]; exact OU
 refine⟨fun a r q => ?_,fun o r h=>(g o r).2 (.inl h),(g _ _).2 (.inr ⟨rfl,rfl⟩)⟩
 rw[g,h.ask a r q,n,p,u]
 unfold bB
 by_cases e:a=b
 ·subst e
  rw[if_pos rfl,if_pos rfl]
  constructor
  ·rintro (⟨j,s,e⟩|⟨_,e⟩)
   ·exact⟨j,by omega,by show(if j=L.rn a then v.req else L.rq a j)=r; rw[if_neg (by omega)]; exact e⟩
   exact⟨L.rn a,by omega,by show(if L.rn a=L.rn a then v.req else _)=r; rw[if_pos rfl]; exact e⟩
  rintro ⟨j,s,e⟩
  have e:(if j=L.rn a then v.req else L.rq a j)=r:=e
  by_cases c:j=L.rn a
  ·rw[if_pos c]at e; exact .inr ⟨t,e⟩
  rw[if_neg c]at e; exact .inl ⟨j,by omega,e⟩
 rw[if_neg e,if_neg e]
 exact⟨fun h=>h.elim id fun h=>by omega,.inl⟩
attribute [local irreducible] fQ dK bV in
theorem eB.take(h:eB m L)(F:m.T.ok)(E:Inv0 L N)(D:cZ v=true)(t:mP L v=0):eB (su m v) (iE L v):=by
 unfold mP at t
 split at t
 ·cases t
 rename_i c1
 split at t
 ·cases t
 have I:=(h.along F E (fun x=>bO x v.o v.bH) v.node).2 t
 have G : ¬ kr m v.o v.req=true:=fun e=>c1 ((h.asked D _).1 e)
 obtain⟨J,K,M⟩:=h.JU D (su m v) (iE L v) rfl rfl rfl rfl rfl
 have s : ∀ j,(su m v).g j=if j=m.gn then wV v else m.g j:=fun j=>rfl
 have A:wV v 0=v.o:=rfl
 have B:wV v 1=v.req:=rfl
 have y : ∀ j,j<m.gn -> ¬ (m.g j 0=v.o/\m.g j 1=v.req):=fun j d e=>G (by have:=h.ga j d; rw[e.1,e.2]at this; exact this)
 have u:=Fx.pI (fun i=>E8 v (L.g i)) L.gn
 refine {
  T:=⟨h.T.has,h.T.n,h.T.par⟩
  inn:=h.inn
  left:=h.left
  known:=h.known
  row:=I
  own:=h.own
  gi:=fun i j r d b a => ?_
  gn:=by show m.gn+1=L.gn+1; rw[h.gn]
  g1:=fun q f => ?_
  g2:=fun j d => ?_
  ask:=J
  ga:=fun i r => ?_
  li:=fun p q z f b a => ?_ }
 ·have r:i<m.gn+1:=r
  have d:j<m.gn+1:=d
  rw[s,s]at b a
  by_cases c:i=m.gn
  ·by_cases l:j=m.gn
   ·omega
   rw[if_pos c,if_neg l,A]at b; rw[if_pos c,if_neg l,B]at a
   exact absurd ⟨b.symm,a.symm⟩ (y j (by omega))
  by_cases l:j=m.gn
  ·rw[if_neg c,if_pos l,A]at b; rw[if_neg c,if_pos l,B]at a
   exact absurd ⟨b,a⟩ (y i (by omega))
  rw[if_neg c,if_neg l]at b a; exact h.gi i j (by omega) (by omega) b a
 ·have f:q<L.gn+1:=f
  show ∃ j,j<m.gn+1/\(su m v).g j=Fx.bT L.g (Fx.down (fun i=>E8 v (L.g i)) L.gn) (wV v) q
  rcases bX u f with e|⟨j,d,a,_,_⟩
  ·rw[e,bK]; exact⟨m.gn,by omega,by rw[s,if_pos rfl]⟩
  rw[a]
  obtain⟨i,r,w⟩:=h.g1 j d
  exact⟨i,by omega,by rw[s,if_neg (by omega)]; exact w⟩
 ·have d:j<m.gn+1:=d
  show ∃ q,q<L.gn+1/\Fx.bT L.g (Fx.down (fun i=>E8 v (L.g i)) L.gn) (wV v) q=(su m v).g j
  rw[s]
  by_cases c:j=m.gn
  ·rw[if_pos c]; exact⟨_,by omega,bK⟩
  rw[if_neg c]
  obtain⟨q,f,e⟩:=h.g2 j (by omega)
  obtain⟨O,H,_,a⟩:=rR (k:=Fx.down (fun i=>E8 v (L.g i)) L.gn) f
  exact⟨O,H,by rw[a]; exact e⟩
 ·have r:i<m.gn+1:=r
  rw[s]
  by_cases c:i=m.gn
  ·rw[if_pos c]; exact M
  rw[if_neg c]; exact K _ _ (h.ga i (by omega))
 have z:p<L.gn+1:=z
 have f:q<L.gn+1:=f
 have C : ∀ j,j<L.gn -> ¬ (L.g j 0=v.o/\L.g j 1=v.req):=fun j d e=>by
  obtain⟨i,r,w⟩:=h.g1 j d
  rw[<- w]at e
  exact y i r e
 have b:Fx.bT L.g (Fx.down (fun i=>E8 v (L.g i)) L.gn) (wV v) p 0=Fx.bT L.g (Fx.down (fun i=>E8 v (L.g i)) L.gn) (wV v) q 0:=b
 have a:Fx.bT L.g (Fx.down (fun i=>E8 v (L.g i)) L.gn) (wV v) p 1=Fx.bT L.g (Fx.down (fun i=>E8 v (L.g i)) L.gn) (wV v) q 1:=a
 generalize Fx.down (fun i=>E8 v (L.g i)) L.gn=k at b a u
 rcases bX u z with c|⟨j,d,f1,f2,f3⟩
 ·rcases bX u f with l|⟨j',hj',f1',f2',f3'⟩
  ·omega
  rw[c,bK,f1']at b a; exact absurd ⟨b.symm,a.symm⟩ (C j' hj')
 rcases bX u f with l|⟨j',hj',f1',f2',f3'⟩
 ·rw[l,bK,f1]at b a; exact absurd ⟨b,a⟩ (C j d)
 rw[f1,f1']at b a
 have:=h.li j j' d hj' b a
 omega
attribute [local irreducible] fQ dK bV in
theorem eB.qz(h:eB m L)(l:m.T.ok)(k:Inv0 L N)(f:cZ v=true):jL m v=nW L v:=by
 unfold jL nW
 by_cases c:kr m v.o v.req=true
 ·rw[if_pos c,if_pos ((h.asked f _).1 c)]
 rw[if_neg c,if_neg (fun e=>c ((h.asked f _).2 e))]
 obtain⟨d,j⟩:=h.grant v.o v.of
 by_cases b:0<=L.grant v.o v.of
 ·obtain⟨p,r,i,s,t⟩:=j b
  have n:=d.2 b
  have e:(DX m v.o v.of=false\/m.g (mX m v.o v.of) 4≠0)<->(L.grant v.o v.of<0\/L.g (vQ L v) 4≠0):=by
   rw[i,n]
   show _<->_\/L.g (L.grant v.o v.of).toNat 4≠0
   constructor
   ·rintro (h|h)
    ·cases h
    ·exact .inr h
   ·rintro (h|h)
    ·omega
    ·exact .inr h
  by_cases a:L.grant v.o v.of<0\/L.g (vQ L v) 4≠0
  ·rw[if_pos a,if_pos (e.2 a)]
  rw[if_neg a,if_neg (fun q=>a (e.1 q)),i]
  exact(h.along l k _ _).1
 rw[if_pos (.inl (by
  cases e:DX m v.o v.of with
  | false=>rfl
  | true=>exact absurd (d.1 e) b)),if_pos (.inl (by omega))]
attribute [local irreducible] fQ dK bV in
theorem eB.free(h:eB m L)(G:m.T.ok)(F:Inv0 L N)(I:cZ v=true)(k:nW L v=0):eB (ql m v) (eY L v):=by
 unfold nW at k
 split at k
 ·cases k
 split at k
 ·cases k
 rename_i c2
 have E:0<=L.grant v.o v.of:=by rcases Sw (L.grant v.o v.of)with h1|h1; exact absurd (.inl h1) c2; exact h1
 obtain⟨C,D,t,O,P⟩:=(h.grant v.o v.of).2 E
 have H:=(h.along G F (fun x=>bP x v.o (L.g (vQ L v) 3)) (L.g (vQ L v) 2)).2 k
 obtain⟨J,K,M⟩:=h.JU I (ql m v) (eY L v) rfl rfl rfl rfl rfl
 have A:vQ L v=(L.grant v.o v.of).toNat:=rfl
 have w : ∀ j,(ql m v).g j=if j=mX m v.o v.of then upd (m.g (mX m v.o v.of)) 4 v.req else m.g j:=fun j=>rfl
 have u : ∀ q,(eY L v).g q=if q=vQ L v then bB (L.g (vQ L v)) 4 v.req else L.g q:=fun q=>rfl
 have B:upd (m.g (mX m v.o v.of)) 4 v.req=bB (L.g (vQ L v)) 4 v.req:=by rw[t]; rfl
 have f : ∀ j p,(p=0\/p=1)->(ql m v).g j p=m.g j p:=fun j p s=>by
  rw[w]
  by_cases c:j=mX m v.o v.of
  ·subst c; rw[if_pos rfl]; rcases s with rfl|rfl <;> rfl
  ·rw[if_neg c]
 have z : ∀ j p,(p=0\/p=1)->(eY L v).g j p=L.g j p:=fun j p s=>by
  rw[u]
  by_cases c:j=vQ L v
  ·subst c; rw[if_pos rfl]; rcases s with rfl|rfl <;> rfl
  ·rw[if_neg c]
 refine {
  T:=⟨h.T.has,h.T.n,h.T.par⟩
  inn:=h.inn
  left:=h.left
  known:=h.known
  row:=fun i r => ?_
  own:=h.own
  gi:=fun i j r a l d=>h.gi i j r a (by rw[f i 0 (.inl rfl),f j 0 (.inl rfl)]at l; exact l) (by rw[f i 1 (.inr rfl),f j 1 (.inr rfl)]at d; exact d)
  gn:=h.gn
  g1:=fun q b => ?_
  g2:=fun j a => ?_
  ask:=J
  ga:=fun i r=>by rw[f i 0 (.inl rfl),f i 1 (.inr rfl)]; exact K _ _ (h.ga i r)
  li:=fun p q s b l d=>h.li p q s b (by rw[z p 0 (.inl rfl),z q 0 (.inl rfl)]at l; exact l) (by rw[z p 1 (.inr rfl),z q 1 (.inr rfl)]at d; exact d) }
 ·have:=H i r
  show(mU m (fun x=>bP x v.o (m.g (mX m v.o v.of) 3)) (m.T.path (m.g (mX m v.o v.of) 2))).R (m.idx (L.id i))=_
  rw[t]; exact this
 ·have b:q<L.gn:=b
  rw[u]
  by_cases c:q=vQ L v
  ·rw[if_pos c]; exact⟨mX m v.o v.of,D,by rw[w,if_pos rfl,B]⟩
  rw[if_neg c]
  obtain⟨j,a,y⟩:=h.g1 q b
  refine⟨j,a,?_⟩
  rw[w,if_neg]
  ·exact y
  intro e
  rw[e,t]at y
  exact c (h.li q _ b C (congrFun y.symm 0) (congrFun y.symm 1))
 have a:j<m.gn:=a
 rw[w]
 by_cases c:j=mX m v.o v.of
 ·rw[if_pos c]; exact⟨vQ L v,C,by rw[u,if_pos rfl,B]⟩
 rw[if_neg c]
 obtain⟨q,b,e⟩:=h.g2 j a
 refine⟨q,b,?_⟩
 rw[u,if_neg]
 ·exact e
 intro d
 rw[d]at e
 exact c (h.gi j _ a D (by rw[t,<- e,A]) (by rw[t,<- e,A]))
theorem eB.move(h:eB m L)(i:m.T.ok)(a:Inv0 L N)(k:cZ v=true)(j:v.kind=5):kM m v=wX L v/\(wX L v=0->eB (Fw m v) (Du L v)):=by
 obtain⟨b,l,n⟩:=Ju k j
 unfold kM wX
 by_cases c:L.node v.node<0
 ·rw[if_pos c,if_pos ((h.FT a _).2 c)]
  exact⟨rfl,fun h=>by cases h⟩
 have f:0<=L.node v.node:=by omega
 rw[if_neg c,if_neg (fun e=>c ((h.FT a _).1 e)),h.inn]
 have g:qh m v=E9 L v:=by unfold qh E9; rw[<- h.rk a f]; rfl
 have e:(v.dst<1\/6<v.dst\/L.inn (v.dst-1).toNat=false)<->L.inn (v.dst-1).toNat=false:=⟨fun h=>by rcases h with h|h|h; omega; omega; exact h,fun h => .inr (.inr h)⟩
 by_cases d:L.inn (v.dst-1).toNat=false
 ·rw[if_pos d,if_pos (e.2 d)]
  exact⟨rfl,fun h=>by cases h⟩
 rw[if_neg d,if_neg (fun q=>d (e.1 q)),g]
 refine⟨rfl,fun _ => ?_⟩
 have:=h.yM i a ((h.node a _).2 f) (E9 L v).1
 unfold Fw Du
 rw[g]; exact this
theorem eB.raise(h:eB m L)(f:m.T.ok)(a:Inv0 L N):kg m v=Ac L v/\(Ac L v=0->eB (uL m v) (Dt L v)):=by
 unfold kg Ac
 by_cases c:L.node v.node<0
 ·rw[if_pos c,if_pos ((h.FT a _).2 c)]
  exact⟨rfl,fun h=>by cases h⟩
 have b:0<=L.node v.node:=by omega
 have d:m.R (m.idx v.node)=L.R (L.node v.node).toNat:=h.rk a b
 rw[if_neg c,if_neg (fun e=>c ((h.FT a _).1 e)),d]
 refine⟨rfl,fun _ => ?_⟩
 unfold uL Dt
 rw[d]
 exact h.yM f a ((h.node a _).2 b) _
theorem eB.does(h:eB m L)(d:m.T.ok)(c:Inv0 L N)(f:cZ v=true):fF m v=mQ L v/\(mQ L v=0->eB (iy m v) (jQ L v)):=by
 have l:=nN f
 unfold fF mQ iy jQ
 by_cases a:v.kind=1
 ·rw[if_pos a,if_pos a,if_pos a,if_pos a]; exact⟨h.Y1 d c f a,fun e=>h.make d c f a e⟩
 rw[if_neg a,if_neg a,if_neg a,if_neg a]
 by_cases g:v.kind=2
 ·rw[if_pos g,if_pos g,if_pos g,if_pos g]; exact h.raise d c
 rw[if_neg g,if_neg g,if_neg g,if_neg g]
 by_cases i:v.kind=3
 ·rw[if_pos i,if_pos i,if_pos i,if_pos i]; exact⟨h.rz d c f,fun e=>h.take d c f e⟩
 rw[if_neg i,if_neg i,if_neg i,if_neg i]
 by_cases j:v.kind=4
 ·rw[if_pos j,if_pos j,if_pos j,if_pos j]; exact⟨h.qz d c f,fun e=>h.free d c f e⟩
 rw[if_neg j,if_neg j,if_neg j,if_neg j]
 by_cases b:v.kind=5
 ·rw[if_pos b,if_pos b,if_pos b,if_pos b]; exact h.move d c f b
 rw[if_neg b,if_neg b,if_neg b,if_neg b]
 by_cases k:v.kind=6
 ·rw[if_pos k,if_pos k,if_pos k]
  exact⟨rfl,fun _ => { h with T:=⟨h.T.has,h.T.n,h.T.par⟩,inn:=by show bB m.inn _ true=bB L.inn _ true; rw[h.inn] }⟩
 rw[if_neg k,if_neg k,if_neg k]
 exact⟨rfl,fun _ => { h with T:=⟨h.T.has,h.T.n,h.T.par⟩,left:=by show bB m.left _ true=bB L.left _ true; rw[h.left] }⟩
theorem eB.apply(h:eB m L)(f:m.T.ok)(d:Inv0 L N)(v:EvM):bI m v=dA L v/\eB (iF m v) (dO L v):=by
 have e:bI m v=dA L v:=by
  unfold bI dA
  rw[h.known,h.inn,h.left]
  cases b:cZ v with
  | false=>rfl
  | true =>
    rw[(h.does f d b).1]
 refine⟨e,?_⟩
 unfold iF dO
 rw[e]
 by_cases c:dA L v=0
 ·rw[if_pos c,if_pos c]
  have b:=(UM (kZ c)).1
  have g:mQ L v=0:=by
   unfold dA at c
   rw[if_neg (by rw[b]; decide)]at c
   split at c; · cases c
   split at c; · cases c
   split at c; · cases c
   exact c
  have a:=(h.does f d b).2 g
  exact { a with T:=⟨a.T.has,a.T.n,a.T.par⟩,known:=by show bB (iy m v).known _ _=bB (jQ L v).known _ _; rw[a.known] }
 rw[if_neg c,if_neg c]; exact h
theorem eB.sound(h:eB m L)(k:m.T.ok)(c:Inv0 L N):YR m := {
 own:=fun a l=>by
  have b:=JR (f:=L.id) (o:=(a:Int)+1) L.nn
  have d:=c.nn
  rw[h.own a l]; omega
 row:=fun i g p n=>by
  obtain⟨j,hj,e⟩:=(h.T.has _).1 (dB.vX g)
  have b:=h.row j hj
  rw[e]at b
  have d:m.idx (m.T.x i)=i:=jH k.inj g rfl
  unfold yh at b
  rw[d]at b
  rw[b]
  exact vM (c.may j hj) p n
 ga:=h.ga
 kn:=by rw[h.known]; exact c.kn }
end
end Rt
end Go.Proofs.YtcbedgfikejkoaaDoor
namespace Go.Proofs.YtcbedgfikejkoaaDoor
open Go.RowKit Go
set_option linter.unusedVariables false
set_option maxRecDepth 20000
namespace Rt
def oh(x:Nat->Int):Int:=x 0*18446744073709551616+x 1
structure yO(L:dR):Prop where
 up : ∀ i j,i<j->j<L.gn->oh (L.g i)<oh (L.g j)
 wf : ∀ q,q<L.gn->gN (L.g q 1)/\gN (L.g q 4)
 ga : ∀ q,q<L.gn->1<=L.g q 0/\L.g q 0<=6 /\ ∃ j,j<L.rn (L.g q 0-1).toNat/\L.rq (L.g q 0-1).toNat j=L.g q 1
section
variable {L:dR} {N:Nat} {v:EvM}
theorem OV(a:gN v.req){x:Nat->Int}(hx:gN (x 1)):E8 v x=true<->oh (wV v)<oh x:=by
 unfold E8 oh gN at *
 rw[Bool.or_eq_true,Bool.and_eq_true,decide_eq_true_iff,decide_eq_true_iff,decide_eq_true_iff]
 show v.o<x 0\/x 0=v.o/\v.req<x 1<->v.o*18446744073709551616+v.req<x 0*18446744073709551616+x 1
 omega
theorem wB{a:Nat}{r:Int}(d:dR)(f:d.rn=bB L.rn a (L.rn a+1))(g:d.rq=bB L.rq a (bB (L.rq a) (L.rn a) r)):(∀ b y,(∃ j,j<L.rn b/\L.rq b j=y) -> ∃ j,j<d.rn b/\d.rq b j=y) /\ ∃ j,j<d.rn a/\d.rq a j=r:=by
 rw[f,g]
 unfold bB
 refine⟨fun b y ⟨j,h,e⟩ => ?_,L.rn a,by rw[if_pos rfl]; omega,by rw[if_pos rfl,if_pos rfl]⟩
 by_cases c:b=a
 ·subst c
  exact⟨j,by rw[if_pos rfl]; omega,by rw[if_pos rfl,if_neg (by omega)]; exact e⟩
 exact⟨j,by rw[if_neg c]; exact h,by rw[if_neg c]; exact e⟩
attribute [local irreducible] fQ dK in
theorem Ik(h:yO L)(J:cZ v=true)(M:jR v)(t:mP L v=0):yO (iE L v):=by
 have z:=mR J
 have m:gN v.req:=M.req
 unfold mP at t
 split at t
 ·cases t
 rename_i c1
 obtain⟨w,x⟩:=wB (L:=L) (a:=bD v) (r:=v.req) (iE L v) rfl rfl
 have K : ∀ j,j<L.gn -> ¬ (L.g j 0=v.o/\L.g j 1=v.req):=fun j f e=>c1 (by
  obtain⟨_,_,q,b,y⟩:=h.ga j f
  rw[e.1,e.2]at y
  rw[e.1]at b
  unfold dR.rE
  rw[oP]
  exact⟨q,b,decide_eq_true y⟩)
 obtain⟨k,u⟩ : ∃ k,k=Fx.down (fun i=>E8 v (L.g i)) L.gn:=⟨_,rfl⟩
 have l:k<=L.gn:=by rw[u]; exact Fx.pI _ _
 have I : ∀ q,k<=q->q<L.gn->oh (wV v)<oh (L.g q):=fun q D d=>(OV m (h.wf q d).1).1 (Fx.CZ (P:=fun i=>E8 v (L.g i)) (n:=L.gn) (i:=q) (by omega) d)
 have H : ∀ q,q<k->oh (L.g q)<oh (wV v):=fun q D=>by
  obtain⟨j,rfl⟩ : ∃ j,k=j+1:=⟨k-1,by omega⟩
  have d:=Fx.C8 (P:=fun i=>E8 v (L.g i)) (n:=L.gn) (j:=j) u.symm
  have E : ¬ oh (wV v)<oh (L.g j):=fun e=>by
   have:=(OV m (h.wf j (by omega)).1).2 e
   rw[this]at d; cases d
  have F:oh (L.g j)<oh (wV v):=by
   rcases Int.lt_trichotomy (oh (L.g j)) (oh (wV v))with c|c|c
   ·exact c
   ·exfalso
    have G:=(h.wf j (by omega)).1
    refine K j (by omega) ?_
    unfold oh at c
    have c:L.g j 0*18446744073709551616+L.g j 1=v.o*18446744073709551616+v.req:=c
    unfold gN at G m
    omega
   ·exact absurd c E
  by_cases e:q=j
  ·rw[e]; exact F
  ·have:=h.up q j (by omega) (by omega); omega
 have p:(iE L v).g=Fx.bT L.g k (wV v):=by rw[u]; rfl
 have s:(iE L v).gn=L.gn+1:=rfl
 refine⟨fun i j N f => ?_,fun q b => ?_,fun q b => ?_⟩
 ·rw[s]at f
  rw[p]
  rcases bX l (show i<L.gn+1 by omega)with rfl|⟨q,b,eq,q1,q2⟩
  ·rcases bX l f with rfl|⟨r,hr,er,w,x⟩
   ·omega
   rw[bK,er]; exact I r (by omega) hr
  rcases bX l f with rfl|⟨r,hr,er,w,x⟩
  ·rw[bK,eq]; exact H q (by omega)
  rw[eq,er]; exact h.up q r (by omega) hr
 ·rw[s]at b
  rw[p]
  rcases bX l b with rfl|⟨r,hr,er,_,_⟩
  ·rw[bK]; exact⟨m,by show gN 0; unfold gN; omega⟩
  rw[er]; exact h.wf r hr
 rw[s]at b
 rw[p]
 rcases bX l b with rfl|⟨r,hr,er,_,_⟩
 ·rw[bK]; exact⟨z.1,z.2.1,x⟩
 rw[er]
 obtain⟨A,B,C⟩:=h.ga r hr
 exact⟨A,B,w _ _ C⟩
attribute [local irreducible] fQ dK in
theorem Il(h:yO L)(w:cZ v=true)(s:jR v)(u:nW L v=0):yO (eY L v):=by
 obtain⟨t,x⟩:=wB (L:=L) (a:=bD v) (r:=v.req) (eY L v) rfl rfl
 have e : ∀ q,(eY L v).g q=if q=vQ L v then bB (L.g (vQ L v)) 4 v.req else L.g q:=fun q=>rfl
 have b : ∀ j p,(p=0\/p=1)->(eY L v).g j p=L.g j p:=fun j p o=>by
  rw[e]
  by_cases c:j=vQ L v
  ·subst c; rw[if_pos rfl]; rcases o with rfl|rfl <;> rfl
  ·rw[if_neg c]
 refine⟨fun i j m n => ?_,fun q d => ?_,fun q d => ?_⟩
 ·unfold oh
  rw[b i 0 (.inl rfl),b i 1 (.inr rfl),b j 0 (.inl rfl),b j 1 (.inr rfl)]
  exact h.up i j m n
 ·rw[b q 1 (.inr rfl)]
  refine⟨(h.wf q d).1,?_⟩
  rw[e]
  by_cases c:q=vQ L v
  ·rw[if_pos c]; exact s.req
  rw[if_neg c]; exact(h.wf q d).2
 rw[b q 0 (.inl rfl),b q 1 (.inr rfl)]
 obtain⟨f,k,l⟩:=h.ga q d
 exact⟨f,k,t _ _ l⟩
theorem Im(h:yO L)(e:jR v):yO (dO L v):=by
 unfold dO
 by_cases c:dA L v=0
 ·rw[if_pos c]
  have b:=(UM (kZ c)).1
  have a:mQ L v=0:=by
   unfold dA at c
   rw[if_neg (by rw[b]; decide)]at c
   split at c; · cases c
   split at c; · cases c
   split at c; · cases c
   exact c
  have d:yO (jQ L v):=by
   unfold mQ at a
   unfold jQ
   by_cases f:v.kind=1
   ·rw[if_pos f]; exact⟨h.up,h.wf,h.ga⟩
   rw[if_neg f]at a ⊢
   by_cases g:v.kind=2
   ·rw[if_pos g]; exact⟨h.up,h.wf,h.ga⟩
   rw[if_neg g]at a ⊢
   by_cases i:v.kind=3
   ·rw[if_pos i]at a ⊢; exact Ik h b e a
   rw[if_neg i]at a ⊢
   by_cases j:v.kind=4
   ·rw[if_pos j]at a ⊢; exact Il h b e a
   rw[if_neg j]at a ⊢
   by_cases k:v.kind=5
   ·rw[if_pos k]; exact⟨h.up,h.wf,h.ga⟩
   rw[if_neg k]
   by_cases l:v.kind=6
   ·rw[if_pos l]; exact⟨h.up,h.wf,h.ga⟩
   ·rw[if_neg l]; exact⟨h.up,h.wf,h.ga⟩
  exact⟨d.up,d.wf,d.ga⟩
 rw[if_neg c]; exact h
theorem OW(k a:Nat):yO (oK k a).core:=⟨fun i j _ h=>absurd h (Nat.not_lt_zero _),fun q h=>absurd h (Nat.not_lt_zero _),fun q h=>absurd h (Nat.not_lt_zero _)⟩
theorem eB.new(k l d e f c b g:Nat):eB (tK k l d e f c b) (oK k g).core where
 T:=⟨fun q=>⟨fun h=>(nomatch h),fun⟨i,h,_⟩=>absurd h (Nat.not_lt_zero _)⟩,rfl,fun i h=>absurd h (Nat.not_lt_zero _)⟩
 inn:=rfl
 left:=rfl
 known:=rfl
 row:=fun i h=>absurd h (Nat.not_lt_zero _)
 own:=fun a _=>rfl
 gi:=fun i j h=>absurd h (Nat.not_lt_zero _)
 gn:=rfl
 g1:=fun q h=>absurd h (Nat.not_lt_zero _)
 g2:=fun q h=>absurd h (Nat.not_lt_zero _)
 ask:=fun a r _=>⟨fun h=>(nomatch h),fun⟨j,h,_⟩=>absurd h (Nat.not_lt_zero _)⟩
 ga:=fun i h=>absurd h (Nat.not_lt_zero _)
 li:=fun i j h=>absurd h (Nat.not_lt_zero _)
structure StC(L:dR)(m:dG)(l:List Int)(gl:List DY):Prop where
 nn:l.length=L.nn
 gn:gl.length=L.gn
 n : ∀ k,k<L.nn->l.getD k 0=L.id k/\m.T.par (l.getD k 0)=L.par k/\yh m (l.getD k 0)=L.R k
 g : ∀ k,k<L.gn->(gl.getD k g0).x=L.g k
theorem StC.of{m:dG}{l:List Int}{c:List DY}(h:eB m L)(F:Inv0 L N)(u:yO L)(B:l.Pairwise (· < ·) /\ ∀ k,k∈l<->m.T.has k=true)(s:YX m c):StC L m l c:=by
 have w:l=(List.range L.nn).map L.id:=sK B.1 (by
  rw[List.pairwise_map]
  exact(List.pairwise_lt_range (n:=L.nn)).imp_of_mem fun {a b} _ hb hab=>F.rise a b hab (List.mem_range.1 hb)) fun k=>by
  rw[B.2,h.T.has,List.mem_map]
  exact⟨fun⟨i,d,e⟩=>⟨i,List.mem_range.2 d,e⟩,fun⟨i,d,e⟩=>⟨i,List.mem_range.1 d,e⟩⟩
 have y:c.map FN=(List.range L.gn).map fun q=>oh (L.g q):=sK (by rw[List.pairwise_map]; exact s.up) (by
  rw[List.pairwise_map]
  exact(List.pairwise_lt_range (n:=L.gn)).imp_of_mem fun {a b} _ hb hab=>u.up a b hab (List.mem_range.1 hb)) fun k=>by
  rw[List.mem_map,List.mem_map]
  constructor
  ·rintro ⟨x,v,e⟩
   obtain⟨i,d,p⟩:=s.mem x v
   obtain⟨q,o,r⟩:=h.g2 i d
   refine⟨q,List.mem_range.2 o,?_⟩
   rw[r,<- p]; exact e
  ·rintro ⟨q,o,e⟩
   obtain⟨j,G,C⟩:=h.g1 q (List.mem_range.1 o)
   obtain⟨x,v,E⟩:=s.all j G
   refine⟨x,v,?_⟩
   rw[<- e,<- C,<- E]; rfl
 have I:c.length=L.gn:=by have:=congrArg List.length y; rwa [List.length_map,List.length_map,List.length_range]at this
 refine⟨by rw[w,List.length_map,List.length_range],I,fun k f => ?_,fun k f => ?_⟩
 ·have:l.getD k 0=L.id k:=by
   rw[w,List.getD_eq_getElem?_getD,List.getElem?_eq_getElem (by rw[List.length_map,List.length_range]; exact f)]
   simp
  rw[this]
  exact⟨rfl,h.T.par k f,h.row k f⟩
 have t:k<c.length:=by omega
 have H:c.getD k g0∈c:=by rw[List.getD_eq_getElem?_getD,List.getElem?_eq_getElem t]; exact List.getElem_mem t
 have D:FN (c.getD k g0)=oh (L.g k):=by
  have A:=congrArg (fun z=>z.getD k 0) y
  simp only[List.getD_eq_getElem?_getD,List.getElem?_map,List.getElem?_eq_getElem t,List.getElem?_range f]at A
  rw[List.getD_eq_getElem?_getD,List.getElem?_eq_getElem t]; exact A
 obtain⟨i,d,p⟩:=s.mem _ H
 obtain⟨q,o,r⟩:=h.g2 i d
 have J:oh (L.g q)=oh (L.g k):=by rw[r,<- p,<- D]; rfl
 have:q=k:=by
  rcases Nat.lt_trichotomy q k with h5|h5|h5
  ·have:=u.up q k h5 f; omega
  ·exact h5
  ·have:=u.up k q h5 o; omega
 rw[p,<- r,this]
end
end Rt
end Go.Proofs.YtcbedgfikejkoaaDoor
namespace Go.Proofs.YtcbedgfikejkoaaDoor
open Go.RowKit Go.WideShapes Go.ChangeShapes Go.Deep
theorem KZ{w:World}{x:Addr}{v:Value}(h:w.cell? x=some v) : ∃ b a,x=⟨b,a,none⟩:=by
 obtain⟨b,a,c⟩:=x
 cases c with
 | none=>exact⟨b,a,rfl⟩
 | some q =>
   unfold World.cell? at h
   simp at h
   split at h <;> cases h
def At4(a k1 k2 c:IntKind)(w:World)(b off:Nat)(x0 x1 x2 d:Int):Prop :=
 w.cell? ⟨b,off,none⟩=some (.int a x0)/\w.cell? ⟨b,off+1,none⟩=some (.int k1 x1)/\w.cell? ⟨b,off+2,none⟩=some (.int k2 x2)/\w.cell? ⟨b,off+3,none⟩=some (.int c d)
def Wf4(a k1 k2 b:IntKind)(x0 x1 x2 c:Int):Prop:=(Lit.int a x0).wf=true/\(Lit.int k1 x1).wf=true/\(Lit.int k2 x2).wf=true/\(Lit.int b c).wf=true
def Y2(g k1 k2 h:IntKind)(w:World)(a:Option Addr)(len:Nat)(c d e f:Nat->Int):Prop :=
 ∀ i,i<len->(∃ b j,a=some ⟨b,j,none⟩/\At4 g k1 k2 h w b (j+i*4) (c i) (d i) (e i) (f i))/\Wf4 g k1 k2 h (c i) (d i) (e i) (f i)
theorem Y2.up{m k1 k2 n:IntKind}{w w':World}{a:Option Addr}{len:Nat}{g j k l:Nat->Int}(h:Y2 m k1 k2 n w a len g j k l)(f:Below w.heap.size w w'):Y2 m k1 k2 n w' a len g j k l:=by
 intro i q
 obtain⟨⟨b,d,e,o,r,s,t⟩,hw⟩:=h i q
 have c:=block_lt_of_cell o
 dsimp only at c
 exact⟨⟨b,d,e,(f.cell (p:=⟨b,d+i*4,none⟩) c).trans o,(f.cell (p:=⟨b,d+i*4+1,none⟩) c).trans r,(f.cell (p:=⟨b,d+i*4+2,none⟩) c).trans s,(f.cell (p:=⟨b,d+i*4+3,none⟩) c).trans t⟩,hw⟩
instance {g k1 k2 i:IntKind} {w w':World} {a:Option Addr} {len:Nat} {c d e f:Nat->Int}:Rt.Tr w w' (Y2 g k1 k2 i w a len c d e f) (Y2 g k1 k2 i w' a len c d e f):=⟨fun b h=>h.up b⟩
end Go.Proofs.YtcbedgfikejkoaaDoor
namespace Go.Proofs.YtcbedgfikejkoaaDoor
open Go.RowKit Go.WideShapes Go.ChangeShapes Go.Deep
def sD(P:Program):Nat->TypeId->Option (List (Option IntKind))
 | 0,_=>none
 | d+1,t=>match P.underlying t with
   | some (.int k)=>some [some k]
   | some .bool=>some [none]
   | some (.array n e)=>(sD P d e).bind fun a=>if P.cellsOf e=a.length/\P.cellsOf t=n*a.length then some (List.replicate n a).flatten else none
   | some (.struct fs)=>(fs.toList.foldlM (fun l f=>(sD P d f.type).bind fun a=>if f.offset=l.length/\P.cellsOf f.type=a.length then some (l++a)else none) []).bind fun l=>if P.cellsOf t=l.length then some l else none
   | _=>none
def K3(k:Option IntKind)(v:Value):Prop:=match k with|some k => ∃ n,v = .int k n/\(Lit.int k n).wf=true|none => ∃ b,v = .bool b
def SK(ks:List (Option IntKind))(cs:List Value):Prop:=cs.length=ks.length /\ ∀(j:Nat) (k:Option IntKind),ks[j]? = some k -> ∃ v,cs[j]? = some v/\K3 k v
theorem xG{ks:List (Option IntKind)}{k:Option IntKind} : ∀(n j:Nat),(List.replicate n ks).flatten[j]? = some k->ks[j % ks.length]? = some k/\j / ks.length<n
 | 0,j,h=>by simp at h
 | n+1,j,h=>by
   rw[List.replicate_succ,List.flatten_cons]at h
   by_cases b:j<ks.length
   ·rw[List.getElem?_append_left b]at h
    rw[Nat.mod_eq_of_lt b,Nat.div_eq_of_lt b]; exact⟨h,by omega⟩
   ·rw[List.getElem?_append_right (by omega)]at h
    have c:0<ks.length:=by
     rcases Nat.eq_zero_or_pos ks.length with e|e
     ·obtain⟨a,_⟩:=xG n _ h
      have:=(List.getElem?_eq_some_iff.1 a).1; omega
     ·exact e
    obtain⟨a,d⟩:=xG n _ h
    rw[Nat.mod_eq_sub_mod (by omega),Nat.div_eq_sub_div c (by omega)]
    exact⟨a,by omega⟩
section
variable {H:Type} {enc:TypeId × Value->H} {P:Program} {w:World} {base:Nat} {spare:Nat->Bool} {held:Bool}
theorem Az{ks:List (Option IntKind)}{cs:List Value}{o s j:Nat}{k:Option IntKind}(h:SK ks ((cs.drop o).take s))(e:s=ks.length)(b:ks[j]? = some k) : ∃ v,cs[o+j]? = some v/\K3 k v:=by
 obtain⟨n,a,c⟩:=h.2 j k b
 have d:=(List.getElem?_eq_some_iff.1 b).1
 rw[List.getElem?_take_of_lt (by omega),List.getElem?_drop]at a
 exact⟨n,a,c⟩
theorem xH : ∀(d:Nat) (t:TypeId) (q:List (Option IntKind)),sD P d t=some q -> ∀(C:Nat) (p:List Value) (x:DataW H × List MemPlace),DataW.trod enc P w base spare held C t p=some x->SK q p
 | 0,_,_,h=>by simp[sD]at h
 | d+1,t,q,h=>by
   intro C p x z
   unfold sD at h
   split at h
   ·rename_i k hu
    simp only[Option.some.injEq]at h; subst h
    obtain⟨n,rfl,_,U⟩:=DataW.trod_int hu z
    refine⟨rfl,fun j W a => ?_⟩
    match j,a with
    | 0,a=>simp at a; subst a; exact⟨_,rfl,n,rfl,U⟩
    | j+1,a=>simp at a
   ·rename_i hu
    simp only[Option.some.injEq]at h; subst h
    obtain⟨b,rfl,_⟩:=DataW.trod_bool hu z
    refine⟨rfl,fun j W a => ?_⟩
    match j,a with
    | 0,a=>simp at a; subst a; exact⟨_,rfl,b,rfl⟩
    | j+1,a=>simp at a
   ·rename_i n e hu
    obtain⟨I,S,h⟩:=Option.bind_eq_some_iff.1 h
    split at h
    ·rename_i hc
     simp only[Option.some.injEq]at h; subst h
     obtain⟨Y,m,_,_,c,F,J⟩:=DataW.trod_array hu z
     refine⟨by rw[c,hc.2]; simp,fun j k a => ?_⟩
     obtain⟨r,A⟩:=xG n j a
     have u:=J (j / I.length) A
     rw[List.getElem?_eq_getElem (by omega),hc.1]at u
     have:=Az (xH d e I S _ _ _ u) rfl r
     rw[Nat.mul_comm,Nat.div_add_mod]at this
     exact this
    ·cases h
   ·rename_i fs hu
    obtain⟨l,c,h⟩:=Option.bind_eq_some_iff.1 h
    split at h
    ·rename_i hc
     simp only[Option.some.injEq]at h; subst h
     obtain⟨Y,m,_,_,T,F,K⟩:=DataW.trod_struct hu z
     refine⟨by rw[T,hc],?_⟩
     have M : ∀ f,f∈fs.toList -> ∃ y,DataW.trod enc P w base spare held m f.type ((p.drop f.offset).take (P.cellsOf f.type))=some y:=by
      intro f N
      obtain⟨i,u,e⟩:=List.mem_iff_getElem.1 N
      have E:i<fs.size:=by simpa using u
      have r:fs[i]? = some f:=by rw[Array.getElem?_eq_getElem E]; simpa using e
      have:=K i f r
      rw[List.getElem?_eq_getElem (by rw[F]; exact E)]at this
      exact⟨_,this⟩
     have X : ∀(L:List Field) (o:List (Option IntKind)),(∀ f,f∈L -> ∃ y,DataW.trod enc P w base spare held m f.type ((p.drop f.offset).take (P.cellsOf f.type))=some y)->(∀(j:Nat) (k:Option IntKind),o[j]? = some k -> ∃ v,p[j]? = some v/\K3 k v) -> ∀ l,L.foldlM (fun l f=>(sD P d f.type).bind fun q=>if f.offset=l.length/\P.cellsOf f.type=q.length then some (l++q)else none) o=some l -> ∀(j:Nat) (k:Option IntKind),l[j]? = some k -> ∃ v,p[j]? = some v/\K3 k v:=by
      intro L
      induction L with
      | nil=>intro o _ B l c; simp at c; subst c; exact B
      | cons f L ih =>
        intro o D B l c
        rw[List.foldlM_cons]at c
        obtain⟨Z,r,A⟩:=Option.bind_eq_some_iff.1 c
        obtain⟨G,R,s⟩:=Option.bind_eq_some_iff.1 r
        split at s
        ·rename_i hcc
         simp only[Option.some.injEq]at s; subst s
         refine ih (o++G) (fun g O=>D g (List.mem_cons_of_mem _ O)) (fun j k a => ?_) l A
         by_cases Q:j<o.length
         ·rw[List.getElem?_append_left Q]at a; exact B j k a
         ·rw[List.getElem?_append_right (by omega)]at a
          obtain⟨y,V⟩:=D f (List.mem_cons_self ..)
          have:=Az (xH d f.type G R _ _ _ V) hcc.2 a
          rw[hcc.1,show o.length+(j-o.length)=j by omega]at this
          exact this
        ·cases s
     exact X fs.toList [] M (fun j k a=>by simp at a) l c
    ·cases h
   ·cases h
end
section
variable {H:Type} {enc:TypeId × Value->H} {P:Program} {w:World} {base:Nat} {spare:Nat->Bool} {held:Bool}
theorem K4{t e:TypeId}{ks:List (Option IntKind)}{fuel D:Nat}{cs:List Value}{x:DataW H × List MemPlace}(S:P.underlying t=some (.slice e))(O:sD P D e=some ks)(F:P.cellsOf e=ks.length)(C:0<ks.length)
 (h:DataW.trod enc P w base spare held fuel t cs=some x) : ∃ a c l,cs = [.slice a c l]/\c<=maxLen/\c<=l /\ ∃ X:Nat->Nat->Value,(∀ i,i<c -> ∀(j:Nat) (k:Option IntKind),ks[j]? = some k->K3 k (X i j))/\Fx.jv w a c ks.length (Fx.flat ks.length X):=by
 rcases open_slice S h with ⟨rfl,_⟩|⟨a',c,l,m,n,D',Pl,rfl,_,hl,hm,hmm,_,hx⟩
 ·exact⟨none,0,0,rfl,by unfold maxLen; omega,Nat.le_refl _,fun _ _=>undef,fun i d=>absurd d (by omega),fun h=>absurd h (by omega)⟩
 have W:c<=m:=by rw[hmm]; split <;> omega
 have r : ∀ i j:Nat,∃ q:Value,i<c -> ∀ k,ks[j]? = some k->w.cell? (a'.add (i*ks.length+j))=some q/\K3 k q:=by
  intro i j
  by_cases d:i<c/\j<ks.length
  ·obtain⟨U,A,J⟩:=hx i (by omega)
   rw[F]at A
   obtain⟨_,V,M⟩:=World.cells?_some A
   obtain⟨q,y,z⟩:=(xH _ _ _ O _ _ _ J).2 j _ (List.getElem?_eq_getElem d.2)
   refine⟨q,fun _ k v => ?_⟩
   rw[List.getElem?_eq_getElem d.2,Option.some.injEq]at v
   subst v
   have E:=M j (by omega)
   rw[add_add]at E
   exact⟨by rw[<- y]; simpa using E,z⟩
  ·refine⟨undef,fun y k z=>absurd ⟨y,(List.getElem?_eq_some_iff.1 z).1⟩ d⟩
 refine⟨some a',c,l,rfl,by omega,hl,fun i j=>Classical.choose (r i j),fun i d j k v=>(Classical.choose_spec (r i j) d k v).2,fun K => ?_⟩
 have G:a'.add (0*ks.length+0)=a':=by unfold Addr.add; simp
 obtain⟨Z,L⟩:=r 0 0
 have Q:=List.getElem?_eq_getElem C
 have B:=(L K _ Q)
 have g:=B.1
 rw[G]at g
 have o : ∃ b f,a'=⟨b,f,none⟩:=by
  have u:=B.2
  unfold K3 at u
  split at u
  ·obtain⟨Y,rfl,_⟩:=u; exact KZ g
  ·obtain⟨T,rfl⟩:=u
   unfold World.cell? at g
   cases a' with
   | mk b f sp =>
     cases sp with
     | none=>exact⟨b,f,rfl⟩
     | some s=>simp at g; split at g <;> simp_all
 obtain⟨b,f,o⟩:=o
 refine⟨b,f,by rw[o],fun p R => ?_⟩
 have N:p % ks.length<ks.length:=Nat.mod_lt _ C
 have d:p / ks.length<c:=Nat.div_lt_of_lt_mul (by rw[Nat.mul_comm]; exact R)
 have:=(Classical.choose_spec (r (p / ks.length) (p % ks.length)) d _ (List.getElem?_eq_getElem N)).1
 have I:a'.add (p / ks.length*ks.length+p % ks.length)=⟨b,f+p,none⟩:=by rw[o,addr_add,Nat.mul_comm,Nat.div_add_mod]
 exact(congrArg w.cell? I).symm.trans this
end
def numOf:Value->Int | .int _ n=>n|_=>0
theorem K3.num{k:IntKind}{v:Value}(h:K3 (some k) v):v = .int k (numOf v)/\(Lit.int k (numOf v)).wf=true:=by
 obtain⟨n,rfl,a⟩:=h; exact⟨rfl,a⟩
theorem SL{n:Int}(h:(Lit.int .u8 n).wf=true):0<=n/\n<=255:=by simp[Lit.wf,IntKind.min,IntKind.max,IntKind.bits,IntKind.signed]at h; omega
theorem Wp{n:Int}(h:(Lit.int .u64 n).wf=true):0<=n/\n<18446744073709551616:=by simp[Lit.wf,IntKind.min,IntKind.max,IntKind.bits,IntKind.signed]at h; omega
theorem Wq{n:Int}(h:(Lit.int .i64 n).wf=true) : -9223372036854775808<=n/\n<=9223372036854775807:=by simp[Lit.wf,IntKind.min,IntKind.max,IntKind.bits,IntKind.signed]at h; omega
section
variable {H:Type} {enc:TypeId × Value->H} {P:Program} {w:World}
theorem uP{t e:TypeId}{ks:List (Option IntKind)}{a:Option Addr}{len cap D:Nat}{d:DataW H}{q:List MemPlace}(p:P.underlying t=some (.slice e))(m:sD P D e=some ks)(c:P.cellsOf e=ks.length)(o:0<ks.length)
 (h:DataW.Trod enc P w 0 (fun _=>true) true t (.slice a len cap) d q):len<=maxLen /\ ∃ X:Nat->Nat->Value,(∀ i,i<len -> ∀(j:Nat) (k:Option IntKind),ks[j]? = some k->K3 k (X i j))/\Fx.jv w a len ks.length (Fx.flat ks.length X):=by
 obtain⟨u,l⟩:=h
 obtain⟨r,v,s,b,n,_,X,g,f⟩:=K4 p m c o l
 simp[Value.cells]at b
 obtain⟨rfl,rfl,rfl⟩:=b
 exact⟨n,X,g,f⟩
theorem jv.ni{w:World}{a:Option Addr}{n s:Nat}{x y:Nat->Value}(h:Fx.jv w a n s x)(e : ∀ p,p<n*s->x p=y p):Fx.jv w a n s y:=fun f=>by
 obtain⟨b,j,d,g⟩:=h f
 exact⟨b,j,d,fun i c=>by rw[<- e i c]; exact g i c⟩
end
end Go.Proofs.YtcbedgfikejkoaaDoor
namespace Go.Proofs.YtcbedgfikejkoaaDoor
open Go.RowKit Rt
open Fx (eU dJ fu bf fq eZ dS dM fA gQ dH gT eP gD gU Lv sN Ln Ws Qv Wl Rp Wc Qs Wr Sb Lk Wk rC rV sR Rs Rn Rd Rk Wb Wx Wo yT Wt pE Aq Qn AX uo xL yB xJ AZ AY gG yR jM nT tC A8 yA yP xQ yQ rv aA aL bC aI ev bT Stp bU aM flat fH Mp dL aV fC gI aX down fM iU iM ji jv bG bA cells_one jO aY nE unseen jk iT cu bW cB bY bZ iB iG qP gV)
set_option maxRecDepth 20000
set_option linter.unusedVariables false
namespace Rt
def yw(L:dR)(c:Option Addr)(d:Nat)(a:Option Addr)(b:Nat):zZ:=⟨L.inn,L.left,L.known,c,L.nn,d,a,L.gn,b⟩
def Pp(L:dR):Nat->Nat->Value:=fun k=>Ni (L.id k) (L.par k) (L.R k)
def Io(L:dR):Nat->Nat->Value:=fun k=>jP (L.g k)
structure Xg(L:dR):Prop where
 n : ∀ k,k<L.nn->gN (L.id k)/\gN (L.par k) /\ ∀ p,p<54->nV (L.R k p)
 g : ∀ k,k<L.gn->nV (L.g k 0)/\gN (L.g k 1)/\gN (L.g k 2)/\nV (L.g k 3)/\gN (L.g k 4)
 k : ∀ i,i<6->gN (L.known i)
 bn:L.nn<=900000
 bg:L.gn<=900000
theorem Wu{n:Int}(h:gN n):(Lit.int .u64 n).wf=true:=Fx.nC h
theorem aed{n:Int}(h:nV n):(Lit.int .i64 n).wf=true:=Fx.Ls h
theorem FU{n:Int}(h:gN n):ku (some .u64) (.int .u64 n)=some (.int .u64 n):=by simp[ku,Wu h]
theorem OX{n:Int}(h:nV n):ku (some .i64) (.int .i64 n)=some (.int .i64 n):=by simp[ku,aed h]
theorem zo(b:Nat->Bool):Fx.Kd (List.replicate 6 none) (fun j => .bool (b j)):=fun i a=>⟨.bool (b i),by rw[List.getElem_replicate]; rfl⟩
theorem SN{id b:Int}{R:Nat->Int}(h:gN id/\gN b /\ ∀ p,p<54->nV (R p)):Fx.Kd (some .u64::some .u64::List.replicate 54 (some .i64)) (Ni id b R):=fun i a=>by
 match i,a with
 | 0,_=>exact⟨_,FU h.1⟩
 | 1,_=>exact⟨_,FU h.2.1⟩
 | i+2,a =>
   have c:i<54:=by simp at a; omega
   have e:(some IntKind.u64::some IntKind.u64::List.replicate 54 (some IntKind.i64))[i+2]=some .i64:=by rw[List.getElem_cons_succ,List.getElem_cons_succ,List.getElem_replicate]
   rw[e,UK _ _ _ (p:=i) rfl]
   exact⟨_,OX (h.2.2 i c)⟩
theorem SQ{x:Nat->Int}(h:nV (x 0)/\gN (x 1)/\gN (x 2)/\nV (x 3)/\gN (x 4)):Fx.Kd [some .i64,some .u64,some .u64,some .i64,some .u64] (jP x):=fun i a=>by
 match i,a with
 | 0,_=>exact⟨_,OX h.1⟩
 | 1,_=>exact⟨_,FU h.2.1⟩
 | 2,_=>exact⟨_,FU h.2.2.1⟩
 | 3,_=>exact⟨_,OX h.2.2.2.1⟩
 | 4,_=>exact⟨_,FU h.2.2.2.2⟩
theorem Xg.of{L:dR}{N:Nat}(a:Inv0 L N)(o:uK L)(m:yO L)(A:N<=900000):Xg L where
 n:=fun k c=>by
  have y:=a.pos k c
  have z:=a.top k c
  have f:=vM (a.may k c)
  refine⟨⟨by omega,by omega⟩,?_,fun p r=>by have:=f p r; exact⟨by omega,by omega⟩⟩
  rcases a.up k c with e|⟨j,b,e⟩
  ·rw[e]; exact⟨by omega,by omega⟩
  ·have h:=a.pos j b
   have l:=a.top j b
   rw[<- e]; exact⟨by omega,by omega⟩
 g:=fun k c=>by
  obtain⟨d,u,v,w,x⟩:=o.gb k c
  obtain⟨s,t⟩:=m.wf k c
  obtain⟨j,b,e⟩:=fG.1 d
  rw[a.wY]at b
  rw[(a.tid j b).1]at e
  have h:=a.pos j b
  have l:=a.top j b
  exact⟨⟨by omega,by omega⟩,s,by rw[<- e]; exact⟨by omega,by omega⟩,⟨by omega,by omega⟩,t⟩
 k:=fun i q=>by have:=a.kn i q; exact⟨by omega,by omega⟩
 bn:=by have:=a.nn; omega
 bg:=by have:=a.gn; omega
end Rt
structure OY(w:World)(s:zZ)(L:dR):Prop where
 e:s=yw L s.na s.nc s.ga s.gc
 n:jv w s.na L.nn 56 (flat 56 (Pp L))
 g:jv w s.ga L.gn 5 (flat 5 (Io L))
theorem OY.up{w w':World}{s:zZ}{L:dR}(h:OY w s L)(a:Below w.heap.size w w'):OY w' s L:=⟨h.e,h.n.up a rfl,h.g.up a rfl⟩
instance {w w':World} {s:zZ} {L:dR}:Rt.Tr w w' (OY w s L) (OY w' s L):=⟨fun b h=>h.up b⟩
theorem OY.of{w:World}{B:Nat}{m:dG}{s:zZ}{l:List Int}{p:List DY}{L:dR}{N:Nat}(h:StQ w B m s l p)(d:eB m L)(r:Inv0 L N)(q:yO L):OY w s L:=by
 have e:=StC.of d r q h.ls h.gs
 have f:s.nn=L.nn:=by rw[h.nn,e.nn]
 have i:s.gn=L.gn:=by rw[h.gn,e.gn]
 refine⟨?_,?_,?_⟩
 ·cases s
  unfold yw
  have a:=h.inn
  have b:=h.left
  have c:=h.known
  simp only at a b c f i ⊢
  rw[a,b,c,d.inn,d.left,d.known,f,i]
 ·have:=h.n.arr
  rw[f]at this
  refine jv.ni this<|bG fun k o j _ => ?_
  obtain⟨a,b,c⟩:=e.n k o
  unfold OL Pp
  rw[b,c,a]
 have:=h.g.arr
 rw[i]at this
 refine jv.ni this<|bG fun k o j _ => ?_
 unfold Po Io
 rw[e.g k o]
theorem Wv(L:dR)(t A m x:Option Addr)(u B o y:Nat)(w:World)(l:Xg L)(hN1:jv w t L.nn 56 (flat 56 (Pp L)))(hN2:jv w A L.nn 56 (flat 56 (Pp L)))(hG1:jv w m L.gn 5 (flat 5 (Io L)))(hG2:jv w x L.gn 5 (flat 5 (Io L))) :
 Calls Tryd.prog 10 #[.agg (aA 20 (lZ (yw L t u m o))),.agg (aA 20 (lZ (yw L A B x y)))] w fun e w'=>e = .returned (.bool true)/\Below w.heap.size w w':=by
 have hbn:=l.bn
 have hbg:=l.bg
 refine Kent Tryd.func10 80 ?_
 refine ay<|sG fun c w1 nk S s1 z1 => ?_
 have V:=aR s1.old (Below.refl w.heap.size w)
 have wF:=gY nk
 have wQ:=S.lt
 refine sG fun d w2 ae s s2 z2 => ?_
 have⟨z,b2⟩:=iA s2.old S V
 have yH:=gM ae V.size
 have Y3:=bR ae S.lt
 have Ba:=s.lt
 refine av aF<|aD<|Ws<|ay<|av ((pt c))<|Lv (.agg (aA 6 (fun j => .bool (L.inn j)))) (gW z.aJ 0 (fun j h=>by rw[Nat.zero_add]; exact Nh _ h))<|av ((pt d))<|Lv (.agg (aA 6 (fun j => .bool (L.inn j)))) (gW s.aJ 0 (fun j h=>by rw[Nat.zero_add]; exact Nh _ h))<|Lv aF (Fx.qQ (n:=6) (ks:=List.replicate 6 none) (X:=fun j => .bool (L.inn j)) (Y:=fun j => .bool (L.inn j)) 12 true rfl rfl rfl (Fx.zA (fun _ _=>rfl)) (zo _) (zo _) rfl (by kernel_rfl) (by kernel_rfl) (by kernel_rfl) (by kernel_rfl) (by kernel_rfl))<|av aF<|av ((pf c 6))<|Lv (.agg (aA 6 (fun j => .bool (L.left j)))) (gW z.aJ 6 (fun j h=>EZ (p:=j) _ h (by omega)))<|av ((pf d 6))<|Lv (.agg (aA 6 (fun j => .bool (L.left j)))) (gW s.aJ 6 (fun j h=>EZ (p:=j) _ h (by omega)))<|Lv aF (Fx.qQ (n:=6) (ks:=List.replicate 6 none) (X:=fun j => .bool (L.left j)) (Y:=fun j => .bool (L.left j)) 12 true rfl rfl rfl (Fx.zA (fun _ _=>rfl)) (zo _) (zo _) rfl (by kernel_rfl) (by kernel_rfl) (by kernel_rfl) (by kernel_rfl) (by kernel_rfl))<|av aF<|av aF<|av ((pf c 12))<|Lv (.agg (aA 6 (rv .u64 L.known))) (gW z.aJ 12 (fun j h=>Ch (p:=j) _ h (by omega)))<|av ((pf d 12))<|Lv (.agg (aA 6 (rv .u64 L.known))) (gW s.aJ 12 (fun j h=>Ch (p:=j) _ h (by omega)))<|Lv aF (Fx.qQ (n:=6) (ks:=List.replicate 6 (some .u64)) (X:=rv .u64 L.known) (Y:=rv .u64 L.known) 12 true rfl rfl rfl (Fx.zA (fun _ _=>rfl)) (Fx.Em fun i Q=>Wu (l.k i Q)) (Fx.Em fun i Q=>Wu (l.k i Q)) rfl (by kernel_rfl) (by kernel_rfl) (by kernel_rfl) (by kernel_rfl) (by kernel_rfl))<|av aF<|av aF<|av ((pf c 18))<|Lv (.slice t (L.nn) (u)) (aP z.aJ 18)<|av (au L.nn)<|av ((pf d 18)) ?_
 refine Lv (.slice A (L.nn) (B)) (aP s.aJ 18)<|av (au L.nn)<|Lv aF (kW rfl)<|av aF<|av aF<|av ((pf c 19))<|Lv (.slice m (L.gn) (o)) (aP z.aJ 19)<|av (au L.gn)<|av ((pf d 19))<|Lv (.slice x (L.gn) (y)) (aP s.aJ 19)<|av (au L.gn)<|Lv aF (kW rfl)<|av aF<|aD<|aK<|Wk<|sN<|Ws<|ay<|av (au 0)<|aD<|Wb<|Wo (fun f v => ∃ k:Nat,k<=L.nn/\f 2=(pt c)/\f 3=(pt d)/\f 5=au ((k:Int))/\aL v c 20 (lZ (yw L t u m o)) 43/\aL v d 20 (lZ (yw L A B x y)) 43/\Below w.heap.size w v) (fun f _=>(L.nn-(intOf (f 5)).toNat)) ⟨0,by omega,(by rfl),(by rfl),Fx.ic,z,s,b2⟩ ?_
 rintro f1 C ⟨k,hk,J,O,E,K,U,H⟩
 refine Ws<|ay<|aS E<|Lv ((pf c 18)) (xO J 18)<|Lv (.slice t (L.nn) (u)) (aP K.aJ 18)<|av (au L.nn) ?_
 by_cases ac:(k:Int)<(L.nn:Int)
 ·refine Lv aG (jU ac)<|aD<|aQ<|Wk<|sN<|Ws<|Wb<|Ws ?_
  -- region 6 draws
  refine TL<|Qv ((pf c 18)) (fun b a=>xO J 18)<|Qv (.slice t (L.nn) (u)) (fun b a=>aP (K.aJ.dr a) 18)<|dY E ?_
  obtain⟨W,Y4,eq1,m6⟩:=(hN1.up H rfl) (by omega)
  have Y5:W<C.heap.size:=m6.lt (by omega)
  refine Qv ((pf W (56*k+Y4))) (fun b a=>dw 56 (hx:=(rfl.trans (congrArg (fun q=>Value.slice q (L.nn) (u)) eq1))))<|Qv (.agg (aA 56 (Pp L k))) (fun b a=>gW (m6.dr a) (56*k) (fun R r=>Fx.jG (k:=k) (by omega) r))<|Qv ((pf d 18)) (fun b a=>xO O 18)<|Qv (.slice A (L.nn) (B)) (fun b a=>aP (U.aJ.dr a) 18)<|dY E ?_
  obtain⟨Z,oq2,eq2,m7⟩:=(hN2.up H rfl) (by omega)
  have aeg:Z<C.heap.size:=m7.lt (by omega)
  refine Qv ((pf Z (56*k+oq2))) (fun b a=>dw 56 (hx:=(rfl.trans (congrArg (fun q=>Value.slice q (L.nn) (B)) eq2))))<|Qv (.agg (aA 56 (Pp L k))) (fun b a=>gW (m7.dr a) (56*k) (fun R r=>Fx.jG (k:=k) (by omega) r))<|Qv aF (fun b a=>Fx.qQ (n:=56) (ks:=((some .u64)::(some .u64)::List.replicate 54 (some .i64))) (X:=Pp L k) (Y:=Pp L k) 12 true rfl rfl rfl (Fx.zA (fun _ _=>rfl)) (SN (l.n k (by omega))) (SN (l.n k (by omega))) rfl (by kernel_rfl) (by kernel_rfl) (by kernel_rfl) (by kernel_rfl) (by kernel_rfl))<|Qn ?_
  rintro _ ⟨G,rfl⟩
  obtain⟨wq1,M⟩ : ∃ b,b=World.drewN C G:=⟨_,rfl⟩
  rw[<- M]
  have s3:Stp C.heap.size C wq1:=by rw[M]; exact Sb (Ej C G)
  have⟨m8,m9,b4⟩:=jI s3.old K U H
  clear M
  refine sN<|aK<|Wk<|cB<|sN<|Wl<|aS E<|Lv (au ((k:Int)+1)) fZ<|av (au ((k:Int)+1))<|Ln<|iG ⟨k+1,by omega,J,O,Fx.ic,m8,m9,b4⟩ ?_
  show(L.nn-(intOf ((au ((k:Int)+1)))).toNat)<_
  simp only[E,intOf]; omega
 refine Lv aF (jV ac)<|aD<|aK<|Wx<|bY<|iB<|bZ<|sN<|Ws<|ay<|av (au 0)<|aD<|Wb<|Wo (fun f v => ∃ k:Nat,k<=L.gn/\f 2=(pt c)/\f 3=(pt d)/\f 6=au ((k:Int))/\aL v c 20 (lZ (yw L t u m o)) 43/\aL v d 20 (lZ (yw L A B x y)) 43/\Below w.heap.size w v) (fun f _=>(L.gn-(intOf (f 6)).toNat)) ⟨0,by omega,J,O,Fx.ic,K,U,H⟩ ?_
 rintro f2 D ⟨k,hk,P,h5,F,T,m13,I⟩
 refine Ws<|ay<|aS F<|Lv ((pf c 19)) (xO P 19)<|Lv (.slice m (L.gn) (o)) (aP T.aJ 19)<|av (au L.gn) ?_
 by_cases ad:(k:Int)<(L.gn:Int)
 ·refine Lv aG (jU ad)<|aD<|aQ<|Wk<|sN<|Ws<|Wb<|Ws ?_
  -- region 11 draws
  refine TL<|Qv ((pf c 19)) (fun b a=>xO P 19)<|Qv (.slice m (L.gn) (o)) (fun b a=>aP (T.aJ.dr a) 19)<|dY F ?_
  obtain⟨aa,oq3,eq3,m14⟩:=(hG1.up I rfl) (by omega)
  have aek:aa<D.heap.size:=m14.lt (by omega)
  refine Qv ((pf aa (5*k+oq3))) (fun b a=>dw 5 (hx:=(rfl.trans (congrArg (fun q=>Value.slice q (L.gn) (o)) eq3))))<|Qv (.agg (aA 5 (Io L k))) (fun b a=>gW (m14.dr a) (5*k) (fun R r=>Fx.jG (k:=k) (by omega) r))<|Qv ((pf d 19)) (fun b a=>xO h5 19)<|Qv (.slice x (L.gn) (y)) (fun b a=>aP (m13.aJ.dr a) 19)<|dY F ?_
  obtain⟨ab,oq4,Y6,m15⟩:=(hG2.up I rfl) (by omega)
  have ajU:ab<D.heap.size:=m15.lt (by omega)
  refine Qv ((pf ab (5*k+oq4))) (fun b a=>dw 5 (hx:=(rfl.trans (congrArg (fun q=>Value.slice q (L.gn) (y)) Y6))))<|Qv (.agg (aA 5 (Io L k))) (fun b a=>gW (m15.dr a) (5*k) (fun R r=>Fx.jG (k:=k) (by omega) r))<|Qv aF (fun b a=>Fx.qQ (n:=5) (ks := [(some .i64),(some .u64),(some .u64),(some .i64),(some .u64)]) (X:=Io L k) (Y:=Io L k) 12 true rfl rfl rfl (Fx.zA (fun _ _=>rfl)) (SQ (l.g k (by omega))) (SQ (l.g k (by omega))) rfl (by kernel_rfl) (by kernel_rfl) (by kernel_rfl) (by kernel_rfl) (by kernel_rfl))<|Qn ?_
  rintro _ ⟨G,rfl⟩
  obtain⟨wq2,N⟩ : ∃ b,b=World.drewN D G:=⟨_,rfl⟩
  rw[<- N]
  have s4:Stp D.heap.size D wq2:=by rw[N]; exact Sb (Ej D G)
  have⟨m16,m17,b6⟩:=jI s4.old T m13 I
  clear N
  refine sN<|aK<|Wk<|cB<|sN<|Wl<|aS F<|Lv (au ((k:Int)+1)) fZ<|av (au ((k:Int)+1))<|Ln<|iG ⟨k+1,by omega,P,h5,Fx.ic,m16,m17,b6⟩ ?_
  show(L.gn-(intOf ((au ((k:Int)+1)))).toNat)<_
  simp only[F,intOf]; omega
 refine Lv aF (jV ad)<|aD<|aK<|Wx<|bY<|iB<|bZ<|sN<|ay<|av aG<|aD<|Wr<|aN aG ?_
 exact⟨rfl,I⟩
theorem JV{w:World}{b c:zZ}{L:dR}(h1:OY w b L)(a:OY w c L)(d:Xg L):Calls Tryd.prog 10 #[.agg (aA 20 (lZ b)),.agg (aA 20 (lZ c))] w fun e w'=>e = .returned (.bool true)/\Below w.heap.size w w':=by
 rw[h1.e,a.e]
 exact Wv L _ _ _ _ _ _ _ _ w d h1.n a.n h1.g a.g
namespace Rt
structure WM where
 n:Nat
 la:Option Addr
 lc:Nat
 pl:Nat->Nat
 ml:Nat->Bu
 an:Nat
 aa:Option Addr
 ac:Nat
 ev:Nat->EvM
end Rt
theorem Rt.AA(k a:Nat):Inv (oK k a).core 0 where
 wY:=rfl
 nn:=Nat.zero_le _
 tid:=fun _ h=>absurd h (Nat.not_lt_zero _)
 rise:=fun _ _ _ h=>absurd h (Nat.not_lt_zero _)
 pos:=fun _ h=>absurd h (Nat.not_lt_zero _)
 top:=fun _ h=>absurd h (Nat.not_lt_zero _)
 up:=fun _ h=>absurd h (Nat.not_lt_zero _)
 dep:=fun _=>⟨0,Nat.zero_le _,by show(-1:Int)<0; decide⟩
 gn:=Nat.le_refl _
 rn:=fun _ _=>Nat.le_refl _
 may:=fun _ h=>absurd h (Nat.not_lt_zero _)
 g47:=fun _ h=>absurd h (Nat.not_lt_zero _)
 kn:=fun _ _=>⟨Int.le_refl _,by show(0:Int)<_; decide⟩
 s:=⟨fun _ h=>absurd h (Nat.not_lt_zero _),fun _ h=>absurd h (Nat.not_lt_zero _)⟩
 b:=⟨fun _ _=>Int.le_refl _,fun _ h=>absurd h (Nat.not_lt_zero _),fun _ _ _ h=>absurd h (Nat.not_lt_zero _)⟩
-- jd.Y7 is not in this seat
end Go.Proofs.YtcbedgfikejkoaaDoor
namespace Go.Proofs.YtcbedgfikejkoaaDoor
open Go.RowKit Go Rt
set_option linter.unusedVariables false
set_option maxRecDepth 20000
namespace Rt
section
variable {L:dR} {N:Nat} {v:EvM}
theorem Iq(b:Inv0 L N)(h:uK L):uK (dO L v):=by
 unfold dO
 by_cases c:dA L v=0
 ·rw[if_pos c]
  have a:=(UM (kZ c)).1
  have d:mQ L v=0:=by
   unfold dA at c
   rw[if_neg (by rw[a]; decide)]at c
   split at c; · cases c
   split at c; · cases c
   split at c; · cases c
   exact c
  have:=KJ b h a d
  exact⟨this.us,this.gb⟩
 rw[if_neg c]; exact h
def AB(L:dR)(x i:Int):Int:=if L.node x<0 then 0 else dU (L.R (L.node x).toNat) i
theorem Ir(i:Int):dU JK i=0:=by
 unfold dU
 by_cases c:(iJ i&&may JK)=true
 ·rw[if_pos c]
  rw[Bool.and_eq_true]at c
  obtain⟨a,d,e,b⟩:=vO c.1
  have:=sS (vM c.2) a d
  rw[b,this]; rfl
 rw[if_neg c]
theorem eB.local{m:dG}(h:eB m L)(a:Inv0 L N)(x i:Int):dU (kU m x) i=AB L x i:=by
 unfold kU AB
 by_cases c:L.node x<0
 ·rw[if_neg (by rw[(h.FT a x).2 c]; decide),if_pos c]; exact Ir i
 rw[if_pos ((h.node a x).2 (by omega)),if_neg c,h.rk a (by omega)]
structure CJ(m m':dG):Prop where
 et:m'.tp=m.tp
 em:m'.mb=m.mb
 ep:m'.pb=m.pb
 er:m'.rb=m.rb
 eg:m'.gb=m.gb
 ea:m'.ab=m.ab
theorem CJ.refl(m:dG):CJ m m:=⟨rfl,rfl,rfl,rfl,rfl,rfl⟩
theorem CJ.trans{a b c:dG}(h:CJ a b)(k:CJ b c):CJ a c:=⟨k.et.trans h.et,k.em.trans h.em,k.ep.trans h.ep,k.er.trans h.er,k.eg.trans h.eg,k.ea.trans h.ea⟩
end
end Rt
structure qB(w:World)(B lp:Nat)(m:dG)(L:dR)(N:Nat):Prop where
 q:je w B lp m
 s:eB m L
 i:Inv0 L N
 u:uK L
 g:yO L
section
variable {w w':World} {B lp:Nat} {m:dG} {L:dR} {N:Nat} {v:EvM}
theorem qB.up(h:qB w B lp m L N)(a:Below w.heap.size w w'):qB w' B lp m L N := { h with q:=h.q.up a }
instance:Rt.Tr w w' (qB w B lp m L N) (qB w' B lp m L N):=⟨fun b h=>h.up b⟩
theorem qB.om{a:List TypeId}(h:qB w B lp m L N)(b:Fx.jO a w w')(c:(a.contains 59 || a.contains 82)=false):qB w' B lp m L N := { h with q:=h.q.om b c }
instance {a:List TypeId}:Rt.Tc a w w' (qB w B lp m L N) (qB w' B lp m L N) (!(a.contains 59 || a.contains 82)):=⟨fun b h e=>h.om b (by simpa using e)⟩
theorem qB.weak{a:Nat}(h:qB w B lp m L N)(b:a<=B):qB w a lp m L N := { h with q:=h.q.weak b }
theorem qB.mono{a:Nat}(h:qB w B lp m L N)(b:N<=a):qB w B lp m L a := { h with i:=h.i.mono b }
theorem qB.wf(h:qB w B lp m L N)(a:N<=900000):Xg L:=Xg.of h.i h.u h.g a
theorem je.qm(h:je w B lp m)(a:Fx.iU (He m lp w.heap.size) w w')(c:B<=w.heap.size):Below B w w':=⟨a.os,a.tape,a.output,a.size,fun k d=>a.block k (by omega) fun b=>by
 rcases b with b|b
 ·have:=(h.ltS b).1; omega
 ·omega⟩
theorem je.typed(h:je w B lp m)(d:Fx.iU (He m lp w.heap.size) w w'):Fx.tF [59] w w':=⟨d.os,d.tape,d.output,d.size,fun k T b e=>d.block k b.ltw fun f=>by
 rcases f with (rfl|rfl|rfl|rfl|rfl|rfl)|f
 ·have:=Fx.Ty.only h.c.ty b
  rw[this]at e; simp at e
 ·exact h.t.map.mI b
 ·exact h.p.mI b
 ·exact h.r.mI b
 ·exact h.g.mI b
 ·exact h.a.mI b
 ·have:=b.ltw; omega⟩
theorem DZ{B:Nat}{a b c:World}(h:Below a.heap.size a b)(e:Below B b c)(d:a.heap.size<=B):Below a.heap.size a c:=h.trans (e.mono d)
theorem jf{P:Program}{g:Nat}{a b:Array Value}{w:World}{R:Ending->World->Prop}(h:Calls P g b w R)(e:a=b):Calls P g a w R:=e ▸ h
theorem JW{x:Value}{y:Nat->Value}(hy : ∀ j,j<14->y j=dz v j):(#[x,.agg (Fx.aA 14 y)]:Array Value) = #[x,.agg (Fx.aA 14 (dz v))]:=congrArg (fun z=>(#[x,.agg z]:Array Value)) (Fx.gF hy)
theorem SS(k:Nat)(d:1<=k/\k<=6)(w:World):Calls Tryd.prog 6 #[au ((k:Int))] w fun e w' => ∃ lp m,e = .returned (.tuple #[(pt lp),au 0])/\qB w' w.heap.size lp m (oK k 0).core 0/\Below w.heap.size w w' :=
 (YU k d w).mono fun e w' ⟨lp,m,c,⟨n,i,j,l,h,g,a⟩,f,b⟩=>⟨lp,m,c,⟨f,by rw[a]; exact eB.new ..,(AA k 0).toInv0,(AA k 0).s,OW k 0⟩,b⟩
theorem Ra(h:qB w B lp m L N)(b:jR v)(c:1<=B)(d:Fx.gI w 0 0 8 wz){y:Nat->Value}(hy : ∀ j,j<14->y j=dz v j) :
 Calls Tryd.prog 15 #[(pt lp),.agg (Fx.aA 14 y)] w fun e w'=>e = .returned (au (dA L v))/\qB w' B lp (iF m v) (dO L v) (N+1)/\Fx.iU (He m lp w.heap.size) w w':=by
 have a:=h.s.apply h.q.t.inv h.i v
 refine jf ((QI m lp B w h.q v b (h.s.sound h.q.t.inv h.i) c d).mono fun e w' ⟨k,l,f⟩=>⟨by rw[k,a.1],⟨l,a.2,Af h.i,Iq h.i h.u,Im h.g b⟩,f⟩) (JW hy)
theorem Rb(h:qB w B lp m L N)(g:jR v)(a:1<=B)(b:Fx.gI w 0 0 8 wz){y:Nat->Value}(hy : ∀ j,j<14->y j=dz v j) :
 Calls Tryd.prog 29 #[(pt lp),.agg (Fx.aA 14 y)] w fun e w'=>e = .returned (au (dA L v))/\Below w.heap.size w w':=by
 have f:=h.s.apply h.q.t.inv h.i v
 refine jf ((adB m lp B w h.q v g (h.s.sound h.q.t.inv h.i) a b).mono fun e w' ⟨d,c⟩=>⟨by rw[d,f.1],c⟩) (JW hy)
theorem JX(h:qB w B lp m L N):Calls Tryd.prog 25 #[(pt lp)] w fun e w'=>e = .returned (.agg (Fx.aA 6 (Fx.rv .u64 L.known)))/\Below w.heap.size w w':=by
 rw[<- h.s.known]; exact QJ m lp B w h.q
theorem Rc(h:qB w B lp m L N)(i x:Int)(hi : -9223372036854775808<=i/\i<=9223372036854775807):Calls Tryd.prog 12 #[(pt lp),au i,aC x] w fun e w'=>e = .returned (au (AB L x i))/\Below w.heap.size w w':=by
 rw[<- h.s.local h.i]; exact QK m lp B w h.q i x hi
structure Gf(w:World)(B:Nat)(s:zZ)(L:dR):Prop where
 e:s=yw L s.na s.nc s.ga s.gc
 n:Fx.Own w B 68 56 (.slice s.na L.nn s.nc) L.nn (Fx.flat 56 (Pp L))
 g:Fx.Own w B 72 5 (.slice s.ga L.gn s.gc) L.gn (Fx.flat 5 (Io L))
theorem Gf.r{s:zZ}(h:Gf w B s L):OY w s L:=⟨h.e,h.n.arr,h.g.arr⟩
theorem Gf.up{s:zZ}(h:Gf w B s L)(a:Below w.heap.size w w'):Gf w' B s L:=⟨h.e,h.n.up a,h.g.up a⟩
instance {s:zZ}:Rt.Tr w w' (Gf w B s L) (Gf w' B s L):=⟨fun b h=>h.up b⟩
theorem Gf.om{s:zZ}{a:List TypeId}(h:Gf w B s L)(c:Fx.jO a w w')(b:(a.contains 68 || a.contains 72)=false):Gf w' B s L:=by
 rw[Bool.or_eq_false_iff]at b
 exact⟨h.e,h.n.om c b.1,h.g.om c b.2⟩
instance {s:zZ} {a:List TypeId}:Rt.Tc a w w' (Gf w B s L) (Gf w' B s L) (!(a.contains 68 || a.contains 72)):=⟨fun b h e=>h.om b (by simpa using e)⟩
theorem Gf.sH{s:zZ}{a:List TypeId}(h:Gf w B s L)(c:Fx.tF a w w')(b:(a.contains 68 || a.contains 72)=false):Gf w' B s L:=by
 rw[Bool.or_eq_false_iff]at b
 exact⟨h.e,h.n.sH c b.1,h.g.sH c b.2⟩
theorem wC(h:qB w B lp m L N)(z:N<=900000):Calls Tryd.prog 9 #[(pt lp)] w fun e w' => ∃ s,e = .returned (.agg (Fx.aA 20 (lZ s)))/\Gf w' w.heap.size s L/\Below w.heap.size w w':=by
 refine(QZ m lp B w h.q (by rw[h.s.gn]; have:=h.i.gn; omega)).mono fun e w' ⟨s,l,y,x,a,v⟩=>⟨s,x,?_,v⟩
 have b:=StC.of h.s h.i h.g a.ls a.gs
 have o:s.nn=L.nn:=by rw[a.nn,b.nn]
 have p:s.gn=L.gn:=by rw[a.gn,b.gn]
 have f:=a.n
 have d:=a.g
 rw[o]at f
 rw[p]at d
 refine⟨(OY.of a h.s h.i h.g).e,f.congr (Fx.bG fun k c j _ => ?_),d.congr (Fx.bG fun k c j _ => ?_)⟩
 ·obtain⟨r,t,u⟩:=b.n k c
  unfold OL Pp
  rw[t,u,r]
 unfold Po Io
 rw[b.g k c]
end
end Go.Proofs.YtcbedgfikejkoaaDoor
namespace Go.Proofs.YtcbedgfikejkoaaDoor
open Go.RowKit Rt
open Fx (eU dJ fu bf fq eZ dS dM fA gQ dH gT eP gD gU Lv sN Ln Ws Qv Wl Rp Wc Qs Wr Sb Lk Wk rC rV sR Rs Rn Rd Rk Wb Wx Wo yT Wt pE Aq Qn AX uo xL yB xJ AZ AY gG yR jM nT tC A8 yA yP xQ yQ rv aA aL bC aI ev bT Stp bU aM flat fH Mp dL aV fC gI aX down fM iU iM ji jv bG bA cells_one jO aY nE unseen jk iT cu bW cB bY bZ iB iG qP gV)
set_option maxRecDepth 20000
set_option linter.unusedVariables false
namespace Rt
def Lf:Int:=1099511627777
def Y8(n:Int)(i:Nat):Int:=if i=0 then n else 0
def vA:EvM:=⟨1,1,fun _=>0,1,0,0,10,0,0⟩
def vC:EvM:=⟨1,2,Y8 1,5,Lf,2,4,0,0⟩
def vD:EvM:=⟨2,1,Y8 2,3,Lf,0,4,1,0⟩
theorem OZ{m:dG}(b:m.T.ok)(v:EvM):(iF m v).T.ok:=by
 unfold iF
 by_cases c:bI m v=0
 ·rw[if_pos c]
  have f:=sw c
  have a:=(yt c).2.1
  have g:=mR f
  show(iy m v).T.ok
  unfold fF at a
  unfold iy
  by_cases d:v.kind=1
  ·rw[if_pos d]at a ⊢
   have e:m.T.err (ng v) v.node=0:=by
    unfold ko at a
    split at a
    ·cases a
    ·exact a
   exact wO.put b e (by unfold ng; omega)
  rw[if_neg d]
  repeat' split
  all_goals exact b
 rw[if_neg c]; exact b
structure Gg(m:dG)(L:dR)(N:Nat):Prop where
 s:eB m L
 t:m.T.ok
 i:Inv0 L N
theorem Gg.new(k:Nat):Gg (tK k 0 0 0 0 0 0) (oK k 0).core 0:=⟨eB.new ..,wO.zero _ _,(AA k 0).toInv0⟩
theorem Gg.apply{m:dG}{L:dR}{N:Nat}(h:Gg m L N)(v:EvM):Gg (iF m v) (dO L v) (N+1):=⟨(h.s.apply h.t h.i v).2,OZ h.t v,Af h.i⟩
theorem Gg.err{m:dG}{L:dR}{N:Nat}(h:Gg m L N)(v:EvM){c:Int}(e:bI m v=c):dA L v=c:=(h.s.apply h.t h.i v).1.symm.trans e
theorem Gg.loc{m:dG}{L:dR}{N:Nat}(h:Gg m L N)(x i:Int){c:Int}(e:dU (kU m x) i=c):AB L x i=c:=(h.s.local h.i x i).symm.trans e
noncomputable def wq0:dG:=tK 2 0 0 0 0 0 0
noncomputable def wq1:dG:=iF wq0 vA
noncomputable def wq2:dG:=iF wq1 vC
noncomputable def wq3:dG:=iF wq2 vD
theorem tw0:Gg wq0 (oK 2 0).core 0 := .new 2
end Rt
-- KE.works is not in this seat
namespace Rt
structure dV where
 kind:Int
 node:Int
 dst:Int
 bH:Int
 req:Int
 of:Int
def dQ(x:dV):Nat->Value:=fun p=>if p=0 then .int .u8 x.kind else if p=1 then aC x.node else if p=2 then au x.dst else if p=3 then au x.bH else if p=4 then aC x.req else aC x.of
theorem sF(x:dV)(j:Nat):(dQ x j).oneCell'=true:=by unfold dQ; repeat (first|rfl|split)
def lD:dV:=⟨0,0,0,0,0,0⟩
def Iu(l:List dV):Nat->Value:=flat 6 fun k=>dQ (l.getD k lD)
theorem O1{l:List dV}{n:Nat}{y z:Nat->Value}{x:dV}(b:n=l.length)(hy : ∀ j,j<6->y j=dQ x j) : ∀ j,j<(n+1)*6->iT (Iu l) (n*6) (bC z (0*6) 6 y) j=Iu (l ++ [x]) j:=fun j a =>
 (Fx.zD j a).trans (bG (fun i d q c=>by
  subst b
  unfold Fx.Ka
  by_cases h:i=l.length
  ·subst h; rw[if_pos rfl,hy q c,List.getD_eq_getElem?_getD,List.getElem?_append_right (by omega),Nat.sub_self]; rfl
  ·rw[if_neg h]; show dQ (l.getD i lD) q=_; rw[List.getD_eq_getElem?_getD,List.getD_eq_getElem?_getD,List.getElem?_append_left (by omega)]) j a)
structure jD(x:dV):Prop where
 kind:0<=x.kind/\x.kind<=255
 node:gN x.node
 dst:nV x.dst
 bH:nV x.bH
 req:gN x.req
 of:gN x.of
end Rt
set_option maxRecDepth 20000
set_option linter.unusedVariables false
namespace Rt
def iN(K:Nat->Int)(i:Int)(x:dV):EvM:=⟨i,K (i-1).toNat+1,K,x.kind,x.node,x.dst,x.bH,x.req,x.of⟩
end Rt
theorem Rf(K:Nat->Int)(i:Int)(hr:jo i=false)(w:World) :
 Calls Tryd.prog 26 #[.agg (aA 6 (rv .u64 K)),au i] w fun e w'=>e = .returned (.tuple #[aC 0,au 10])/\Below w.heap.size w w':=by
 refine Kent Tryd.func26 21 ?_
 refine ay<|sG fun f j b c d k => ?_
 have a:=aR d.old (Below.refl w.heap.size w)
 have g:=gY b
 have h:=c.lt
 refine av (aC 0)<|av (au 0)<|aD<|Ws<|Wb<|ay<|av (au i)<|mH (DK i _) aF (by rw[hr])<|av aG<|av aG<|aD<|aQ<|ay<|av (aC 0)<|av (au 10)<|aD<|Wr<|bW<|sR<|aN (.tuple #[aC 0,au 10]) ?_
 exact⟨rfl,a⟩
theorem Rh(K:Nat->Int)(i:Int)(a:Nat)(ha:a<6)(h:i=(a:Int)+1)(g:EP K)(w:World) :
 Calls Tryd.prog 26 #[.agg (aA 6 (rv .u64 K)),au i] w fun e w'=>e = .returned (.tuple #[aC (K a+1),au 0])/\Below w.heap.size w w':=by
 have j:jo i=true:=by rw[h]; unfold jo; simp; omega
 have l:=g a ha
 refine Kent Tryd.func26 21 ?_
 refine ay<|sG fun c o f b k p => ?_
 have d:=aR k.old (Below.refl w.heap.size w)
 have m:=gY f
 have n:=b.lt
 refine av (aC 0)<|av (au 0)<|aD<|Ws<|Wb<|ay<|av (au i)<|mH (DK i _) aG (by rw[j])<|av aF<|av aF<|aD<|aK<|ay<|av (au i)<|Lv (au a) jw<|Lv ((pf c a)) (yS 6 1)<|Lv (aC (K a)) (aP b.aJ a)<|Lv aF BK<|av aF<|aD<|aK<|Wk<|cB<|sN<|ay<|av (au i)<|Lv (au a) jw<|Lv ((pf c a)) (yS 6 1)<|Lv (aC (K a)) (aP b.aJ a)<|Lv (aC ((K a)+1)) fZ<|av (aC ((K a)+1))<|av (au 0)<|aD<|Wr<|aN (.tuple #[aC ((K a)+1),au 0]) ?_
 exact⟨rfl,d⟩
theorem Y9(v:EvM)(i c:Int)(K:Nat->Int)(a:Nat)(w:World)(b:aL w a 14 (dz v) 33)(d:Nat)(g:Nat)(f:Nat)(hi:aL w d 1 (fun _=>au i) 3)(k:aL w g 1 (fun _=>aC c) 29)(h:aL w f 6 (rv .u64 (K)) 31) :
 Calls Tryd.prog 28 #[(pt a),(pt d),(pt g),(pt f)] w fun e w'=>e = .returned (.tuple #[])/\aL w' a 14 (dz ⟨i,c,K,v.kind,v.node,v.dst,v.bH,v.req,v.of⟩) 33/\Stp a w w':=by
 have L:=b.lt
 have M:=hi.lt
 have O:=k.lt
 have N:=h.lt
 have P:d≠a:=fun e=>absurd (Fx.Ty.only (e ▸ hi.ty) b.ty) (by decide)
 have Q:g≠a:=fun e=>absurd (Fx.Ty.only (e ▸ k.ty) b.ty) (by decide)
 have R:f≠a:=fun e=>absurd (Fx.Ty.only (e ▸ h.ty) b.ty) (by decide)
 refine Kent Tryd.func28 17 ?_
 -- region 0 draws
 refine yQ [0,1,2,3,6,7,4,5,8,9,10,11,12,13,14] [0,0,0,4,1,1,0,0,2,0,0,2,0,0,2] (Fx.tF [33]) Fx.tF.refl Fx.tF.trans (eO := [(8,3,[3]),(11,3,[3]),(14,3,[3]),(9,8,[8]),(10,8,[8]),(11,8,[8]),(12,8,[8]),(13,8,[8]),(14,8,[8]),(12,11,[11]),(13,11,[11]),(14,11,[11])]) (by kernel_rfl) (by kernel_rfl) (by kernel_rfl) (by kernel_rfl) (by kernel_rfl) fun H m J => ?_
 have F:Stp w.heap.size w H:=Sb m
 have⟨n,C,D,E⟩:=iH m b hi k h
 have t:=(jM a w).then F (.inr (jM a w).size)
 refine aU ((pt a))<|aU ((pt a))<|aU ((pt a))<|Rs (au i) (aP C.aJ 0) ?_
 refine aU ((pt a))<|aU ((pt a))<|Rd (v:=aC c) (by rfl) (by rfl) (Fx.tF.refl _) (fun G l=>bf (x:=fun _=>aC c) rfl rfl (by kernel_rfl) (D.sH l (by decide)).aJ (i:=0) (by omega) (by omega) rfl) ?_
 refine Rd (v := .agg (aA 6 (rv .u64 (K)))) (by rfl) (by rfl) (Fx.tF.refl _) (fun G l=>dH (x:=rv .u64 (K)) (y:=rv .u64 (K)) rfl rfl (by kernel_rfl) (by kernel_rfl) (E.sH l (by decide)).aJ (i:=0) (by omega) (by omega) (fun j _=>by rw[Nat.zero_add])) ?_
 refine zG<|mZ n 0 (au i) fun S o q V => ?_
 have u:=t.then q (by omega)
 refine Ln ⟨Fx.tF.Dh ((gG q n.ty).wide (by decide)),?_⟩
 refine aU ((pt a))<|aU ((pf a 1))<|zG<|mZ o 1 (aC c) fun T p r W => ?_
 have z:=u.then r (by omega)
 refine Ln ⟨Fx.tF.Dh ((gG r o.ty).wide (by decide)),?_⟩
 refine aU ((pt a))<|aU ((pf a 2))<|zG<|eX p 2 fun U B s X => ?_
 have A:=z.then s (by omega)
 refine Ln ⟨Fx.tF.Dh ((gG s p.ty).wide (by decide)),?_⟩
 refine Rn (⟨.tuple #[],fM Tryd.results28,?_⟩)
 exact⟨rfl,B.congr (fun j I=>by rcases j with _|_|_|_|_|_|_|_|_|_|_|_|_|_|j <;> first|rfl|omega),A⟩
theorem Ww(x:dV)(i d:Int)(K:Nat->Int)(w:World)(g:Nat)(k:Nat)(h:Nat)(hi:aL w g 1 (fun _=>au i) 3)(m:aL w k 1 (fun _=>aC d) 29)(l:aL w h 6 (rv .u64 (K)) 31) :
 Calls Tryd.prog 27 #[.agg (aA 6 (dQ x)),.func (.func 28) #[] #[(pt g),(pt k),(pt h)]] w fun e w'=>e = .returned (.agg (aA 14 (dz ⟨i,d,K,x.kind,x.node,x.dst,x.bH,x.req,x.of⟩)))/\Below w.heap.size w w':=by
 have lgi:=hi.lt
 have lgs:=m.lt
 have lgk:=l.lt
 refine Kent Tryd.func27 22 ?_
 refine ay<|sG fun c w1 y n s1 z1 => ?_
 have⟨C,E,F,r⟩:=iH s1.old hi m l (Below.refl w.heap.size w)
 have wF:=gY y
 have⟨nH,Yt,rY⟩:=Bf y hi.lt m.lt l.lt
 have wQ:=n.lt
 refine lM 14 (fun a=>if a<1 then au 0 else if a<8 then aC 0 else if a<9 then .int .u8 (0)else if a<10 then aC 0 else if a<12 then au 0 else aC 0) fun O w2 z p s2 z2 => ?_
 have⟨G,H,I,b,s⟩:=lV s2.old C E F n r
 have yH:=gM z r.size
 have⟨agq,NJ,Za,Jv⟩:=Ke z C.lt E.lt F.lt n.lt
 have Ba:=p.lt
 refine aD<|ay<|av ((pt c))<|Lv (.int .u8 (x.kind)) (aP b.aJ 0)<|av ((pf c 1))<|Lv (aC x.node) (aP b.aJ 1)<|av ((pf c 2))<|Lv (au x.dst) (aP b.aJ 2)<|av ((pf c 3))<|Lv (au x.bH) (aP b.aJ 3)<|av ((pf c 4))<|Lv (aC x.req) (aP b.aJ 4)<|av ((pf c 5))<|Lv (aC x.of) (aP b.aJ 5)<|av (.agg (aA 14 (bC (bC (bC (bC (bC (bC (fun a=>if a<1 then au 0 else if a<8 then aC 0 else if a<9 then .int .u8 (0)else if a<10 then aC 0 else if a<12 then au 0 else aC 0) 8 1 (fun _ => .int .u8 (x.kind))) 9 1 (fun _=>aC x.node)) 10 1 (fun _=>au x.dst)) 11 1 (fun _=>au x.bH)) 12 1 (fun _=>aC x.req)) 13 1 (fun _=>aC x.of))))<|lM 14 (fun a=>if a<1 then au 0 else if a<8 then aC 0 else if a<9 then .int .u8 (0)else if a<10 then aC 0 else if a<12 then au 0 else aC 0) fun f w3 A o s3 z3 => ?_
 have⟨R,S,T,U,t⟩:=lV s3.old G H I p s
 have EB:=gM A s.size
 have⟨OG,VF,VG,VH,VI⟩:=vB A G.lt H.lt I.lt b.lt p.lt
 have Ga:=o.lt
 refine eX o 0 (h1:=(aY (aY (aY (aY (aY (aY (fun Q _=>by show((fun a=>if a<1 then au 0 else if a<8 then aC 0 else if a<9 then .int .u8 (0)else if a<10 then aC 0 else if a<12 then au 0 else aC 0:Nat->Value) Q).oneCell'=true; simp only[]; repeat (first|rfl|split)) (fun _ _=>rfl)) (fun _ _=>rfl)) (fun _ _=>rfl)) (fun _ _=>rfl)) (fun _ _=>rfl)) (fun _ _=>rfl))) fun M V q z4 => ?_
 have W:aL M f 14 (bC (bC (bC (bC (bC (bC (fun a=>if a<1 then au 0 else if a<8 then aC 0 else if a<9 then .int .u8 (0)else if a<10 then aC 0 else if a<12 then au 0 else aC 0) 8 1 (fun _ => .int .u8 (x.kind))) 9 1 (fun _=>aC x.node)) 10 1 (fun _=>au x.dst)) 11 1 (fun _=>au x.bH)) 12 1 (fun _=>aC x.req)) 13 1 (fun _=>aC x.of)) 33:=aM V
 have X:aL M f 14 (dz ⟨0,0,fun _=>0,x.kind,x.node,x.dst,x.bH,x.req,x.of⟩) 33:=W.congr (fun j hj=>by rcases j with _|_|_|_|_|_|_|_|_|_|_|_|_|_|j <;> first|rfl|omega)
 have P:=gG q o.ty
 have⟨Y,Z,aa⟩:=zI P R S T
 have ab:=U.eG q (by omega)
 have u:=q.below t t.size (by omega)
 refine aD<|ay<|av (.func (.func 28) #[] #[(pt g),(pt k),(pt h)])<|uo (by rfl) (Fx.vg (args := [(pt f)]) rfl rfl rfl (all := #[(pt f),(pt g),(pt k),(pt h)]) rfl Tryd.func28 rfl rfl) rfl<|(Y9 ⟨0,0,fun _=>0,x.kind,x.node,x.dst,x.bH,x.req,x.of⟩ i d K f _ X g k h Y Z aa).mono ?_
 rintro e9 w5 ⟨B,D,J⟩
 refine⟨_,B,?_⟩
 clear B
 have ac:=ab.eG J (by omega)
 have v:=J.below u u.size (by omega)
 refine aD<|ay<|Lv (.agg (aA 14 (dz ⟨i,d,K,x.kind,x.node,x.dst,x.bH,x.req,x.of⟩))) (gW D.aJ 0)<|eX ac 0 (h1:=(jc _)) fun w6 ad L z5 => ?_
 have ae:aL w6 O 14 (dz ⟨i,d,K,x.kind,x.node,x.dst,x.bH,x.req,x.of⟩) 33:=aM ad
 have pV:=D.eG L (by omega)
 have N:=L.below v v.size (by omega)
 refine aD (Wr (⟨.agg (aA 14 (dz ⟨i,d,K,x.kind,x.node,x.dst,x.bH,x.req,x.of⟩)),rV Tryd.results27 ⟨_,rfl,aV ae.aJ (by kernel_rfl) (by kernel_rfl)⟩,?_⟩))
 exact⟨rfl,N⟩
namespace Rt
theorem AJ{z y:Nat->Value}{a b:Int}(d : ∀ j,j<14->z j=y j)(c:a=b):Ending.returned (.tuple #[.agg (aA 14 z),au a])=Ending.returned (.tuple #[.agg (aA 14 y),au b]):=by rw[Fx.gF d,c]
noncomputable def fK(L:dR)(i:Int)(x:dV):Int:=if jo i=false then 10 else dA L (iN L.known i x)
open Classical in
noncomputable def eF(L:dR)(i:Int)(x:dV):EvM:=if fK L i x=0 then iN L.known i x else zeroE
theorem AL{L:dR}{i:Int}{x:dV}(h:jo i=false):fK L i x=10/\eF L i x=zeroE:=by
 have:fK L i x=10:=by unfold fK; rw[if_pos h]
 refine⟨this,?_⟩
 unfold eF
 rw[if_neg (by rw[this]; decide)]
theorem jg{L:dR}{i:Int}{x:dV}(h:jo i=true):fK L i x=dA L (iN L.known i x):=by unfold fK; rw[if_neg (by rw[h]; decide)]
theorem Iw{K:Nat->Int}{i:Int}{x:dV}(b:EP K)(hx:jD x)(hi:jo i=true):jR (iN K i x):=by
 obtain⟨a,c,f⟩:=dZ hi
 have g:=b a c
 have e:(i-1).toNat=a:=by omega
 refine⟨⟨?_,?_⟩,⟨?_,?_⟩,fun j d => ?_,hx.kind,hx.node,hx.dst,hx.bH,hx.req,hx.of⟩
 ·show -9223372036854775808<=i; omega
 ·show i<=9223372036854775807; omega
 ·show 0<=K (i-1).toNat+1; rw[e]; omega
 ·show K (i-1).toNat+1<=18446744073709551615; rw[e]; omega
 have:=b j d; exact⟨by show 0<=K j; omega,by show K j<=_; omega⟩
end Rt
theorem Ri(lp B N:Nat)(m:dG)(L:dR)(w:World)(h:qB w B lp m L N)(hB:1<=B)(S:gI w 0 0 8 wz)(i:Int)(x:dV)(hr:jo i=false) :
 Calls Tryd.prog 14 #[(pt lp),au i,.agg (aA 6 (dQ x))] w fun e w'=>e = .returned (.tuple #[.agg (aA 14 (dz (eF L i x))),au (fK L i x)])/\Below w.heap.size w w':=by
 have l0:=S.lt (by omega)
 have lq:=h.q.lt
 refine Kent Tryd.func14 39 ?_
 refine ay<|qE (au i) fun g1 w1 O b s1 z1 => ?_
 have⟨m2,g⟩:=iA s1.old h (Below.refl w.heap.size w)
 have wF:=gY O
 have wQ:=b.lt
 refine sG fun g2 w2 s d s2 z2 => ?_
 have⟨m4,F,k⟩:=jI s2.old m2 b g
 have yH:=gM s g.size
 have Jr:=bR s b.lt
 have Ba:=d.lt
 refine lM 14 (fun a=>if a<1 then au 0 else if a<8 then aC 0 else if a<9 then .int .u8 (0)else if a<10 then aC 0 else if a<12 then au 0 else aC 0) fun P w3 t G s3 z3 => ?_
 have⟨m7,m8,m9,K⟩:=iH s3.old m4 F d k
 have EB:=gM t k.size
 have⟨NP,NQ⟩:=ow t F.lt d.lt
 have Ga:=G.lt
 refine av (au 0)<|aD<|Ws<|ay<|av ((pt lp))<|Lv aF (Fx.jF rfl rfl rfl (by kernel_rfl))<|aD<|aK<|Wk<|sN<|ay<|av ((pt lp))<|fB (JX m7) _ rfl ?_
 intro w4 T
 have⟨y,z,A,l⟩:=iH T m8 m9 G K
 refine lM 6 (rv .u64 (fun _=>0)) fun Q w5 u c s5 z4 => ?_
 have⟨Y,Z,aa,n⟩:=iH s5.old y z A l
 have KN:=gM u l.size
 have⟨Ig,O4,O5⟩:=Bf u y.lt z.lt A.lt
 have Js:=c.lt
 refine eX c 0 fun w6 ab H z5 => ?_
 have C:aL w6 Q 6 (rv .u64 ((L).known)) 31:=aM ab
 have V:=gG H c.ty
 have⟨D,m23,m24⟩:=zI V Y Z aa
 have M:=H.below n n.size (by omega)
 refine aD<|ay<|Lv (.agg (aA 6 (rv .u64 ((L).known)))) (gW C.aJ 0)<|Lv (au i) (aP D.aJ 0)<|fB (Rf L.known i hr _) _ rfl ?_
 intro w7 U
 have⟨qL,qx,E,qZ,o⟩:=lV U D m23 m24 C M
 refine av (.tuple #[aC 0,au 10])<|av (aC 0)<|av (au 10)<|lM 1 (rv .u64 (fun _=>0)) fun R w8 v f s8 z6 => ?_
 have⟨nI,p⟩:=iA s8.old E o
 have VK:=gM v o.size
 have⟨Wy,Wz,WA,WB⟩:=Ke v qL.lt qx.lt E.lt qZ.lt
 have YQ:=f.lt
 refine mZ f 0 (aC 0) fun w9 pV I z7 => ?_
 have uD:aL w9 R 1 (fun _=>aC 0) 29:=cu pV
 have W:=gG I f.ty
 have pW:=kJ W nI
 have r:=I.below p p.size (by omega)
 refine av (au 10)<|aD<|Ws<|ay<|av (au 10)<|Lv aG (gH rfl)<|aD<|aQ<|ay<|av (.agg (aA 14 (fun a=>if a<1 then au 0 else if a<8 then aC 0 else if a<9 then .int .u8 (0)else if a<10 then aC 0 else if a<12 then au 0 else aC 0)))<|av (au 10)<|eX pW 0 (h1:=(fun X _=>by show((fun a=>if a<1 then au 0 else if a<8 then aC 0 else if a<9 then .int .u8 (0)else if a<10 then aC 0 else if a<12 then au 0 else aC 0:Nat->Value) X).oneCell'=true; simp only[]; repeat (first|rfl|split))) fun zR qN s10 z8 => ?_
 have ru:aL zR P 14 (fun a=>if a<1 then au 0 else if a<8 then aC 0 else if a<9 then .int .u8 (0)else if a<10 then aC 0 else if a<12 then au 0 else aC 0) 33:=aM qN
 have J:=s10.below r r.size (by omega)
 refine av (au 10) (aD (Wr (sR (⟨.tuple #[.agg (aA 14 (fun a=>if a<1 then au 0 else if a<8 then aC 0 else if a<9 then .int .u8 (0)else if a<10 then aC 0 else if a<12 then au 0 else aC 0)),au 10],gV Tryd.results14 ⟨_,rfl,aV ru.aJ (by kernel_rfl) (by kernel_rfl)⟩ (by exact rfl),?_⟩))))
 exact⟨by rw[(AL hr).1,(AL hr).2]; exact AJ (fun j hj=>by rcases j with _|_|_|_|_|_|_|_|_|_|_|_|_|_|j <;> first|rfl|omega) rfl,J⟩
theorem Rj(lp B N:Nat)(m:dG)(L:dR)(w:World)(h:qB w B lp m L N)(hB:1<=B)(Q:gI w 0 0 8 wz)(i:Int)(x:dV)(hx:jD x)(a:Nat)(ha:a<6)(S:i=(a:Int)+1) :
 Calls Tryd.prog 14 #[(pt lp),au i,.agg (aA 6 (dQ x))] w fun e w'=>e = .returned (.tuple #[.agg (aA 14 (dz (eF L i x))),au (fK L i x)])/\Below w.heap.size w w':=by
 have l0:=Q.lt (by omega)
 have lq:=h.q.lt
 have d:jo i=true:=by rw[S]; unfold jo; simp; omega
 have eia:(i-1).toNat=a:=by omega
 have hka:=h.i.kn a ha
 refine Kent Tryd.func14 39 ?_
 refine ay<|qE (au i) fun l w1 nk n s1 z1 => ?_
 have⟨m2,y⟩:=iA s1.old h (Below.refl w.heap.size w)
 have wF:=gY nk
 have wQ:=n.lt
 refine sG fun g2 w2 I p s2 z2 => ?_
 have⟨m4,m5,D⟩:=jI s2.old m2 n y
 have yH:=gM I y.size
 have Jr:=bR I n.lt
 have Ba:=p.lt
 refine lM 14 (fun b=>if b<1 then au 0 else if b<8 then aC 0 else if b<9 then .int .u8 (0)else if b<10 then aC 0 else if b<12 then au 0 else aC 0) fun P w3 J m6 s3 z3 => ?_
 have⟨m7,m8,m9,b3⟩:=iH s3.old m4 m5 p D
 have EB:=gM J D.size
 have⟨NP,NQ⟩:=ow J m5.lt p.lt
 have Ga:=m6.lt
 refine av (au 0)<|aD<|Ws<|ay<|av ((pt lp))<|Lv aF (Fx.jF rfl rfl rfl (by kernel_rfl))<|aD<|aK<|Wk<|sN<|ay<|av ((pt lp))<|fB (JX m7) _ rfl ?_
 intro w4 hb1
 have⟨m10,T,U,V,E⟩:=lV hb1 m7 m8 m9 m6 b3
 refine lM 6 (rv .u64 (fun _=>0)) fun g w5 K o s5 z4 => ?_
 have⟨m15,m16,m17,m18,F⟩:=lV s5.old m10 T U V E
 have KN:=gM K E.size
 have⟨Ig,O4,O5⟩:=Bf K T.lt U.lt V.lt
 have Js:=o.lt
 refine eX o 0 fun w6 m19 s6 z5 => ?_
 have W:aL w6 g 6 (rv .u64 ((L).known)) 31:=aM m19
 have iq:=gG s6 o.ty
 have⟨m21,X,m23,m24⟩:=Gt iq m15 m16 m17 m18
 have b6:=s6.below F F.size (by omega)
 refine aD<|ay<|Lv (.agg (aA 6 (rv .u64 ((L).known)))) (gW W.aJ 0)<|Lv (au i) (aP X.aJ 0)<|fB (Rh L.known i a ha S h.i.kn _) _ rfl ?_
 intro w7 hb2
 have⟨qK,Y,Z,aa,ab,G⟩:=vw hb2 m21 X m23 m24 W b6
 refine av (.tuple #[aC (L.known a+1),au 0])<|av (aC (L.known a+1))<|av (au 0)<|lM 1 (rv .u64 (fun _=>0)) fun k w8 M r s8 z6 => ?_
 have⟨lJ,m32,oD,nI,qM,H⟩:=vw s8.old qK Y Z aa ab G
 have VK:=gM M G.size
 have⟨Wy,Wz,WA,WB⟩:=Ke M Y.lt Z.lt aa.lt ab.lt
 have YQ:=r.lt
 refine mZ r 0 (aC (L.known a+1)) fun w9 pV s9 z7 => ?_
 have ac:aL w9 k 1 (fun _=>aC (L.known a+1)) 29:=cu pV
 have kX:=gG s9 r.ty
 have⟨qF,ad,ae,pW,af⟩:=LH kX lJ m32 oD nI qM
 have b9:=s9.below H H.size (by omega)
 refine av (au 0)<|aD<|Ws<|ay<|av (au 0)<|Lv aF (gD rfl rfl rfl (by decide))<|aD<|aK<|Wk<|sN<|ay<|Lv (.agg (aA 6 (dQ x))) (gW ae.aJ 0)<|Lv (.func (.func 28) #[] #[(pt l),(pt k),(pt g)]) (Fx.jl (us := []) (vs := [(pt l),(pt k),(pt g)]) rfl rfl rfl)<|jy (Ww x i (L.known a+1) L.known _ l k g ad ac af) ?_
 rintro e9 zR ⟨R,hb3⟩
 refine⟨.agg (aA 14 (dz (iN L.known i x))),by rw[R]; unfold iN; rw[eia],?_⟩
 clear R
 have⟨qN,ru,vH,ag,xR,zS,z⟩:=Da hb3 qF ad ae pW af ac b9
 refine lM 14 (fun b=>if b<1 then au 0 else if b<8 then aC 0 else if b<9 then .int .u8 (0)else if b<10 then aC 0 else if b<12 then au 0 else aC 0) fun g6 Kn O s s11 z8 => ?_
 have⟨uh,vJ,A⟩:=jI s11.old qN ag z
 have lg6:=gM O z.size
 have⟨WC,WE,ael,WG,aem⟩:=vB O ru.lt vH.lt ag.lt xR.lt zS.lt
 have tg6:=s.lt
 refine eX s 0 (h1:=(jc _)) fun La vK u z9 => ?_
 have sP:aL La g6 14 (dz (iN L.known i x)) 33:=aM vK
 have wR:=gG u s.ty
 have wI:=kJ wR uh
 have uV:=vJ.eG u (by omega)
 have C:=u.below A A.size (by omega)
 refine aD<|Ws<|ay<|av ((pt lp))<|Lv (.agg (aA 14 (dz (iN L.known i x)))) (gW sP.aJ 0)<|fB (Rb (v:=(iN L.known i x)) wI (Iw h.i.kn hx d) hB (Q.below C l0) (fun _ _=>rfl)) _ rfl ?_
 intro Sc hb4
 have⟨yF,t,f⟩:=jI hb4 uV sP C
 refine av (au (dA L (iN L.known i x)))<|aD<|ay<|av (au (dA L (iN L.known i x))) ?_
 by_cases c:(dA L (iN L.known i x))=0
 ·refine Lv aF (kW c)<|aD<|aK<|Wk<|sN<|ay<|Lv (.agg (aA 14 (dz (iN L.known i x)))) (gW t.aJ 0)<|eX yF 0 (h1:=(jc _)) fun Uo wT PU ZV => ?_
  have zU:aL Uo P 14 (dz (iN L.known i x)) 33:=aM wT
  have BU:=t.eG PU (by omega)
  have b14:=PU.below f f.size (by omega)
  refine av (au 0) (aD (Wr (⟨.tuple #[.agg (aA 14 (dz (iN L.known i x))),au 0],gV Tryd.results14 ⟨_,rfl,aV zU.aJ (by kernel_rfl) (by kernel_rfl)⟩ (by exact rfl),?_⟩)))
  exact⟨by rw[jg d,show eF L i x=iN L.known i x by unfold eF; rw[if_pos (by rw[jg d]; exact c),]]; exact AJ (fun _ _=>rfl) c.symm,b14⟩
 refine Lv aG (qV c)<|aD<|aQ<|ay<|av (.agg (aA 14 (fun b=>if b<1 then au 0 else if b<8 then aC 0 else if b<9 then .int .u8 (0)else if b<10 then aC 0 else if b<12 then au 0 else aC 0)))<|av (au (dA L (iN L.known i x)))<|eX yF 0 (h1:=(fun jq _=>by show((fun b=>if b<1 then au 0 else if b<8 then aC 0 else if b<9 then .int .u8 (0)else if b<10 then aC 0 else if b<12 then au 0 else aC 0:Nat->Value) jq).oneCell'=true; simp only[]; repeat (first|rfl|split))) fun W9 A9 s15 ZX => ?_
 have zV:aL W9 P 14 (fun b=>if b<1 then au 0 else if b<8 then aC 0 else if b<9 then .int .u8 (0)else if b<10 then aC 0 else if b<12 then au 0 else aC 0) 33:=aM A9
 have Jc:=t.eG s15 (by omega)
 have b15:=s15.below f f.size (by omega)
 refine av (au (dA L (iN L.known i x))) (aD (Wr (sR (⟨.tuple #[.agg (aA 14 (fun b=>if b<1 then au 0 else if b<8 then aC 0 else if b<9 then .int .u8 (0)else if b<10 then aC 0 else if b<12 then au 0 else aC 0)),au (dA L (iN L.known i x))],gV Tryd.results14 ⟨_,rfl,aV zV.aJ (by kernel_rfl) (by kernel_rfl)⟩ (by exact rfl),?_⟩))))
 exact⟨by rw[jg d,show eF L i x=zeroE by unfold eF; rw[if_neg (by rw[jg d]; exact c)]]; exact AJ (fun j hj=>by rcases j with _|_|_|_|_|_|_|_|_|_|_|_|_|_|j <;> first|rfl|omega) rfl,b15⟩
theorem WH{lp B N:Nat}{m:dG}{L:dR}{w:World}(h:qB w B lp m L N)(b:1<=B)(c:gI w 0 0 8 wz)(i:Int){x:dV}(hx:jD x){y:Nat->Value}(hy : ∀ j,j<6->y j=dQ x j) :
 Calls Tryd.prog 14 #[(pt lp),au i,.agg (aA 6 y)] w fun e w'=>e = .returned (.tuple #[.agg (aA 14 (dz (eF L i x))),au (fK L i x)])/\Below w.heap.size w w':=by
 rw[Fx.gF hy]
 cases hr:jo i with
 | false=>exact Ri lp B N m L w h b c i x hr
 | true =>
   obtain⟨a,f,d⟩:=dZ hr
   exact Rj lp B N m L w h b c i x hx a f d
-- admit.aen is not in this seat
-- admit.aen is not in this seat
namespace Rt
theorem Zb{k n r:Nat}(e:r=k % n):Int.tmod (k:Int) (n:Int)=(r:Int):=by
 rw[Int.tmod_eq_emod_of_nonneg (by omega),e]
 exact(Int.natCast_emod k n).symm
end Rt
-- (*jd.World).Event is not in this seat
theorem Rt.jE:jR zeroE:=by
 have z:gN 0:=⟨by decide,by decide⟩
 have y:nV 0:=⟨by decide,by decide⟩
 exact⟨y,z,fun _ _=>z,⟨by decide,by decide⟩,z,y,y,z,z⟩
def wdS(p:Nat)(M:WM)(k:Nat):Prop:=k=p\/(Value.slice M.la M.n M.lc).ownBlock=some k\/(Value.slice M.aa M.an M.ac).ownBlock=some k
def Zc(w:World)(p:Nat)(M a:WM):Prop := ∀ k,wdS p a k->wdS p M k\/w.heap.size<=k
theorem Zc.app{w b:World}{p g:Nat}{M a:WM}(i:(Value.slice M.aa M.an M.ac).ownBlock=some g\/g=b.heap.size)(l:w.heap.size<=b.heap.size)(h1:a.la=M.la:=by rfl)(c:a.n=M.n:=by rfl)(d:a.lc=M.lc:=by rfl)(f:(Value.slice a.aa a.an a.ac).ownBlock=some g:=by rfl):Zc w p M a:=fun k j=>by
 rcases j with h|h|h
 ·exact .inl (.inl h)
 ·rw[h1,c,d]at h; exact .inl (.inr (.inl h))
 ·have e:g=k:=Option.some.inj (f.symm.trans h)
  rcases i with h5|h5
  ·exact .inl (.inr (.inr (e ▸ h5)))
  ·exact .inr (by omega)
-- (*jd.World).Do is not in this seat
set_option maxRecDepth 20000
set_option linter.unusedVariables false
namespace Rt
def BF:dV:=⟨1,0,0,10,0,0⟩
def qo:dV:=⟨3,Lf,0,4,1,0⟩
theorem Rl:jD BF:=⟨⟨by decide,by decide⟩,⟨by decide,by decide⟩,⟨by decide,by decide⟩,⟨by decide,by decide⟩,⟨by decide,by decide⟩,⟨by decide,by decide⟩⟩
theorem JY:jD qo:=⟨⟨by decide,by decide⟩,⟨by decide,by decide⟩,⟨by decide,by decide⟩,⟨by decide,by decide⟩,⟨by decide,by decide⟩,⟨by decide,by decide⟩⟩
def wA:EvM:=iN (oK 2 0).core.known 1 BF
theorem ap1:dA (oK 2 0).core wA=0:=tw0.err wA (by kernel_rfl)
end Rt
-- K5.works is not in this seat
-- K5.Zd is not in this seat
end Go.Proofs.YtcbedgfikejkoaaDoor
namespace Go.Proofs.YtcbedgfikejkoaaDoor
open Go.RowKit Go
set_option linter.unusedVariables false
set_option maxRecDepth 20000
namespace Rt
def ny(i r:Int)(x:Nat->Int):Bool:=decide (x 0=i)&&(decide (x 1=r) || decide (x 4=r))
def tL(L:dR)(i r:Int):Int:=fE (fun q=>ny i r (L.g q)) L.gn
def oQ(x:dV)(g:Nat->Int):Bool:=decide (x.kind=3)&&(decide (g 1=x.req)&&(decide (g 2=x.node)&&decide (g 3=x.bH)))
def mY(x:dV)(g:Nat->Int):Bool:=decide (x.kind=4)&&(decide (g 4=x.req)&&decide (g 1=x.of))
def Lg(x:dV):Bool := !decide (x.req=0)&&(decide (x.kind=3) || decide (x.kind=4))
def dn(L:dR)(i:Int)(x:dV):Bool:=Lg x&&decide (0<=tL L i x.req)
def fU(L:dR)(i:Int)(x:dV):Int:=if dn L i x=true then(if(oQ x (L.g (tL L i x.req).toNat) || mY x (L.g (tL L i x.req).toNat))=true then 0 else 14)else 0
theorem AO{i r:Int}{x:Nat->Int}:ny i r x=true<->x 0=i/\(x 1=r\/x 4=r):=by
 unfold ny
 rw[Bool.and_eq_true,Bool.or_eq_true,decide_eq_true_iff,decide_eq_true_iff,decide_eq_true_iff]
structure wD(L:dR)(i:Int):Prop where
 a : ∀ q,q<L.gn -> ∀ r,r≠0->ny i r (L.g q)=true -> ∃ j,j<L.rn (i-1).toNat/\L.rq (i-1).toNat j=r
 u : ∀ r,r≠0 -> ∀ q p,q<L.gn->p<L.gn->ny i r (L.g q)=true->ny i r (L.g p)=true->q=p
def JZ(y:dV)(i:Int)(g:Nat->Int):Prop:=g 0=i/\((y.kind=3/\g 1=y.req/\g 2=y.node/\g 3=y.bH)\/(y.kind=4/\g 4=y.req/\g 1=y.of))
def iR(L:dR)(i:Int)(y:dV):Prop:=y.req≠0 /\ ∃ q,q<L.gn/\JZ y i (L.g q)
theorem FV{y:dV}{i:Int}{g:Nat->Int}(h:JZ y i g):ny i y.req g=true:=by
 rw[AO]
 obtain⟨b,⟨_,a,_⟩|⟨_,a,_⟩⟩:=h
 ·exact⟨b,.inl a⟩
 exact⟨b,.inr a⟩
section
variable {L:dR} {N:Nat} {v:EvM} {i:Int} {y z:dV}
theorem wD.new(k:Nat):wD (oK k 0).core i:=⟨fun _ h=>absurd h (Nat.not_lt_zero _),fun _ _ _ _ h=>absurd h (Nat.not_lt_zero _)⟩
theorem uQ(h:wD L i)(d:iR L i y) : ∃ q:Nat,tL L i y.req=(q:Int)/\JZ y i (L.g q):=by
 obtain⟨c,q,b,a⟩:=d
 unfold tL
 rcases gu (fun q=>ny i y.req (L.g q)) L.gn with ⟨k,f,e,j⟩|⟨_,hn⟩
 ·have:=h.u _ c k q f b j (FV a)
  subst this
  exact⟨k,e,a⟩
 have:=hn q b
 rw[FV a]at this; cases this
theorem D5(b:iR L i y):Lg y=true:=by
 obtain⟨a,q,_,_,c⟩:=b
 unfold Lg
 rw[decide_eq_false a]
 rcases c with ⟨e,_⟩|⟨e,_⟩
 ·rw[decide_eq_true e]; rfl
 rw[decide_eq_true e,Bool.or_true]; rfl
theorem AP(h:wD L i)(f:iR L i y):dn L i y=true/\fU L i y=0:=by
 obtain⟨q,e,g⟩:=uQ h f
 have d:dn L i y=true:=by
  unfold dn
  rw[D5 f,e,decide_eq_true (by omega:(0:Int)<=(q:Int))]; rfl
 refine⟨d,?_⟩
 unfold fU
 rw[if_pos d,e,if_pos]
 rw[Int.toNat_natCast]
 obtain⟨_,⟨a,b,c,j⟩|⟨a,b,c⟩⟩:=g
 ·unfold oQ
  rw[decide_eq_true a,decide_eq_true b,decide_eq_true c,decide_eq_true j]; rfl
 unfold mY
 rw[decide_eq_true a,decide_eq_true b,decide_eq_true c,Bool.or_eq_true]; exact .inr rfl
theorem Iy(h:wD L i)(d:iR L i y)(a:z.kind=y.kind)(hr:z.req=y.req)(ha:z.bH≠y.bH)(j:z.of≠y.of):dn L i z=true/\fU L i z=14:=by
 obtain⟨q,e,g⟩:=uQ h d
 have k:Lg z=true:=by have:=D5 d; unfold Lg at *; rw[a,hr]; exact this
 have c:dn L i z=true:=by
  unfold dn
  rw[k,hr,e,decide_eq_true (by omega:(0:Int)<=(q:Int))]; rfl
 refine⟨c,?_⟩
 unfold fU
 rw[if_pos c,hr,e,if_neg]
 rw[Int.toNat_natCast,Bool.or_eq_true]
 unfold oQ mY
 simp only[Bool.and_eq_true,decide_eq_true_eq]
 obtain⟨_,⟨b,l,f,m⟩|⟨b,l,f⟩⟩:=g
 ·rintro (⟨_,_,_,e4⟩|⟨e1,_⟩)
  ·exact ha (e4.symm.trans m)
  rw[a,b]at e1; exact absurd e1 (by decide)
 rintro (⟨e1,_⟩|⟨_,_,e3⟩)
 ·rw[a,b]at e1; exact absurd e1 (by decide)
 exact j (e3.symm.trans f)
attribute [local irreducible] fQ dK
theorem FW(h:wD L i)(G:v.o=i)(hr:1<=v.req)(A:mP L v=0):wD (iE L v) i/\(∀ w,iR L i w->iR (iE L v) i w) /\ ∃ q,q<(iE L v).gn/\(iE L v).g q=wV v:=by
 unfold mP at A
 split at A
 ·cases A
 rename_i c1
 have z:bD v=(i-1).toNat:=by unfold bD; rw[G]
 obtain⟨H,I⟩:=wB (L:=L) (a:=bD v) (r:=v.req) (iE L v) rfl rfl
 have D : ∀ j,j<L.gn -> ¬ ny i v.req (L.g j)=true:=fun j m e=>c1 (by
  obtain⟨q,f,d⟩:=h.a j m v.req (by omega) e
  unfold dR.rE
  rw[oP,z]
  exact⟨q,f,decide_eq_true d⟩)
 obtain⟨k,C⟩ : ∃ k,k=Fx.down (fun i=>E8 v (L.g i)) L.gn:=⟨_,rfl⟩
 have y:k<=L.gn:=by rw[C]; exact Fx.pI _ _
 have t:(iE L v).g=Fx.bT L.g k (wV v):=by rw[C]; rfl
 have x:(iE L v).gn=L.gn+1:=rfl
 have B : ∀ r,r≠0->ny i r (wV v)=true->r=v.req:=fun r b e=>by
  obtain⟨_,e|e⟩:=AO.1 e
  ·exact e.symm
  ·exact absurd e.symm b
 refine⟨⟨fun q f r b e => ?_,fun r b q p f s n d => ?_⟩,fun w ⟨b,q,f,F⟩=>⟨b,?_⟩,k,by rw[x]; omega,by rw[t,bK]⟩
 ·rw[x]at f
  rw[t]at e
  rw[<- z]
  rcases bX y f with rfl|⟨j,m,ej,_,_⟩
  ·rw[bK]at e; rw[B r b e]; exact I
  rw[ej]at e
  obtain hx:=h.a j m r b e
  rw[<- z]at hx
  exact H _ _ hx
 ·rw[x]at f s
  rw[t]at n d
  rcases bX y f with rfl|⟨j,m,ej,j1,j2⟩
  ·rw[bK]at n
   rcases bX y s with rfl|⟨j,m,ej,j1,j2⟩
   ·rfl
   rw[ej,B r b n]at d; exact absurd d (D j m)
  rw[ej]at n
  rcases bX y s with rfl|⟨l,hl,el,l1,l2⟩
  ·rw[bK]at d; rw[B r b d]at n; exact absurd n (D j m)
  rw[el]at d
  have:=h.u r b j l m hl n d
  subst this
  by_cases c:j<k
  ·rw[j1 c,l1 c]
  rw[j2 (by omega),l2 (by omega)]
 obtain⟨p,s,_,E⟩:=rR (k:=k) f
 exact⟨p,by rw[x]; exact s,by rw[t,E]; exact F⟩
theorem FX(h:wD L i)(G:v.o=i)(hr:1<=v.req)(s:nW L v=0):wD (eY L v) i/\(∀ w,iR L i w->iR (eY L v) i w) /\ ∃ q,q<(eY L v).gn/\(eY L v).g q 0=i/\(eY L v).g q 4=v.req/\(eY L v).g q 1=v.of:=by
 unfold nW at s
 split at s
 ·cases s
 rename_i c1
 split at s
 ·cases s
 rename_i c2
 have y:bD v=(i-1).toNat:=by unfold bD; rw[G]
 obtain⟨P,Q⟩:=wB (L:=L) (a:=bD v) (r:=v.req) (eY L v) rfl rfl
 have F : ∀ j,j<L.gn -> ¬ ny i v.req (L.g j)=true:=fun j K e=>c1 (by
  obtain⟨q,m,f⟩:=h.a j K v.req (by omega) e
  unfold dR.rE
  rw[oP,y]
  exact⟨q,m,decide_eq_true f⟩)
 have A : ¬ L.grant v.o v.of<0:=fun e=>c2 (.inl e)
 have B:L.g (vQ L v) 4=0:=Classical.byContradiction fun e=>c2 (.inr e)
 obtain⟨k,M,E,N,O⟩ : ∃ k,k<L.gn/\vQ L v=k/\L.g k 0=v.o/\L.g k 1=v.of:=by
  unfold vQ
  rcases gu (fun i=>decide (L.g i 0=v.o)&&decide (L.g i 1=v.of)) L.gn with ⟨k,t,e,l⟩|⟨e,_⟩
  ·rw[Bool.and_eq_true,decide_eq_true_iff,decide_eq_true_iff]at l
   exact⟨k,t,by unfold dR.grant; rw[e]; rfl,l.1,l.2⟩
  ·unfold dR.grant at A; rw[e]at A; omega
 rw[E]at B
 have D : ∀ q,(eY L v).g q=if q=k then bB (L.g k) 4 v.req else L.g q:=fun q=>by rw[<- E]; rfl
 have n : ∀ q p,p≠4->(eY L v).g q p=L.g q p:=fun q p l=>by
  rw[D]
  by_cases c:q=k
  ·subst c; rw[if_pos rfl]; unfold bB; rw[if_neg l]
  ·rw[if_neg c]
 have z : ∀ q,(eY L v).g q 4=if q=k then v.req else L.g q 4:=fun q=>by
  rw[D]
  by_cases c:q=k
  ·rw[if_pos c,if_pos c]; rfl
  ·rw[if_neg c,if_neg c]
 have R:(eY L v).gn=L.gn:=rfl
 -- what is hit now was hit,or is the new one
 have x : ∀ r,r≠0 -> ∀ q,ny i r ((eY L v).g q)=true->ny i r (L.g q)=true\/q=k/\r=v.req:=fun r d q e=>by
  rw[AO]at e ⊢
  rw[n q 0 (by decide),n q 1 (by decide),z q]at e
  obtain⟨C,b|b⟩:=e
  ·exact .inl ⟨C,.inl b⟩
  ·by_cases c:q=k
   ·rw[if_pos c]at b; exact .inr ⟨c,b.symm⟩
   ·rw[if_neg c]at b; exact .inl ⟨C,.inr b⟩
 refine⟨⟨fun q m r d e => ?_,fun r d q p m l b f => ?_⟩,fun w ⟨d,q,m,J⟩=>⟨d,q,m,?_⟩,k,M,by rw[n k 0 (by decide),N,G],by rw[z,if_pos rfl],by rw[n k 1 (by decide),O]⟩
 ·rw[<- y]
  rcases x r d q e with e|⟨_,rfl⟩
  ·have H:=h.a q m r d e
   rw[<- y]at H
   exact P _ _ H
  exact Q
 ·rcases x r d q b with b|⟨rfl,rfl⟩
  ·rcases x r d p f with f|⟨rfl,rfl⟩
   ·exact h.u r d q p m l b f
   exact absurd b (F q m)
  rcases x _ d p f with f|⟨rfl,_⟩
  ·exact absurd f (F p l)
  rfl
 obtain⟨I,t⟩:=J
 refine⟨by rw[n q 0 (by decide)]; exact I,?_⟩
 rw[n q 1 (by decide),n q 2 (by decide),n q 3 (by decide),z q]
 rcases t with t|⟨k2,k3,k4⟩
 ·exact .inl t
 refine .inr ⟨k2,?_,k4⟩
 rw[if_neg]
 ·exact k3
 rintro rfl
 exact d (k3.symm.trans B)
theorem AQ(c:dA L v=0):cZ v=true/\mQ L v=0:=by
 have a:=(UM (kZ c)).1
 refine⟨a,?_⟩
 unfold dA at c
 rw[if_neg (by rw[a]; decide)]at c
 split at c; · cases c
 split at c; · cases c
 split at c; · cases c
 exact c
theorem Iz(h:cZ v=true):iP v=true:=by
 unfold cZ at h
 rw[Bool.and_eq_true]at h
 exact h.2
theorem D6(h:cZ v=true)(a:v.kind=3\/v.kind=4):1<=v.req:=by
 have:=Iz h
 unfold iP at this
 rcases a with k|k
 ·rw[k,if_neg (by decide),if_neg (by decide),if_pos rfl,Bool.and_eq_true]at this
  exact of_decide_eq_true this.2
 rw[k,if_neg (by decide),if_neg (by decide),if_neg (by decide),if_pos rfl,Bool.and_eq_true,Bool.and_eq_true]at this
 exact of_decide_eq_true this.1.1
theorem wE(h:wD L i)(l:v.o=i):wD (dO L v) i/\(∀ w,iR L i w->iR (dO L v) i w):=by
 unfold dO
 by_cases c:dA L v=0
 ·rw[if_pos c]
  obtain⟨k,e⟩:=AQ c
  have f:wD (jQ L v) i/\(∀ w,iR L i w->iR (jQ L v) i w):=by
   unfold mQ at e
   unfold jQ
   by_cases m:v.kind=1
   ·rw[if_pos m]; exact⟨⟨h.a,h.u⟩,fun w d=>d⟩
   rw[if_neg m]at e ⊢
   by_cases n:v.kind=2
   ·rw[if_pos n]; exact⟨⟨h.a,h.u⟩,fun w d=>d⟩
   rw[if_neg n]at e ⊢
   by_cases g:v.kind=3
   ·rw[if_pos g]at e ⊢
    obtain⟨a,b,_⟩:=FW h l (D6 k (.inl g)) e
    exact⟨a,b⟩
   rw[if_neg g]at e ⊢
   by_cases j:v.kind=4
   ·rw[if_pos j]at e ⊢
    obtain⟨a,b,_⟩:=FX h l (D6 k (.inr j)) e
    exact⟨a,b⟩
   rw[if_neg j]
   split
   ·exact⟨⟨h.a,h.u⟩,fun w d=>d⟩
   split <;> exact⟨⟨h.a,h.u⟩,fun w d=>d⟩
  exact⟨⟨f.1.a,f.1.u⟩,fun w d=>f.2 w d⟩
 rw[if_neg c]; exact⟨h,fun w d=>d⟩
theorem AU(h:wD L i)(c:dA L v=0)(d:v.o=i)(l:y.kind=3\/y.kind=4)(b:v.kind=y.kind)(n:v.node=y.node)(p:v.bH=y.bH)(j:v.req=y.req)(r:v.of=y.of):iR (dO L v) i y:=by
 unfold dO
 rw[if_pos c]
 obtain⟨s,a⟩:=AQ c
 have m:=D6 s (by rw[b]; exact l)
 refine⟨by omega,?_⟩
 show ∃ q,q<(jQ L v).gn/\JZ y i ((jQ L v).g q)
 unfold mQ at a
 unfold jQ
 rcases l with k3|k4
 ·have k:v.kind=3:=b.trans k3
  rw[if_neg (by rw[k]; decide),if_neg (by rw[k]; decide),if_pos k]at a ⊢
  obtain⟨_,_,q,f,e⟩:=FW h d m a
  exact⟨q,f,by rw[e]; exact⟨d,.inl ⟨k3,j,n,p⟩⟩⟩
 have k:v.kind=4:=b.trans k4
 rw[if_neg (by rw[k]; decide),if_neg (by rw[k]; decide),if_neg (by rw[k]; decide),if_pos k]at a ⊢
 obtain⟨_,_,q,f,t,w,u⟩:=FX h d m a
 exact⟨q,f,t,.inr ⟨k4,w.trans j,u.trans r⟩⟩
end
end Rt
end Go.Proofs.YtcbedgfikejkoaaDoor
namespace Go.Proofs.YtcbedgfikejkoaaDoor
open Go.RowKit Rt
open Fx (eU dJ fu bf fq eZ dS dM fA gQ dH gT eP gD gU Lv sN Ln Ws Qv Wl Rp Wc Qs Wr Sb Lk Wk rC rV sR Rs Rn Rd Rk Wb Wx Wo yT Wt pE Aq Qn AX uo xL yB xJ AZ AY gG yR jM nT tC A8 yA yP xQ yQ rv aA aL bC aI ev bT Stp bU aM flat fH Mp dL aV fC gI aX down fM iU iM ji jv bG bA cells_one jO aY nE unseen jk iT cu bW cB bY bZ iB iG qP gV)
set_option maxRecDepth 20000
set_option linter.unusedVariables false
namespace Rt
theorem SV{x:dV}(a : ¬ x.req=0)(h:x.kind=3\/x.kind=4):Lg x=true:=by
 unfold Lg; rw[decide_eq_false a]
 rcases h with h|h
 ·rw[decide_eq_true h]; rfl
 rw[decide_eq_true h,Bool.or_true]; rfl
theorem CK{L:dR}{i:Int}{x:dV}(h:x.req=0 \/ ¬ x.kind=3 /\ ¬ x.kind=4):dn L i x=false/\fU L i x=0:=by
 have:dn L i x=false:=by
  unfold dn Lg
  rcases h with h|⟨h1,h2⟩
  ·rw[decide_eq_true h]; rfl
  ·rw[decide_eq_false h1,decide_eq_false h2,Bool.or_false,Bool.and_false]; rfl
 exact⟨this,by unfold fU; rw[this]; rfl⟩
theorem D7{L:dR}{i:Int}{x:dV}(h:tL L i x.req<0):dn L i x=false/\fU L i x=0:=by
 have:dn L i x=false:=by unfold dn; rw[decide_eq_false (by omega),Bool.and_false]
 exact⟨this,by unfold fU; rw[this]; rfl⟩
theorem WI{L:dR}{i r:Int}(h : ¬ tL L i r<0) : ∃ j:Nat,j<L.gn/\tL L i r=(j:Int):=by
 unfold tL at h ⊢
 rcases gu (fun q=>ny i r (L.g q)) L.gn with ⟨k,a,e,_⟩|⟨e,_⟩
 ·exact⟨k,a,e⟩
 rw[e]at h; exact absurd (by decide) h
theorem uR{L:dR}{i:Int}{x:dV}{j:Nat}(a:Lg x=true)(e:tL L i x.req=(j:Int)):dn L i x=true/\fU L i x=if(oQ x (L.g j) || mY x (L.g j))=true then 0 else 14:=by
 have:dn L i x=true:=by unfold dn; rw[a,e,decide_eq_true (by omega)]; rfl
 exact⟨this,by unfold fU; rw[this,if_pos rfl,e]; rfl⟩
end Rt
theorem SX(g:Nat->Int)(i:Int)(x:dV)(w:World)(l:Nat)(f:Nat)(hi:aL w l 1 (fun _=>au i) 3)(ha:aL w f 6 (dQ x) 37) :
 Calls Tryd.prog 23 #[.agg (aA 5 (jP g)),(pt l),(pt f)] w fun e w'=>e = .returned (.bool (ny i x.req g))/\Below w.heap.size w w':=by
 have r:=hi.lt
 have q:=ha.lt
 refine Kent Tryd.func23 23 ?_
 refine ay<|sG fun j v k h o y => ?_
 have⟨n,m,b⟩:=jI o.old hi ha (Below.refl w.heap.size w)
 have p:=gY k
 have⟨s,t⟩:=ow k hi.lt ha.lt
 have u:=h.lt
 refine av aF<|aD<|ay<|av ((pt j))<|Lv (au (g 0)) (aP h.aJ 0)<|Lv (au i) (aP n.aJ 0) ?_
 by_cases a:(g 0)=i
 ·refine Lv aG (gH a)<|av aG<|av ((pf j 1))<|Lv (aC (g 1)) (aP h.aJ 1)<|av ((pf f 4))<|Lv (aC x.req) (aP m.aJ 4) ?_
  by_cases c:(g 1)=x.req
  ·refine Lv aG (gH c)<|av aG<|cO<|cO<|cO<|cO<|cO<|av aG<|av aG<|av aG<|aD<|Wr<|aN aG ?_
   exact⟨mK (Eq.symm (by unfold ny; rw[decide_eq_true a,decide_eq_true c]; rfl)),b⟩
  refine Lv aF (iW c)<|av aF<|av ((pf j 4))<|Lv (aC (g 4)) (aP h.aJ 4)<|av ((pf f 4))<|Lv (aC x.req) (aP m.aJ 4) ?_
  by_cases d:(g 4)=x.req
  ·refine Lv aG (gH d)<|av aG<|av aG<|av aG<|aD<|Wr<|aN aG ?_
   exact⟨mK (Eq.symm (by unfold ny; rw[decide_eq_true a,decide_eq_true d,Bool.or_true]; rfl)),b⟩
  refine Lv aF (iW d)<|av aF<|av aF<|av aF<|aD<|Wr<|aN aF ?_
  exact⟨mK (Eq.symm (by unfold ny; rw[decide_eq_true a,decide_eq_false c,decide_eq_false d]; rfl)),b⟩
 refine Lv aF (iW a)<|av aF<|cO<|cO<|cO<|cO<|cO<|cO<|cO<|cO<|cO<|cO<|cO<|cO<|av aF<|av aF<|aD<|Wr<|aN aF ?_
 exact⟨mK (Eq.symm (by unfold ny; rw[decide_eq_false a]; rfl)),b⟩
theorem Rt.IB{P:Nat->Bool}{k:Nat}(h : ∀ p,p<k->P p=false)(a:P k=false) : ∀ p,p<k+1->P p=false:=fun p b=>by
 by_cases e:p=k
 ·rw[e]; exact a
 ·exact h p (by omega)
theorem Ze(a:Option Addr)(n cap:Nat)(g:Nat->Nat->Int)(i:Int)(x:dV)(w:World)(H:jv w a n 5 (flat 5 (fun J=>jP (g J))))(Q:n<=1000000)(c:Nat)(b:Nat)(hi:aL w c 1 (fun _=>au i) 3)(ha:aL w b 6 (dQ x) 37) :
 Calls Tryd.prog 22 #[.slice a (n) (cap),.func (.func 23) #[] #[(pt c),(pt b)]] w fun e w'=>e = .returned (au (fE (fun p=>ny i x.req (g p)) n))/\Below w.heap.size w w':=by
 have V:=hi.lt
 have U:=ha.lt
 refine Kent Tryd.func22 19 ?_
 refine ay<|av (au 0)<|aD<|Ws<|ay<|av (.slice a (n) (cap))<|av (au n)<|av (au 0)<|aD<|Wb<|Wo (fun f u => ∃ k:Nat,k<=n/\(∀ p,p<k->(fun p=>ny i x.req (g p)) p=false)/\f 0 = .slice a (n) (cap)/\f 1 = .func (.func 23) #[] #[(pt c),(pt b)]/\f 7=au ((n:Int))/\f 8=au ((k:Int))/\aL u c 1 (fun _=>au i) 3/\aL u b 6 (dQ x) 37/\Below w.heap.size w u) (fun f _=>(n-(intOf (f 8)).toNat)) ⟨0,by omega,(fun p h=>absurd h (by omega)),(by rfl),(by rfl),Fx.ic,Fx.ic,hi,ha,(Below.refl w.heap.size w)⟩ ?_
 rintro O N ⟨k,P,r,z,A,o,j,s,t,m⟩
 refine ay ?_
 by_cases y:(k:Int)<(n:Int)
 ·refine Lv aG (jU y (hx:=j) (hy:=o))<|aD<|Ws<|aQ<|Wk<|sN<|Ws<|Wb<|ay<|aS j<|av (au k)<|aD<|ay<|aS A<|aS z<|av (au k) ?_
  obtain⟨v,M,E,B⟩:=(H.up m rfl) (by omega)
  have T:v<N.heap.size:=B.lt (by omega)
  refine Lv ((pf v (5*k+M))) (dw 5 (hx:=(rfl.trans (congrArg (fun q=>Value.slice q (n) (cap)) E))))<|Lv (.agg (aA 5 (jP (g k)))) (gW B (5*k) (fun S I=>Fx.jG (k:=k) (by omega) I)) ?_
  by_cases d:(ny i x.req (g k))=true
  ·refine uo (by rfl) (Fx.vg (args := [.agg (aA 5 (jP (g k)))]) rfl rfl rfl (all := #[.agg (aA 5 (jP (g k))),(pt c),(pt b)]) rfl Tryd.func23 rfl rfl) rfl<|(SX (g k) i x _ c b s t).mono ?_
   rintro e W ⟨l,F⟩
   refine⟨.bool true,by rw[l,d],?_⟩
   clear l
   have C:=aR F m
   refine aD<|aQ<|ay<|av (au k)<|av (au k)<|aD<|Wr<|bW<|sR<|qP<|bW<|sR<|aN (au k) ?_
   exact⟨KrI (Eq.symm (Aa r d (by omega))),C⟩
  rw[Bool.not_eq_true]at d
  refine uo (by rfl) (Fx.vg (args := [.agg (aA 5 (jP (g k)))]) rfl rfl rfl (all := #[.agg (aA 5 (jP (g k))),(pt c),(pt b)]) rfl Tryd.func23 rfl rfl) rfl<|(SX (g k) i x _ c b s t).mono ?_
  rintro e X ⟨l,G⟩
  refine⟨.bool false,by rw[l,d],?_⟩
  clear l
  have⟨K,L,D⟩:=jI G s t m
  refine aD<|aK<|Wk<|cB<|sN<|Wl<|Lv (au ((k:Int)+1)) (fZ (hx:=j))<|av (au ((k:Int)+1))<|Ln<|iG ⟨k+1,by omega,(IB r (by simpa using d)),z,A,(o.trans Fx.ic),Fx.ic,K,L,D⟩ ?_
  show(n-(intOf ((au ((k:Int)+1)))).toNat)<_
  simp only[j,intOf]; omega
 refine Lv aF (jV y (hx:=j) (hy:=o))<|aD<|Ws<|aK<|Wx<|bY<|iB<|bZ<|sN<|ay<|av (au (-1))<|aD<|Wr<|aN (au (-1)) ?_
 exact⟨KrI (Eq.symm (rD (fun p R=>r p (by omega)))),m⟩
theorem Rm(L:dR)(X l:Option Addr)(Y m:Nat)(i:Int)(x:dV)(w:World)(hga:jv w l L.gn 5 (flat 5 (Io L)))(hgn:L.gn<=1000000) :
 Calls Tryd.prog 11 #[.agg (aA 20 (lZ (yw L X Y l m))),au i,.agg (aA 6 (dQ x))] w fun e w'=>e = .returned (.tuple #[.bool (dn L i x),au (fU L i x)])/\Below w.heap.size w w':=by
 refine Kent Tryd.func11 83 ?_
 refine ay<|sG fun y w1 nk m1 s1 z1 => ?_
 have b1:=aR s1.old (Below.refl w.heap.size w)
 have wF:=gY nk
 have wQ:=m1.lt
 refine qE (au i) fun r w2 uW m2 s2 z2 => ?_
 have⟨m3,b2⟩:=iA s2.old m1 b1
 have yH:=gM uW b1.size
 have Y3:=bR uW m1.lt
 have Ba:=m2.lt
 refine sG fun a w3 Ak B s3 z3 => ?_
 have⟨m5,m6,N⟩:=jI s3.old m3 m2 b2
 have EB:=gM Ak b2.size
 have⟨YL,ags⟩:=ow Ak m3.lt m2.lt
 have Ga:=B.lt
 refine av aF<|av (au 0)<|aD<|xQ (fun f b=>Lg x=true/\f 3=(pt y)/\f 4=(pt r)/\f 5=(pt a)/\aL b y 20 (lZ (yw L X Y l m)) 43/\aL b r 1 (fun _=>au i) 3/\aL b a 6 (dQ x) 37/\Below w.heap.size w b) ?_ ?_
 ·refine ay<|av ((pf a 4))<|Lv (aC x.req) (aP B.aJ 4) ?_
  by_cases t:x.req=0
  ·refine Lv aG (gH t)<|av aG<|cO<|cO<|cO<|cO<|cO<|cO<|cO<|cO<|av aG<|aD<|aQ<|ay<|av aF<|av (au 0)<|aD<|Wr<|Fx.jnR<|aN (.tuple #[.bool false,au 0]) ?_
   exact⟨by rw[(CK (.inl t)).1,(CK (.inl t)).2],N⟩
  refine Lv aF (iW t)<|av aF<|av ((pt a))<|Lv (.int .u8 (x.kind)) (aP B.aJ 0) ?_
  by_cases D:x.kind=3
  ·refine Lv aF (kW D)<|av aF<|cO<|cO<|cO<|av aF<|av aF<|aD<|aK<|Wk ?_
   exact nE ⟨(SV t (.inl D)),(by rfl),(by rfl),(by rfl),m5,m6,B,N⟩
  refine Lv aG (qV D)<|av aG<|av ((pt a))<|Lv (.int .u8 (x.kind)) (aP B.aJ 0) ?_
  by_cases E:x.kind=4
  ·refine Lv aF (kW E)<|av aF<|av aF<|aD<|aK<|Wk ?_
   exact nE ⟨(SV t (.inr E)),(by rfl),(by rfl),(by rfl),m5,m6,B,N⟩
  refine Lv aG (qV E)<|av aG<|av aG<|aD<|aQ<|ay<|av aF<|av (au 0)<|aD<|Wr<|Fx.jnR<|aN (.tuple #[.bool false,au 0]) ?_
  exact⟨by rw[(CK (.inr ⟨D,E⟩)).1,(CK (.inr ⟨D,E⟩)).2],N⟩
 rintro f1 w4 ⟨z,h1,S,d,m7,m8,m9,b4⟩
 refine ay<|Lv ((pf y 19)) (xO h1 19)<|Lv (.slice l (L.gn) (m)) (aP m7.aJ 19)<|Lv (.func (.func 23) #[] #[(pt r),(pt a)]) (Fx.jl (us := []) (vs := [(pt r),(pt a)]) rfl rfl (Fx.args2 S d))<|fB ((Ze l L.gn m L.g i x _ (hga.up b4 rfl) hgn r a m8 m9).mono (fun e w2 S=>(⟨S.1,S.2⟩:e = .returned (au (tL L i x.req))/\_))) _ rfl ?_
 intro w5 hb1
 have⟨m10,m11,m12,O⟩:=iH hb1 m7 m8 m9 b4
 refine av (au (tL L i x.req))<|aD<|Ws<|ay<|av (au (tL L i x.req)) ?_
 by_cases F:(tL L i x.req)<0
 ·refine Lv aG (jU F)<|aD<|aQ<|ay<|av aF<|av (au 0)<|aD<|Wr<|sR<|aN (.tuple #[.bool false,au 0]) ?_
  exact⟨by rw[(D7 F).1,(D7 F).2],O⟩
 refine Lv aF (jV F)<|aD<|aK<|Wk<|sN<|Ws ?_
 obtain⟨j,hj,p⟩:=WI F
 refine Wl<|Lv ((pf y 19)) (xO h1 19)<|Lv (.slice l (L.gn) (m)) (aP m10.aJ 19)<|aS (congrArg (Value.int .i64) p) ?_
 obtain⟨aa,Y4,eq1,U⟩:=(hga.up O rfl) (by omega)
 have Y5:aa<w5.heap.size:=U.lt (by omega)
 refine Lv ((pf aa (5*j+Y4))) (dw 5 (hx:=(rfl.trans (congrArg (fun q=>Value.slice q (L.gn) (m)) eq1))))<|Lv (.agg (aA 5 (Io L j))) (gW U (5*j) (fun jq hjq=>Fx.jG (k:=j) (by omega) hjq))<|lM 5 (fun zq=>if zq<1 then au 0 else if zq<3 then aC 0 else if zq<4 then au 0 else aC 0) fun c w6 ab m14 s5 z4 => ?_
 have⟨m15,m16,m17,m18,b6⟩:=lV s5.old m10 m11 m12 U O
 have KN:=gM ab O.size
 have⟨OH,Ig,O4⟩:=Bf ab m10.lt m11.lt m12.lt
 have O5:aa≠c:=by rw[ab]; exact Nat.ne_of_lt (U.lt (by omega))
 have Js:=m14.lt
 refine eX m14 0 (h1:=(fun j _=>ze _ j)) fun w7 m19 s6 z5 => ?_
 have n:aL w7 c 5 (Io L j) 72:=aM m19
 have iq:=gG s6 m14.ty
 have⟨K,M,h⟩:=zI iq m15 m16 m17
 have m24:=m18.eG s6 (by omega)
 have C:=s6.below b6 b6.size (by omega)
 refine aD<|xQ (fun f b=>f 5=(pt a)/\f 9=(pt c)/\f 10 = .bool ((oQ x (L.g j)))/\aL b y 20 (lZ (yw L X Y l m)) 43/\aL b r 1 (fun _=>au i) 3/\aL b a 6 (dQ x) 37/\aL b c 5 (Io L j) 72/\Below w.heap.size w b) ?_ ?_
 ·refine Wl<|Lv ((pt a)) (xO d 0)<|Lv (.int .u8 (x.kind)) (aP h.aJ 0) ?_
  by_cases o:x.kind=3
  ·refine Lv aG (gH o)<|av aG<|av ((pf c 1))<|Lv (aC (L.g j 1)) (aP n.aJ 1)<|Lv ((pf a 4)) (xO d 4)<|Lv (aC x.req) (aP h.aJ 4) ?_
   by_cases u:(L.g j 1)=x.req
   ·refine Lv aG (gH u)<|av aG<|av aG<|av ((pf c 2))<|Lv (aC (L.g j 2)) (aP n.aJ 2)<|Lv ((pf a 1)) (xO d 1)<|Lv (aC x.node) (aP h.aJ 1) ?_
    by_cases G:(L.g j 2)=x.node
    ·refine Lv aG (gH G)<|av aG<|av aG<|av ((pf c 3))<|Lv (au (L.g j 3)) (aP n.aJ 3)<|Lv ((pf a 3)) (xO d 3)<|Lv (au x.bH) (aP h.aJ 3) ?_
     by_cases Q:(L.g j 3)=x.bH
     ·refine Lv aG (gH Q)<|av aG<|av aG<|Ln ?_
      exact nE ⟨d,(by rfl),(congrArg Value.bool (by unfold oQ; rw[decide_eq_true o,decide_eq_true u,decide_eq_true G,decide_eq_true Q]; rfl)),K,M,h,n,C⟩
     refine Lv aF (iW Q)<|av aF<|av aF<|Ln ?_
     exact nE ⟨d,(by rfl),(congrArg Value.bool (by unfold oQ; rw[decide_eq_true o,decide_eq_true u,decide_eq_true G,decide_eq_false Q]; rfl)),K,M,h,n,C⟩
    refine Lv aF (iW G)<|av aF<|av aF<|cO<|cO<|cO<|cO<|cO<|av aF<|av aF<|Ln ?_
    exact nE ⟨d,(by rfl),(congrArg Value.bool (by unfold oQ; rw[decide_eq_true o,decide_eq_true u,decide_eq_false G]; rfl)),K,M,h,n,C⟩
   refine Lv aF (iW u)<|av aF<|av aF<|cO<|cO<|cO<|cO<|cO<|av aF<|av aF<|cO<|cO<|cO<|cO<|cO<|av aF<|av aF<|Ln ?_
   exact nE ⟨d,(by rfl),(congrArg Value.bool (by unfold oQ; rw[decide_eq_true o,decide_eq_false u]; rfl)),K,M,h,n,C⟩
  refine Lv aF (iW o)<|av aF<|cO<|cO<|cO<|cO<|cO<|av aF<|av aF<|cO<|cO<|cO<|cO<|cO<|av aF<|av aF<|cO<|cO<|cO<|cO<|cO<|av aF<|av aF<|Ln ?_
  exact nE ⟨d,(by rfl),(congrArg Value.bool (by unfold oQ; rw[decide_eq_false o]; rfl)),K,M,h,n,C⟩
 rintro f2 w8 ⟨h4,h5,T,V,W,s,A,P⟩
 refine xQ (fun f b=>f 10 = .bool ((oQ x (L.g j)))/\f 11 = .bool ((mY x (L.g j)))/\aL b y 20 (lZ (yw L X Y l m)) 43/\aL b r 1 (fun _=>au i) 3/\aL b a 6 (dQ x) 37/\aL b c 5 (Io L j) 72/\Below w.heap.size w b) ?_ ?_
 ·refine Wl<|Lv ((pt a)) (xO h4 0)<|Lv (.int .u8 (x.kind)) (aP s.aJ 0) ?_
  by_cases v:x.kind=4
  ·refine Lv aG (gH v)<|av aG<|Lv ((pf c 4)) (xO h5 4)<|Lv (aC (L.g j 4)) (aP A.aJ 4)<|Lv ((pf a 4)) (xO h4 4)<|Lv (aC x.req) (aP s.aJ 4) ?_
   by_cases H:(L.g j 4)=x.req
   ·refine Lv aG (gH H)<|av aG<|av aG<|Lv ((pf c 1)) (xO h5 1)<|Lv (aC (L.g j 1)) (aP A.aJ 1)<|Lv ((pf a 5)) (xO h4 5)<|Lv (aC x.of) (aP s.aJ 5) ?_
    by_cases R:(L.g j 1)=x.of
    ·refine Lv aG (gH R)<|av aG<|av aG<|Ln ?_
     exact nE ⟨T,(congrArg Value.bool (by unfold mY; rw[decide_eq_true v,decide_eq_true H,decide_eq_true R]; rfl)),V,W,s,A,P⟩
    refine Lv aF (iW R)<|av aF<|av aF<|Ln ?_
    exact nE ⟨T,(congrArg Value.bool (by unfold mY; rw[decide_eq_true v,decide_eq_true H,decide_eq_false R]; rfl)),V,W,s,A,P⟩
   refine Lv aF (iW H)<|av aF<|av aF<|cO<|cO<|cO<|cO<|cO<|av aF<|av aF<|Ln ?_
   exact nE ⟨T,(congrArg Value.bool (by unfold mY; rw[decide_eq_true v,decide_eq_false H]; rfl)),V,W,s,A,P⟩
  refine Lv aF (iW v)<|av aF<|cO<|cO<|cO<|cO<|cO<|av aF<|av aF<|cO<|cO<|cO<|cO<|cO<|av aF<|av aF<|Ln ?_
  exact nE ⟨T,(congrArg Value.bool (by unfold mY; rw[decide_eq_false v]; rfl)),V,W,s,A,P⟩
 rintro f3 w9 ⟨h7,h8,qZ,tH,lJ,m32,Z⟩
 refine Ws<|ay ?_
 by_cases I:(oQ x (L.g j))=true
 ·refine aS (h7.trans (congrArg Value.bool I))<|av aF<|av aF<|cO<|cO<|av aF<|aD<|aK<|Wk<|sN<|ay<|av aG<|av (au 0)<|aD<|Wr<|aN (.tuple #[.bool true,au 0]) ?_
  exact⟨by rw[(uR z p).1,(uR z p).2,if_pos (by rw[I]; rfl)],Z⟩
 rw[Bool.not_eq_true]at I
 refine aS (h7.trans (congrArg Value.bool I))<|av aG<|av aG ?_
 by_cases J:(mY x (L.g j))=true
 ·refine aS (h8.trans (congrArg Value.bool J))<|av aF<|av aF<|aD<|aK<|Wk<|sN<|ay<|av aG<|av (au 0)<|aD<|Wr<|aN (.tuple #[.bool true,au 0]) ?_
  exact⟨by rw[(uR z p).1,(uR z p).2,if_pos (by rw[J,Bool.or_true])],Z⟩
 rw[Bool.not_eq_true]at J
 refine aS (h8.trans (congrArg Value.bool J))<|av aG<|av aG<|aD<|aQ<|ay<|av aG<|av (au 14)<|aD<|Wr<|sR<|aN (.tuple #[.bool true,au 14]) ?_
 exact⟨by rw[(uR z p).1,(uR z p).2,if_neg (by rw[I,J]; decide)],Z⟩
end Go.Proofs.YtcbedgfikejkoaaDoor
