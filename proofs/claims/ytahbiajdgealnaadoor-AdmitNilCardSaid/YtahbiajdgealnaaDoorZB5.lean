/-
  What the proof of the law rests on, part 5: walks of functions, and plain laws; each says its conditions itself.
-/
import Derived.Deep.Slices
import Derived.Lib.SmallJoins
import Derived.ChangeArms
import Derived.Test.YtahbiajdgealnaaDoorRows
import Derived.LaidMore
import Derived.OpenShut
import Derived.ProofKit
import Derived.Stop.Joined
import Derived.Test.YtahbiajdgealnaaDoorZB4
set_option maxHeartbeats 1600000
set_option linter.unusedVariables false
set_option linter.unusedSimpArgs false
namespace Go.Proofs.YtahbiajdgealnaaDoor
open Go.RowKit Rt
open Fx (eY dN fJ bC fI fH eO dS fK iq dY iw fq gT iy Lv sN Ln Ws Qv Wl Rp Wc Qs Wr Sb Lk Wk rC rV sR Rs Rn Rd Rk Wb Wx Wo Ab Wt qM EP Qn Ba uY Bc BF yw Bb DL jw Dt jl qh rQ DX Bd Dr BU Bf rv aC aK dn aH ev bQ Stp bS aS flat gu Mp dH bB fC gF bO down fG iR jr kZ dG bY cells_one jm bP xV unseen jv jE cO bU dA cZ dh gX iP rA iD)
set_option maxRecDepth 20000
set_option linter.unusedVariables false
namespace Rt
def jk(m:dz)(o r:Int):Bool:=yI m.ao m.ar m.an o r
def A8(m:dz)(o r:Int):Bool:=yI (fun i=>m.g i 0) (fun i=>m.g i 1) m.gn o r
def kU(m:dz)(o r:Int):Nat:=Nk (fun i=>m.g i 0) (fun i=>m.g i 1) m.gn o r
noncomputable def Lj(m:dz)(v:EvM):dz:=mo m (fun x=>bK x v.o v.bI) (m.T.path v.node)
def jH(m:dz)(v:EvM):Int:=if jk m v.o v.req=true then 14 else if m.T.has v.node=false then 9 else bM m (fun x=>bK x v.o v.bI) (m.T.path v.node)
noncomputable def pJ(m:dz)(v:EvM):dz:=Lg m (Lj m v).R v
noncomputable def Ll(m:dz)(v:EvM):dz:=mo m (fun x=>bF x v.o (m.g (kU m v.o v.of) 3)) (m.T.path (m.g (kU m v.o v.of) 2))
def iN(m:dz)(v:EvM):Int:=if jk m v.o v.req=true then 14 else if A8 m v.o v.of=false\/m.g (kU m v.o v.of) 4≠0 then 12 else bM m (fun x=>bF x v.o (m.g (kU m v.o v.of) 3)) (m.T.path (m.g (kU m v.o v.of) 2))
noncomputable def nM(m:dz)(v:EvM):dz:=Gd m (Ll m v).R v (kU m v.o v.of)
def RQ(m:dz):Prop := ∀ i,i<m.gn->jk m (m.g i 0) (m.g i 1)=true
end Rt
theorem Fx.UJ{f:Nat->Value}{x1 x2 e g h i:Operand}{v1 v2 a b c d:Value}(h1:ev f x1=v1)(j:ev f x2=v2)(k:ev f e=a)(l:ev f g=b)(m:ev f h=c)(n:ev f i=d) : [x1,x2,e,g,h,i].map (ev f) = [v1,v2,a,b,c,d]:=by rw[List.map_cons,h1,Fx.SI j k l m n]
theorem Kq.up{w w':World}{B lp a b:Nat}{m d:dz}{c:Value}{cap:Array Value}(h:Kq w B lp m d a c b cap)(e:Below w.heap.size w w'):Kq w' B lp m d a c b cap := { h with s:=fun g f=>h.s g (Bt e f) }
instance {w w':World} {B lp a c:Nat} {m e:dz} {d:Value} {cap:Array Value}:Rt.Tr w w' (Kq w B lp m e a d c cap) (Kq w' B lp m e a d c cap):=⟨fun b h=>h.up b⟩
theorem Np(m:dz)(lp B:Nat)(w:World)(h:gZ w B lp m)(v:EvM)(L:bX v=true)(hwf:jc v)(hga:RQ m) :
 Calls Tryd.prog 147 #[(pt lp),.agg (aC 14 (dJ v))] w fun e w'=>Ie w B lp m (pJ m v) (jH m v) e w':=by
 have hC:=h.c
 have hT:=h.t
 have hP:=h.p
 have hR:=h.r
 have hG:=h.g
 have hA:=h.a
 have hN:=h.ne
 have lC:=h.c.lt
 have lT:=h.t.lt
 have lP:=h.p.lt
 have lR:=h.r.lt
 have lG:=h.g.lt
 have lA:=h.a.lt
 obtain⟨a,ha,ho⟩ : ∃ a:Nat,a<6/\v.o=(a:Int)+1:=dO (gN L)
 have hra:bA v=a:=by unfold bA; omega
 have hko:=wh L hwf
 have X8:1<=v.o/\v.o<=6:=by omega
 refine Kent Tryd.func147 40 ?_
 refine ay<|nZ ((pt lp)) fun A w1 rF M s1 z1 => ?_
 have⟨m2,m3,m4,m5,m6,m7,U⟩:=DY s1.old hC hT hP hR hG hA (Below.refl w.heap.size w)
 have xW:=gP rF
 have⟨mJ,qK,uP,uQ,uR⟩:=tC rF hC.lt hP.lt hR.lt hG.lt hA.lt
 have yC:=M.lt
 refine rR fun d w2 zy C s2 z2 => ?_
 have⟨m9,m10,m11,m12,m13,m14,m15,V⟩:=BK s2.old m2 m3 m4 m5 m6 m7 M U
 have Bo:=iT zy U.size
 have⟨F5,xI,AU,xJ,xK,tQ⟩:=BL zy m2.lt m4.lt m5.lt m6.lt m7.lt M.lt
 have Dy:=C.lt
 refine av (.nilFunc)<|av (au 0)<|aD<|ay<|av ((pt d))<|Lv (au v.o) (aP C.aM 0)<|av ((pf d 12))<|Lv (aA v.req) (aP C.aM 12)<|av (.agg (aC 2 (dn (dn (fun n=>if n<1 then au 0 else aA 0) 0 1 (fun _=>au v.o)) 1 1 (fun _=>aA v.req))))<|oo 2 (fun n=>if n<1 then au 0 else aA 0) fun k w3 F6 N s3 z3 => ?_
 have⟨m17,m18,m19,m20,m21,m22,m23,m24,W⟩:=zZ s3.old m9 m10 m11 m12 m13 m14 m15 C V
 have I6:=iT F6 V.size
 have⟨X9,RF,Ya,Lc,RG,Ld,Le⟩:=D5 F6 m9.lt m11.lt m12.lt m13.lt m14.lt m15.lt C.lt
 have KD:=N.lt
 refine gU N 0 (h1:=(bP (bP (fun jq _=>by show((fun n=>if n<1 then au 0 else aA 0:Nat->Value) jq).oneCell'=true; simp only[]; repeat (first|rfl|split)) (fun _ _=>rfl)) (fun _ _=>rfl))) fun w4 rG s4 z4 => ?_
 have rY:aK w4 k 2 (dn (dn (fun n=>if n<1 then au 0 else aA 0) 0 1 (fun _=>au v.o)) 1 1 (fun _=>aA v.req)) 102:=aS rG
 have tL:aK w4 k 2 (yt v.o v.req) 102:=RO (Fx.rO (by omega) (Fx.lV (j:=0) (by omega) (by omega) rfl)) (Fx.lV (j:=0) (by omega) (by omega) rfl) rY
 have iZ:=jw s4 N.ty
 have⟨vO,wR,yD,oq,m32,qE,ou,sU⟩:=VT iZ m17 m18 m19 m20 m21 m22 m23 m24
 have b4:=s4.below W W.size (by omega)
 refine aD<|Ws<|Ws ?_
 -- region 2 draws
 refine jy [0,1,2,3,4,5] [4,0,0,4,4,4] [] fun rE gL ig => ?_
 have⟨uH,Ag,wS,tN,yV,O,xX,sV,uI,X⟩:=oG gL vO wR yD oq m32 qE ou sU tL b4
 refine Rs ((pt lp)) (aP xX.aM 0) ?_
 refine aY ((pt lp))<|aY ((pf lp 28))<|Rs (.map (some m.ab)) (aP uH.aM 28) ?_
 refine Rs (.agg (aC 2 (yt v.o v.req))) (kg uI.aM 0) ?_
 rcases Fx.oH m.ao m.ar m.an v.o v.req with ⟨KV,uS,uT,Dc⟩|fE
 ·refine Rs aI (Fx.BQ (z := .bool false) rfl rfl ((show ev _ _ = .agg (aC 2 (yt v.o v.req))from rfl).trans (Fx.qA (y:=yt v.o v.req) (a:=v.o) (b:=v.req) rfl rfl)) hko.1 O Tryd.underlying90 yH (by rfl) uS uT Dc rfl) ?_
  refine bD<|aT<|ay<|av (.nilFunc)<|av (au 14)<|aD<|Wr<|sR<|aL (.tuple #[.nilFunc,au 14]) ?_
  have f:jH m v=14:=by unfold jH; exact if_pos (sO uS uT Dc)
  exact⟨⟨.nilFunc,0,#[],by rw[f],rfl,fun u=>absurd (f.symm.trans u) (by first|decide|omega|assumption)⟩,X⟩
 refine Rs aF (Fx.BP (z := .bool false) rfl rfl ((show ev _ _ = .agg (aC 2 (yt v.o v.req))from rfl).trans (Fx.qA (y:=yt v.o v.req) (a:=v.o) (b:=v.req) rfl rfl)) hko.1 O Tryd.underlying90 yH (by rfl) fE) ?_
 refine bD<|aN<|Wk<|sN<|Ws<|Ws ?_
 -- region 4 draws
 refine jy [4,0,1,2,3,5,6,7] [4,0,0,4,0,4,3,0] [(6,0,[3,2,1,0]),(6,3,[3]),(6,5,[5]),(7,6,[6])] fun Dv kM oK => ?_
 have⟨wT,uJ,wU,Ec,xY,xZ,P,F,wV,H⟩:=oG kM uH Ag wS tN yV O xX sV uI X
 refine aY ((pf d 9))<|Rs ((pt lp)) (aP P.aM 0) ?_
 refine aY ((pt lp))<|aY ((pf lp 18))<|Rs ((pt m.tp)) (aP wT.aM 18) ?_
 refine Rs (aA v.node) (aP F.aM 9) ?_
 refine fU ?_
 by_cases q:(bW.has m.T v.node)=true
 ·refine qj (OB v.node uJ) aI (by rw[q])<|Ln<|aY aF<|bD<|aN<|Wk<|sN<|ay<|Lv ((pt lp)) (aP P.aM 0)<|av ((pf d 9))<|Lv (aA v.node) (aP F.aM 9)<|Lv (.func (.func 158) #[] #[(pt d)]) (Fx.iK (us := []) (vs := [(pt d)]) rfl rfl rfl)<|jT (La m lp B _ (h.up H) v.node v X8 d F) ?_
  rintro e9 G ⟨⟨E,fi1,GK,he,ho1,hD1⟩,hb1⟩
  refine⟨_,he,?_⟩
  clear he
  have⟨Ci,vw,rZ,vP,Bj,qF,yE,qG,Y⟩:=zZ hb1 wT wU Ec xY xZ P F wV H
  have aa:Bw G G:=⟨Below.refl _ _⟩
  refine av (.tuple #[E,au (bM m (fun x=>bK x v.o v.bI) (m.T.path (v.node)))])<|av (E)<|av (au (bM m (fun x=>bK x v.o v.bI) (m.T.path (v.node))))<|oo 1 (fun _ => .nilFunc) fun l w6 J Q s8 z5 => ?_
  have⟨Bn,wW,Ai,yG,Z⟩:=ql s8.old qF yE qG aa Y
  have MX:=iT J Y.size
  have⟨Yb,QX,QY,QZ,Q0,Q5,Yc,Q6⟩:=Mr J Ci.lt vw.lt rZ.lt vP.lt Bj.lt qF.lt yE.lt qG.lt
  have L8:=Q.lt
  have kg4:G.heap.size<=l:=by rw[J]; exact aa.b.size
  refine mX Q 0 E (h1:=ho1) fun w7 GL S z6 => ?_
  have yY:aK w7 l 1 (fun _=>E) 94:=cO GL
  have oL:=jw S Q.ty
  have⟨Dx,Ee,FH⟩:=Gy oL Bn wW Ai
  have GQ:=(⟨S.below yG.b yG.b.size kg4⟩:Bw G _)
  have I:=S.below Z Z.size (by omega)
  refine av (au (bM m (fun x=>bK x v.o v.bI) (m.T.path (v.node))))<|aD<|Ws<|ay<|av (au (bM m (fun x=>bK x v.o v.bI) (m.T.path (v.node)))) ?_
  by_cases D:(bM m (fun x=>bK x v.o v.bI) (m.T.path (v.node)))=0
  ·refine Lv aF (qP D)<|aD<|aN<|Wk<|sN<|ay<|Lv (.func (.func 160) #[] #[(pt l),(pt A),(pt k),(pt d)]) (Fx.iK (us := []) (vs := [(pt l),(pt A),(pt k),(pt d)]) rfl rfl rfl)<|av (.func (.func 160) #[] #[(pt l),(pt A),(pt k),(pt d)])<|av (au 0)<|aD<|Wr<|aL (.tuple #[.func (.func 160) #[] #[(pt l),(pt A),(pt k),(pt d)],au 0]) ?_
   have hD0:=hD1 D
   have hfe:=hD0.e
   subst hfe
   have b01:w.heap.size<=Dv.heap.size:=by omega
   have f:jH m v=0:=by unfold jH; rw[if_neg (show ¬ jk m v.o v.req=true by unfold jk; rw[lQ fE]; decide)]; rw[if_neg (by rw[q]; decide)]; exact D
   exact⟨⟨_,160,#[(pt l),(pt A),(pt k),(pt d)],by rw[f],rfl,fun _=>⟨rfl,⟨_,_,Tryd.func160,rfl,rfl⟩,fun w2 s=>(Lh m lp B w2 ((h.up I).up s) v L hwf (Lj m v).R Dv.heap.size w.heap.size _ (by omega) _ (hD0.up (Bt GQ.b s)) _ _ _ _ (yY.dX (Sb s) (Nat.ne_of_lt yY.lt)) (Dx.dX (Sb s) (Nat.ne_of_lt Dx.lt)) (FH.dX (Sb s) (Nat.ne_of_lt FH.lt)) (Ee.dX (Sb s) (Nat.ne_of_lt Ee.lt)) ⟨by omega,by omega,by omega⟩ fE (fun i hi e=>by have q9:=hga i hi; obtain⟨j9,hj9,e9,f9⟩:=kR.1 q9; exact fE j9 hj9 ⟨e9.trans e.1,f9.trans e.2⟩)).mono fun _ _ K=>⟨K.1,K.2.1,K.2.2.mono fun _ hk=>hk⟩⟩⟩,I⟩
  refine Lv aI (tu D)<|aD<|aT<|ay<|av (au (bM m (fun x=>bK x v.o v.bI) (m.T.path (v.node))))<|av (.nilFunc)<|av (au (bM m (fun x=>bK x v.o v.bI) (m.T.path (v.node))))<|aD<|Wr<|sR<|aL (.tuple #[.nilFunc,au (bM m (fun x=>bK x v.o v.bI) (m.T.path (v.node)))]) ?_
  have f:jH m v=bM m (fun x=>bK x v.o v.bI) (m.T.path (v.node)):=by unfold jH; rw[if_neg (show ¬ jk m v.o v.req=true by unfold jk; rw[lQ fE]; decide)]; rw[if_neg (by rw[q]; decide)]
  exact⟨⟨.nilFunc,0,#[],by rw[f],rfl,fun u=>absurd (f.symm.trans u) (by first|decide|omega|assumption)⟩,I⟩
 rw[Bool.not_eq_true]at q
 refine qj (OB v.node uJ) aF (by rw[q])<|Ln<|aY aI<|bD<|aT<|ay<|av (.nilFunc)<|av (au 9)<|aD<|Wr<|sR<|aL (.tuple #[.nilFunc,au 9]) ?_
 have f:jH m v=9:=by unfold jH; rw[if_neg (show ¬ jk m v.o v.req=true by unfold jk; rw[lQ fE]; decide)]; exact if_pos q
 exact⟨⟨.nilFunc,0,#[],by rw[f],rfl,fun u=>absurd (f.symm.trans u) (by first|decide|omega|assumption)⟩,H⟩
theorem Nq(m:dz)(lp B:Nat)(w:World)(h:gZ w B lp m)(v:EvM)(hv:bX v=true)(hwf:jc v) :
 Calls Tryd.prog 148 #[(pt lp),.agg (aC 14 (dJ v))] w fun e w'=>Ie w B lp m (nM m v) (iN m v) e w':=by
 have hC:=h.c
 have hT:=h.t
 have hP:=h.p
 have hR:=h.r
 have hG:=h.g
 have hA:=h.a
 have hN:=h.ne
 have lC:=h.c.lt
 have lT:=h.t.lt
 have lP:=h.p.lt
 have lR:=h.r.lt
 have lG:=h.g.lt
 have lA:=h.a.lt
 obtain⟨a,ha,ho⟩ : ∃ a:Nat,a<6/\v.o=(a:Int)+1:=dO (gN hv)
 have hra:bA v=a:=by unfold bA; omega
 have aa:=wh hv hwf
 have X8:1<=v.o/\v.o<=6:=by omega
 refine Kent Tryd.func148 56 ?_
 refine ay<|nZ ((pt lp)) fun J w1 rF m1 s1 z1 => ?_
 have⟨m2,m4,m5,m6,m7,b1⟩:=wG s1.old hC hP hR hG hA (Below.refl w.heap.size w)
 have xW:=gP rF
 have⟨mJ,qK,uP,uQ,uR⟩:=tC rF hC.lt hP.lt hR.lt hG.lt hA.lt
 have yC:=m1.lt
 refine rR fun n w2 zy D s2 z2 => ?_
 have⟨m9,m11,m12,m13,m14,m15,b2⟩:=DY s2.old m2 m4 m5 m6 m7 m1 b1
 have Bo:=iT zy b1.size
 have⟨F5,xI,AU,xJ,xK,tQ⟩:=BL zy m2.lt m4.lt m5.lt m6.lt m7.lt m1.lt
 have Dy:=D.lt
 refine av (.nilFunc)<|av (au 0)<|aD<|Ws ?_
 -- region 1 draws
 refine EP (T1:=102) (T2:=102) (Vt:=102) (T2':=102) (a1 := .tmp 6) (v1 := .tmp 16) (a2 := .tmp 7) (v2 := .tmp 21) (m1:=2) (m2:=2) (z1:=fun d=>if d<1 then au 0 else aA 0) (y1:=dn (dn (fun d=>if d<1 then au 0 else aA 0) 0 1 (fun _=>au v.o)) 1 1 (fun _=>aA v.req)) (z2:=fun d=>if d<1 then au 0 else aA 0) (y2:=dn (dn (fun d=>if d<1 then au 0 else aA 0) 0 1 (fun _=>au v.o)) 1 1 (fun _=>aA v.of)) (u1 := .agg (aC 2 (dn (dn (fun d=>if d<1 then au 0 else aA 0) 0 1 (fun _=>au v.o)) 1 1 (fun _=>aA v.req)))) (u2 := .agg (aC 2 (dn (dn (fun d=>if d<1 then au 0 else aA 0) 0 1 (fun _=>au v.o)) 1 1 (fun _=>aA v.of)))) 10 11 12 13 [[],[],[],[],[],[],[],[],[],[],[],[],[(0,[10]),(1,[11])],[(0,[10]),(1,[11]),(2,[12])]] [[(2,[0]),(3,[0])],[(2,[1]),(3,[1])],[(2,[2]),(3,[2])],[(2,[3]),(3,[3])],[(2,[4]),(3,[4])],[(3,[5])],[(3,[6])],[(3,[7])],[(3,[8])],[(3,[9])],[(2,[10]),(3,[10])],[(2,[11]),(3,[11])],[(3,[12])],[]] #[(pt n),au v.o,(pf n 12),aA v.req,.agg (aC 2 (dn (dn (fun d=>if d<1 then au 0 else aA 0) 0 1 (fun _=>au v.o)) 1 1 (fun _=>aA v.req))),(pt n),au v.o,(pf n 13),aA v.of,.agg (aC 2 (dn (dn (fun d=>if d<1 then au 0 else aA 0) 0 1 (fun _=>au v.o)) 1 1 (fun _=>aA v.of))),undef,undef,undef,undef] (by kernel_rfl) (by kernel_rfl) (by kernel_rfl) (by kernel_rfl) (by kernel_rfl) (by kernel_rfl) (by kernel_rfl) (by kernel_rfl) (by kernel_rfl) (by kernel_rfl) rfl rfl (by kernel_rfl) (by kernel_rfl) rfl rfl rfl rfl (by kernel_rfl) (by kernel_rfl) (fun k l=>(show ev _ (.tmp 6)=(pt k)from by kernel_rfl)) (fun k l=>(show ev _ (.tmp 7)=(pt l)from by kernel_rfl)) (fun k l=>(show ev _ (.tmp 16) = .agg (aC 2 (dn (dn (fun d=>if d<1 then au 0 else aA 0) 0 1 (fun _=>au v.o)) 1 1 (fun _=>aA v.req)))from by kernel_rfl)) (fun k l=>(show ev _ (.tmp 21) = .agg (aC 2 (dn (dn (fun d=>if d<1 then au 0 else aA 0) 0 1 (fun _=>au v.o)) 1 1 (fun _=>aA v.of)))from by kernel_rfl)) (bY _ _) (bY _ _) (bP (bP (fun jq _=>by show((fun d=>if d<1 then au 0 else aA 0:Nat->Value) jq).oneCell'=true; simp only[]; repeat (first|rfl|split)) (fun _ _=>rfl)) (fun _ _=>rfl)) (bP (bP (fun jq _=>by show((fun d=>if d<1 then au 0 else aA 0:Nat->Value) jq).oneCell'=true; simp only[]; repeat (first|rfl|split)) (fun _ _=>rfl)) (fun _ _=>rfl)) (fun k l => ?_) ?_
 ·refine⟨?_,?_,?_,?_,?_,?_,?_,?_,?_,?_,?_,?_,?_,?_,trivial⟩
  ·exact .inr PO
  ·exact .inr (LX (au v.o) fun F u=>bC (x:=dJ v) rfl (show ev _ (.tmp 12)=(pt n)from by kernel_rfl) (by kernel_rfl) (D.aM.below u (by have:=D.lt; omega)) (i:=0) (by omega) (by omega) rfl)
  ·exact .inr PO
  ·exact .inr (LX (aA v.req) fun F u=>bC (x:=dJ v) rfl (show ev _ (.tmp 14)=(pf n 12)from by kernel_rfl) (by kernel_rfl) (D.aM.below u (by have:=D.lt; omega)) (i:=12) (by omega) (by omega) rfl)
  ·exact .inr (LX (.agg (aC 2 (dn (dn (fun d=>if d<1 then au 0 else aA 0) 0 1 (fun _=>au v.o)) 1 1 (fun _=>aA v.req)))) fun F u=>fq (vs := [(0,au v.o),(1,aA v.req)]) (places := #[(0,1),(1,1)]) (m:=2) (x:=fun d=>if d<1 then au 0 else aA 0) rfl (Fx.IB (show ev _ (.tmp 13)=au v.o from by kernel_rfl) (show ev _ (.tmp 15)=aA v.req from by kernel_rfl)) Tryd.underlying102 (by kernel_rfl) (by kernel_rfl) (by rw[bO (off:=0) (s:=1) (y:=fun _=>au v.o) (by kernel_rfl) (cells_one (by rfl)) (by rfl)]; rw[bO (off:=1) (s:=1) (y:=fun _=>aA v.req) (by kernel_rfl) (cells_one (by rfl)) (by rfl)]; rfl))
  ·exact .inr PO
  ·exact .inr (LX (au v.o) fun F u=>bC (x:=dJ v) rfl (show ev _ (.tmp 17)=(pt n)from by kernel_rfl) (by kernel_rfl) (D.aM.below u (by have:=D.lt; omega)) (i:=0) (by omega) (by omega) rfl)
  ·exact .inr PO
  ·exact .inr (LX (aA v.of) fun F u=>bC (x:=dJ v) rfl (show ev _ (.tmp 19)=(pf n 13)from by kernel_rfl) (by kernel_rfl) (D.aM.below u (by have:=D.lt; omega)) (i:=13) (by omega) (by omega) rfl)
  ·exact .inr (LX (.agg (aC 2 (dn (dn (fun d=>if d<1 then au 0 else aA 0) 0 1 (fun _=>au v.o)) 1 1 (fun _=>aA v.of)))) fun F u=>fq (vs := [(0,au v.o),(1,aA v.of)]) (places := #[(0,1),(1,1)]) (m:=2) (x:=fun d=>if d<1 then au 0 else aA 0) rfl (Fx.IB (show ev _ (.tmp 18)=au v.o from by kernel_rfl) (show ev _ (.tmp 20)=aA v.of from by kernel_rfl)) Tryd.underlying102 (by kernel_rfl) (by kernel_rfl) (by rw[bO (off:=0) (s:=1) (y:=fun _=>au v.o) (by kernel_rfl) (cells_one (by rfl)) (by rfl)]; rw[bO (off:=1) (s:=1) (y:=fun _=>aA v.of) (by kernel_rfl) (cells_one (by rfl)) (by rfl)]; rfl))
  ·exact .inl rfl
  ·exact .inl rfl
  ·exact .inl rfl
  exact .inl rfl
 rintro k l w3 Q O G H ne1 m16 m17 hb1
 have KC:lp≠k:=Nat.ne_of_lt (Nat.lt_of_lt_of_le (m9.lt) G)
 have Lm:m.pb≠k:=Nat.ne_of_lt (Nat.lt_of_lt_of_le (m11.lt) G)
 have RS:m.rb≠k:=Nat.ne_of_lt (Nat.lt_of_lt_of_le (m12.lt) G)
 have RU:m.gb≠k:=Nat.ne_of_lt (Nat.lt_of_lt_of_le (m13.lt) G)
 have RV:m.ab≠k:=Nat.ne_of_lt (Nat.lt_of_lt_of_le (m14.lt) G)
 have RX:J≠k:=Nat.ne_of_lt (Nat.lt_of_lt_of_le (m15.lt) G)
 have KA:n≠k:=Nat.ne_of_lt (Nat.lt_of_lt_of_le (D.lt) G)
 have aag:lp≠l:=Nat.ne_of_lt (Nat.lt_of_lt_of_le (m9.lt) H)
 have Yd:m.pb≠l:=Nat.ne_of_lt (Nat.lt_of_lt_of_le (m11.lt) H)
 have Ye:m.rb≠l:=Nat.ne_of_lt (Nat.lt_of_lt_of_le (m12.lt) H)
 have Yf:m.gb≠l:=Nat.ne_of_lt (Nat.lt_of_lt_of_le (m13.lt) H)
 have RY:m.ab≠l:=Nat.ne_of_lt (Nat.lt_of_lt_of_le (m14.lt) H)
 have RZ:J≠l:=Nat.ne_of_lt (Nat.lt_of_lt_of_le (m15.lt) H)
 have aah:n≠l:=Nat.ne_of_lt (Nat.lt_of_lt_of_le (D.lt) H)
 have⟨m18,m20,m21,m22,m23,m24,rG,b3⟩:=BK hb1 m9 m11 m12 m13 m14 m15 D b2
 have G:w.heap.size<=k:=Nat.le_trans b2.size G
 have KD:=m16.lt
 have H:w.heap.size<=l:=Nat.le_trans b2.size H
 have L8:=m17.lt
 have q1:Q 2=(pt J):=by rw[O]; kernel_rfl
 have q2:Q 3=(pt n):=by rw[O]; kernel_rfl
 have q3:Q 4 = .nilFunc:=by rw[O]; kernel_rfl
 have q4:Q 5=au 0:=by rw[O]; kernel_rfl
 have q5:Q 6=(pt k):=by rw[O]; kernel_rfl
 have q6:Q 7=(pt l):=by rw[O]; kernel_rfl
 clear O
 refine sN<|Ws<|Ws ?_
 -- region 2 draws
 refine jy [0,1,2,3,4,5] [4,0,0,4,4,4] [] fun rE gL ig => ?_
 have⟨rY,vO,wR,yD,oq,m32,qE,ou,sU,b4⟩:=oG gL m18 m20 m21 m22 m23 m24 rG m16 m17 b3
 refine Rs ((pt lp)) (aP m32.aM 0 (ha:=q1)) ?_
 refine aY ((pt lp))<|aY ((pf lp 28))<|Rs (.map (some m.ab)) (aP rY.aM 28) ?_
 refine Rs (.agg (aC 2 (dn (dn (fun d=>if d<1 then au 0 else aA 0) 0 1 (fun _=>au v.o)) 1 1 (fun _=>aA v.req)))) (kg ou.aM 0 (ha:=q5)) ?_
 rcases Fx.oH m.ao m.ar m.an v.o v.req with ⟨KV,uS,uT,Dc⟩|fE
 ·refine Rs aI (Fx.BQ (z := .bool false) rfl rfl ((show ev _ _ = .agg (aC 2 (dn (dn (fun d=>if d<1 then au 0 else aA 0) 0 1 (fun _=>au v.o)) 1 1 (fun _=>aA v.req)))from rfl).trans (Fx.qA (y:=dn (dn (fun d=>if d<1 then au 0 else aA 0) 0 1 (fun _=>au v.o)) 1 1 (fun _=>aA v.req)) (a:=v.o) (b:=v.req) (Fx.rO (by omega) (Fx.lV (j:=0) (by omega) (by omega) rfl)) (Fx.lV (j:=0) (by omega) (by omega) rfl))) aa.1 oq Tryd.underlying90 yH (by rfl) uS uT Dc rfl) ?_
  refine bD<|aT<|ay<|av (.nilFunc)<|av (au 14)<|aD<|Wr<|sR<|aL (.tuple #[.nilFunc,au 14]) ?_
  have A:iN m v=14:=by unfold iN; exact if_pos (sO uS uT Dc)
  exact⟨⟨.nilFunc,0,#[],by rw[A],rfl,fun K=>absurd (A.symm.trans K) (by first|decide|omega|assumption)⟩,b4⟩
 refine Rs aF (Fx.BP (z := .bool false) rfl rfl ((show ev _ _ = .agg (aC 2 (dn (dn (fun d=>if d<1 then au 0 else aA 0) 0 1 (fun _=>au v.o)) 1 1 (fun _=>aA v.req)))from rfl).trans (Fx.qA (y:=dn (dn (fun d=>if d<1 then au 0 else aA 0) 0 1 (fun _=>au v.o)) 1 1 (fun _=>aA v.req)) (a:=v.o) (b:=v.req) (Fx.rO (by omega) (Fx.lV (j:=0) (by omega) (by omega) rfl)) (Fx.lV (j:=0) (by omega) (by omega) rfl))) aa.1 oq Tryd.underlying90 yH (by rfl) fE) ?_
 refine bD<|aN<|Wk<|sN<|Ws ?_
 -- region 4 draws
 refine jy [0,1,2,3,4,5,6,7,8,9,10,11] [1,0,0,1,1,1,0,0,0,2,3,0] [(10,0,[0]),(10,3,[3]),(10,4,[4]),(10,5,[5]),(10,9,[9]),(11,9,[9]),(11,10,[10])] fun Dv kM oK => ?_
 have⟨S,wS,tN,U,tO,V,sV,uI,W,X⟩:=oG kM rY vO wR yD oq m32 qE ou sU b4
 refine Rd (v:=(pt lp)) (by rfl) (by rfl) (qh _) (fun F u=>bC (x:=fun _=>(pt lp)) rfl q1 (by kernel_rfl) (V.aM.below u (by have:=V.lt; omega)) (i:=0) (by omega) (by omega) rfl) ?_
 refine aY ((pt lp))<|aY ((pf lp 27))<|Rd (v := .map (some m.gb)) (by rfl) (by rfl) (qh _) (fun F u=>bC (x:=mY m) rfl rfl (by kernel_rfl) (S.aM.below u (by have:=S.lt; omega)) (i:=27) (by omega) (by omega) rfl) ?_
 refine Rd (v := .agg (aC 2 (dn (dn (fun d=>if d<1 then au 0 else aA 0) 0 1 (fun _=>au v.o)) 1 1 (fun _=>aA v.of)))) (by rfl) (by rfl) (qh _) (fun F u=>dY (x:=dn (dn (fun d=>if d<1 then au 0 else aA 0) 0 1 (fun _=>au v.o)) 1 1 (fun _=>aA v.of)) (y:=dn (dn (fun d=>if d<1 then au 0 else aA 0) 0 1 (fun _=>au v.o)) 1 1 (fun _=>aA v.of)) rfl q6 (by kernel_rfl) (by kernel_rfl) (W.aM.below u (by have:=W.lt; omega)) (i:=0) (by omega) (by omega) (fun j _=>by rw[Nat.zero_add])) ?_
 rcases Fx.oH (fun i=>m.g i 0) (fun i=>m.g i 1) m.gn v.o v.of with ⟨f,P,L,M⟩|OV
 ·refine Rd (v := .tuple #[.agg (aC 5 (vE (m.g f))),.bool true]) (by rfl) (by rfl) (qh _) (fun F u=>Fx.GH (z := .agg (aC 5 (fun d=>if d<1 then au 0 else if d<3 then aA 0 else if d<4 then au 0 else aA 0))) rfl rfl ((show ev _ _ = .agg (aC 2 (dn (dn (fun d=>if d<1 then au 0 else aA 0) 0 1 (fun _=>au v.o)) 1 1 (fun _=>aA v.of)))from rfl).trans (Fx.qA (y:=dn (dn (fun d=>if d<1 then au 0 else aA 0) 0 1 (fun _=>au v.o)) 1 1 (fun _=>aA v.of)) (a:=v.o) (b:=v.of) (Fx.rO (by omega) (Fx.lV (j:=0) (by omega) (by omega) rfl)) (Fx.lV (j:=0) (by omega) (by omega) rfl))) aa.2 (U.up u) Tryd.underlying89 yH (by kernel_rfl) P L M rfl) ?_
  refine aY (.tuple #[.agg (aC 5 (vE (m.g f))),.bool true])<|aY (.agg (aC 5 (vE (m.g f))))<|aY aI<|IG<|oo 5 (fun d=>if d<1 then au 0 else if d<3 then aA 0 else if d<4 then au 0 else aA 0) fun C w4 eg5 uJ s6 z3 => ?_
  have⟨wU,xY,xZ,Bh,Ah,wV,Ci,yc,vw,b6⟩:=oG s6.old S wS tN U tO V sV uI W X
  have UK:=iT eg5 X.size
  have⟨Yg,Yh,Yi,Yj,Yk,Yl,Ym,Yn,Yo⟩:=Ms eg5 S.lt wS.lt tN.lt U.lt tO.lt V.lt sV.lt uI.lt W.lt
  have Yp:=uJ.lt
  refine Ln ⟨s6.old,?_⟩
  refine fU<|gU uJ 0 (h1:=(fun j hj=>by rcases j with _|_|_|_|_|_|_|_|_|_|_|_|_|_|j <;> first|rfl|omega)) fun w5 rZ s7 z4 => ?_
  have vP:aK w5 C 5 (vE (m.g f)) 99:=aS rZ
  have ac:aK w5 C 5 (vE (m.g f)) 99:=vP
  have iZ:=jw s7 uJ.ty
  have⟨qF,qG,yX,m64,Cj,Ck,yF,Bl,yg⟩:=PU iZ wU xY xZ Bh Ah wV Ci yc vw
  have b7:=s7.below b6 b6.size (by omega)
  refine Ln<|aY aI<|bD<|Ws<|ay<|av aI<|av aF<|av aF<|av ((pf C 4))<|Lv (aA ((m.g f) 4)) (aP ac.aM 4) ?_
  by_cases Oo:((m.g f) 4)=0
  ·refine Lv aF (qP Oo)<|av aF<|aD<|aN<|Wk<|sN<|ay<|Lv ((pt lp)) (aP Ck.aM 0 (ha:=q1))<|av ((pf C 2))<|Lv (aA ((m.g f) 2)) (aP ac.aM 2)<|Lv (.func (.func 161) #[] #[(pt n),(pt C)]) (Fx.iK (us := []) (vs := [(pt n),(pt C)]) rfl rfl (Fx.args2 q2 rfl))<|jT (Lf m lp B _ (h.up b7) ((m.g f) 2) v (m.g f) X8 n C yF ac) ?_
   rintro e9 w6 ⟨⟨Z,fi1,GK,he,ho1,hD1⟩,E⟩
   refine⟨_,he,?_⟩
   clear he
   have⟨Bn,Ai,yG,GL,yY,Ed,GN,FE,Dw,Aj,b8⟩:=wH E qF qG yX m64 Cj Ck yF Bl yg ac b7
   have bw1:Bw w6 w6:=⟨Below.refl _ _⟩
   refine av (.tuple #[Z,au (bM m (fun x=>bF x v.o (m.g f 3)) (m.T.path ((m.g f) 2)))])<|av (Z)<|av (au (bM m (fun x=>bF x v.o (m.g f 3)) (m.T.path ((m.g f) 2))))<|oo 1 (fun _ => .nilFunc) fun N w7 Yq yZ s9 z5 => ?_
   have⟨FJ,GR,Ic,L9,Nc,Ma,b9⟩:=DY s9.old Ed GN FE Dw Aj bw1 b8
   have lg6:=iT Yq b8.size
   have⟨Yr,Yt,Yu,Yv,Yw,Yx,Yy,Yz,YA,YB⟩:=Od Yq Bn.lt Ai.lt yG.lt GL.lt yY.lt Ed.lt GN.lt FE.lt Dw.lt Aj.lt
   have tg6:=yZ.lt
   have kg6:w6.heap.size<=N:=by rw[Yq]; exact bw1.b.size
   refine mX yZ 0 Z (h1:=ho1) fun w8 Nf s10 z6 => ?_
   have KW:aK w8 N 1 (fun _=>Z) 94:=cO Nf
   have oL:=jw s10 yZ.ty
   have⟨EL,EM,Da,AX,AY⟩:=II oL FJ GR Ic L9 Nc
   have ER:=(⟨s10.below Ma.b Ma.b.size kg6⟩:Bw w6 _)
   have b10:=s10.below b9 b9.size (by omega)
   refine av (au (bM m (fun x=>bF x v.o (m.g f 3)) (m.T.path ((m.g f) 2))))<|aD<|Ws<|ay<|av (au (bM m (fun x=>bF x v.o (m.g f 3)) (m.T.path ((m.g f) 2)))) ?_
   by_cases Y:(bM m (fun x=>bF x v.o (m.g f 3)) (m.T.path ((m.g f) 2)))=0
   ·refine Lv aF (qP Y)<|aD<|aN<|Wk<|sN<|ay<|Lv (.func (.func 163) #[] #[(pt N),(pt J),(pt k),(pt n),(pt C),(pt l)]) (Fx.iK (us := []) (vs := [(pt N),(pt J),(pt k),(pt n),(pt C),(pt l)]) rfl rfl (Fx.UJ rfl q1 q5 q2 rfl q6))<|av (.func (.func 163) #[] #[(pt N),(pt J),(pt k),(pt n),(pt C),(pt l)])<|av (au 0)<|aD<|Wr<|aL (.tuple #[.func (.func 163) #[] #[(pt N),(pt J),(pt k),(pt n),(pt C),(pt l)],au 0]) ?_
    have I:kU m v.o v.of=f:=sP h.g.inj P L M
    have hD0:=hD1 Y
    have hfe:=hD0.e
    subst hfe
    have em:nM m v=Gd m (mo m (fun x=>bF x v.o (m.g f 3)) (m.T.path (m.g f 2))).R v f:=by unfold nM Ll; rw[I]
    rw[em]
    have A:iN m v=0:=by unfold iN; rw[if_neg (show ¬ jk m v.o v.req=true by unfold jk; rw[lQ fE]; decide)]; rw[if_neg (show ¬ (A8 m v.o v.of=false\/m.g (kU m v.o v.of) 4≠0) by rw[I,show A8 m v.o v.of=true from sO P L M]; rintro (q|q) <;> first|(exact absurd q (by decide))|omega),I]; exact Y
    exact⟨⟨_,163,#[(pt N),(pt J),(pt k),(pt n),(pt C),(pt l)],by rw[A],rfl,fun _=>⟨rfl,⟨_,_,Tryd.func163,rfl,rfl⟩,fun w2 E=>(Li m lp B w2 ((h.up b10).up E) v hv hwf _ w5.heap.size w.heap.size _ (by omega) _ (hD0.up (Bt ER.b E)) f _ _ _ _ _ _ (KW.dX (Sb E) (Nat.ne_of_lt KW.lt)) (EL.dX (Sb E) (Nat.ne_of_lt EL.lt)) (Da.dX (Sb E) (Nat.ne_of_lt Da.lt)) (EM.dX (Sb E) (Nat.ne_of_lt EM.lt)) (AY.dX (Sb E) (Nat.ne_of_lt AY.lt)) (AX.dX (Sb E) (Nat.ne_of_lt AX.lt)) UK ⟨by omega,by omega,by omega,by omega,by omega⟩ fE P L M).mono fun _ _ hc=>⟨hc.1,hc.2.1,hc.2.2.mono fun _ hk=>hk⟩⟩⟩,b10⟩
   refine Lv aI (tu Y)<|aD<|aT<|ay<|av (au (bM m (fun x=>bF x v.o (m.g f 3)) (m.T.path ((m.g f) 2))))<|av (.nilFunc)<|av (au (bM m (fun x=>bF x v.o (m.g f 3)) (m.T.path ((m.g f) 2))))<|aD<|Wr<|sR<|aL (.tuple #[.nilFunc,au (bM m (fun x=>bF x v.o (m.g f 3)) (m.T.path ((m.g f) 2)))]) ?_
   have I:kU m v.o v.of=f:=sP h.g.inj P L M
   have A:iN m v=bM m (fun x=>bF x v.o (m.g f 3)) (m.T.path ((m.g f) 2)):=by unfold iN; rw[if_neg (show ¬ jk m v.o v.req=true by unfold jk; rw[lQ fE]; decide)]; rw[if_neg (show ¬ (A8 m v.o v.of=false\/m.g (kU m v.o v.of) 4≠0) by rw[I,show A8 m v.o v.of=true from sO P L M]; rintro (q|q) <;> first|(exact absurd q (by decide))|omega),I]
   exact⟨⟨.nilFunc,0,#[],by rw[A],rfl,fun K=>absurd (A.symm.trans K) (by first|decide|omega|assumption)⟩,b10⟩
  refine Lv aI (tu Oo)<|av aI<|aD<|aT<|ay<|av (.nilFunc)<|av (au 12)<|aD<|Wr<|sR<|aL (.tuple #[.nilFunc,au 12]) ?_
  have I:kU m v.o v.of=f:=sP h.g.inj P L M
  have A:iN m v=12:=by unfold iN; rw[if_neg (show ¬ jk m v.o v.req=true by unfold jk; rw[lQ fE]; decide)]; exact if_pos (.inr (by rw[I]; omega))
  exact⟨⟨.nilFunc,0,#[],by rw[A],rfl,fun K=>absurd (A.symm.trans K) (by first|decide|omega|assumption)⟩,b7⟩
 refine Rd (v := .tuple #[.agg (aC 5 (fun d=>if d<1 then au 0 else if d<3 then aA 0 else if d<4 then au 0 else aA 0)),.bool false]) (by rfl) (by rfl) (qh _) (fun F u=>Fx.GD (z := .agg (aC 5 (fun d=>if d<1 then au 0 else if d<3 then aA 0 else if d<4 then au 0 else aA 0))) rfl rfl ((show ev _ _ = .agg (aC 2 (dn (dn (fun d=>if d<1 then au 0 else aA 0) 0 1 (fun _=>au v.o)) 1 1 (fun _=>aA v.of)))from rfl).trans (Fx.qA (y:=dn (dn (fun d=>if d<1 then au 0 else aA 0) 0 1 (fun _=>au v.o)) 1 1 (fun _=>aA v.of)) (a:=v.o) (b:=v.of) (Fx.rO (by omega) (Fx.lV (j:=0) (by omega) (by omega) rfl)) (Fx.lV (j:=0) (by omega) (by omega) rfl))) aa.2 (U.up u) Tryd.underlying89 yH (by kernel_rfl) OV) ?_
 refine aY (.tuple #[.agg (aC 5 (fun d=>if d<1 then au 0 else if d<3 then aA 0 else if d<4 then au 0 else aA 0)),.bool false])<|aY (.agg (aC 5 (fun d=>if d<1 then au 0 else if d<3 then aA 0 else if d<4 then au 0 else aA 0)))<|aY aF<|IG<|oo 5 (fun d=>if d<1 then au 0 else if d<3 then aA 0 else if d<4 then au 0 else aA 0) fun g7 w9 eg7 H7 s11 z7 => ?_
 have b11:=aQ s11.old X
 have lg7:=iT eg7 X.size
 have⟨Vu,Vv,Vw,Vx,Vy,Vz,VA,VB,VD⟩:=Ms eg7 S.lt wS.lt tN.lt U.lt tO.lt V.lt sV.lt uI.lt W.lt
 have tg7:=H7.lt
 refine Ln ⟨s11.old,?_⟩
 refine fU<|gU H7 0 (h1:=(fun j hj=>by rcases j with _|_|_|_|_|_|_|_|_|_|_|_|_|_|j <;> first|rfl|omega)) fun Bg K6 s12 z8 => ?_
 have UE:aK Bg g7 5 (fun d=>if d<1 then au 0 else if d<3 then aA 0 else if d<4 then au 0 else aA 0) 99:=aS K6
 have b12:=s12.below b11 b11.size (by omega)
 refine Ln<|aY aF<|bD<|Ws<|ay<|av aF<|av aI<|av aI<|jP<|jP<|jP<|av aI<|aD<|aT<|ay<|av (.nilFunc)<|av (au 12)<|aD<|Wr<|sR<|aL (.tuple #[.nilFunc,au 12]) ?_
 have A:iN m v=12:=by unfold iN; rw[if_neg (show ¬ jk m v.o v.req=true by unfold jk; rw[lQ fE]; decide)]; exact if_pos (.inl (lQ OV))
 exact⟨⟨.nilFunc,0,#[],by rw[A],rfl,fun K=>absurd (A.symm.trans K) (by first|decide|omega|assumption)⟩,b12⟩
set_option maxRecDepth 20000
set_option linter.unusedVariables false
namespace Rt
noncomputable def fT(m:dz)(v:EvM):dz:=if v.kind=1 then zD m v else if v.kind=2 then qY m v else if v.kind=3 then pJ m v else if v.kind=4 then nM m v else if v.kind=5 then CU m v else if v.kind=6 then CV m v else xH m v
def eF(m:dz)(v:EvM):Int:=if v.kind=1 then ji m v else if v.kind=2 then jh m v else if v.kind=3 then jH m v else if v.kind=4 then iN m v else if v.kind=5 then jG m v else if v.kind=6 then 0 else 0
def bf(m:dz)(v:EvM):Int:=if bX v=false then 1 else if uK m.known v=true then 14 else if fQ m.known v=false then 13 else if m.inn (bA v)=false\/m.left (bA v)=true then 10 else eF m v
structure UL(m:dz):Prop where
 own : ∀ a,a<6->0<=m.own a/\m.own a<=1000
 row : ∀ i,i<m.T.n -> ∀ p,p<54->0<=m.R i p/\m.R i p<=1125899906842624
 ga:RQ m
 kn:Eh m.known
def UM(k:Nat):Nat:=if k=1 then 145 else if k=2 then 146 else if k=3 then 147 else if k=4 then 148 else if k=5 then 149 else if k=6 then 150 else 151
def vI:Nat->Value:=fun p=>if p=0 then .nilFunc else .func (.func (UM p)) #[] #[]
theorem Nr{p:Nat}(h:1<=p):vI p = .func (.func (UM p)) #[] #[]:=if_neg (by omega)
end Rt
theorem UN {k : Nat} (h1 : 1 ≤ k) (b : k ≤ 7) : ∃ a c, Tryd.prog.funcs[UM k]? = some a ∧ (a.name == "runtime.NumGoroutine") = false ∧ a.body = some c := by
 rcases(show k=1\/k=2\/k=3\/k=4\/k=5\/k=6\/k=7 by omega)with rfl|rfl|rfl|rfl|rfl|rfl|rfl
 ·exact⟨_,_,Tryd.func145,rfl,rfl⟩
 ·exact⟨_,_,Tryd.func146,rfl,rfl⟩
 ·exact⟨_,_,Tryd.func147,rfl,rfl⟩
 ·exact⟨_,_,Tryd.func148,rfl,rfl⟩
 ·exact⟨_,_,Tryd.func149,rfl,rfl⟩
 ·exact⟨_,_,Tryd.func150,rfl,rfl⟩
 exact⟨_,_,Tryd.func151,rfl,rfl⟩
theorem Kq.low{w:World}{B lp b c d:Nat}{m f:dz}{e:Value}{cap:Array Value}(h:Kq w B lp m f b e d cap)(g:c<=b):Kq w B lp m f c e d cap := { h with s:=fun l i=>(h.s l i).mono fun _ _ a=>⟨a.1,a.2.1,a.2.2.mono fun k j=>j.imp id (Nat.le_trans g)⟩ }
theorem Ns(m:dz)(lp B:Nat)(w:World)(h:gZ w B lp m)(v:EvM)(c:bX v=true)(e:jc v)(d:UL m)(k:Nat)(j:v.kind=(k:Int))(i:1<=k/\k<=7) :
 Calls Tryd.prog (UM k) #[(pt lp),.agg (aC 14 (dJ v))] w (Ie w B lp m (fT m v) (eF m v)):=by
 rcases(show k=1\/k=2\/k=3\/k=4\/k=5\/k=6\/k=7 by omega)with rfl|rfl|rfl|rfl|rfl|rfl|rfl
 ·have a:v.kind=1:=by omega
  rw[show fT m v=zD m v by unfold fT; rw[if_pos (by omega)],show eF m v=ji m v by unfold eF; rw[if_pos (by omega)]]
  exact Nj m lp B w h v c d.own
 ·have a:v.kind=2:=by omega
  rw[show fT m v=qY m v by unfold fT; rw[if_neg (by omega),if_pos (by omega)],show eF m v=jh m v by unfold eF; rw[if_neg (by omega),if_pos (by omega)]]
  exact KI m lp B w h v c a d.row
 ·have a:v.kind=3:=by omega
  rw[show fT m v=pJ m v by unfold fT; rw[if_neg (by omega),if_neg (by omega),if_pos (by omega)],show eF m v=jH m v by unfold eF; rw[if_neg (by omega),if_neg (by omega),if_pos (by omega)]]
  exact Np m lp B w h v c e d.ga
 ·have a:v.kind=4:=by omega
  rw[show fT m v=nM m v by unfold fT; rw[if_neg (by omega),if_neg (by omega),if_neg (by omega),if_pos (by omega)],show eF m v=iN m v by unfold eF; rw[if_neg (by omega),if_neg (by omega),if_neg (by omega),if_pos (by omega)]]
  exact Nq m lp B w h v c e
 ·have a:v.kind=5:=by omega
  rw[show fT m v=CU m v by unfold fT; rw[if_neg (by omega),if_neg (by omega),if_neg (by omega),if_neg (by omega),if_pos (by omega)],show eF m v=jG m v by unfold eF; rw[if_neg (by omega),if_neg (by omega),if_neg (by omega),if_neg (by omega),if_pos (by omega)]]
  exact M0 m lp B w h v c a
 ·have a:v.kind=6:=by omega
  rw[show fT m v=CV m v by unfold fT; rw[if_neg (by omega),if_neg (by omega),if_neg (by omega),if_neg (by omega),if_neg (by omega),if_pos (by omega)],show eF m v=0 by unfold eF; rw[if_neg (by omega),if_neg (by omega),if_neg (by omega),if_neg (by omega),if_neg (by omega),if_pos (by omega)]]
  obtain⟨b,f,g⟩:=He c a
  exact M4 m lp B w h v c b f g
 have a:v.kind=7:=by omega
 rw[show fT m v=xH m v by unfold fT; rw[if_neg (by omega),if_neg (by omega),if_neg (by omega),if_neg (by omega),if_neg (by omega),if_neg (by omega)],show eF m v=0 by unfold eF; rw[if_neg (by omega),if_neg (by omega),if_neg (by omega),if_neg (by omega),if_neg (by omega),if_neg (by omega)]]
 exact KN m lp B w h v c
theorem Gf(m:dz)(lp B:Nat)(w:World)(h:gZ w B lp m)(v:EvM)(l:jc v)(Q:UL m)(hB:1<=B)(M:gF w 0 0 8 vI) :
 Calls Tryd.prog 29 #[(pt lp),.agg (aC 14 (dJ v))] w fun e w'=>Ie w B lp m (fT m v) (bf m v) e w':=by
 have L:=h.c
 have hT:=h.t
 have hP:=h.p
 have hR:=h.r
 have hG:=h.g
 have hA:=h.a
 have hN:=h.ne
 have lC:=h.c.lt
 have lT:=h.t.lt
 have lP:=h.p.lt
 have lR:=h.r.lt
 have lG:=h.g.lt
 have lA:=h.a.lt
 obtain⟨q,P⟩ : ∃ q:Nat,v.kind=(q:Int):=⟨v.kind.toNat,by have:=l.kind; omega⟩
 have N:Kr m.known:=fun i hi=>by have:=Q.kn i hi; exact⟨by omega,by omega⟩
 refine Kent Tryd.func29 55 ?_
 refine ay<|rR fun x w1 z E s1 z1 => ?_
 have⟨m2,m8,G⟩:=kI s1.old L M (Below.refl w.heap.size w)
 have xW:=gP z
 have⟨mJ,qK,uP,uQ,uR⟩:=tC z L.lt hP.lt hR.lt hG.lt hA.lt
 have Lb:0≠x:=by rw[z]; exact Nat.ne_of_lt (M.lt (by omega))
 have yC:=E.lt
 refine av (.nilFunc)<|av (au 0)<|aD<|Ws<|Wb<|ay<|av ((pt lp))<|Lv aF (Fx.jI rfl rfl rfl (by kernel_rfl))<|av aF<|aD<|aN<|ay<|Lv (.agg (aC 14 (dJ v))) (kg E.aM 0) ?_
 by_cases f:(bX v)=true
 ·have C:bX v=true:=f
  obtain⟨a,ha,ho⟩ : ∃ a:Nat,a<6/\v.o=(a:Int)+1:=dO (gN C)
  have D:bA v=a:=by unfold bA; omega
  have hkr:=lM C
  refine eG (zw v _ l) aI (by rw[f]) ?_
  intro w2 hb1
  have⟨m9,m15,m16,b2⟩:=jY hb1 m2 m8 E G
  refine av aF<|av aF<|aD<|aN<|Ws ?_
  -- region 5 draws
  refine jy [0,1,2,3,4,5,6] [0,0,0,4,4,3,0] [(5,3,[3]),(5,4,[4]),(6,5,[5])] fun rE gL ig => ?_
  have⟨R,m23,S,H⟩:=jY gL m9 m15 m16 b2
  refine aY ((pt lp))<|aY ((pt lp))<|aY ((pf lp 12))<|Rs (.agg (aC 6 (rv .u64 m.known))) (kg R.aM 12 (fun j hj=>mW (p:=j) (by omega) (by omega))) ?_
  refine Rs (.agg (aC 14 (dJ v))) (kg S.aM 0) ?_
  refine fU ?_
  by_cases k:(uK m.known v)=true
  ·refine eG (KF m.known v _ l) aI (by rw[k]) ?_
   intro w3 hb2
   have b4:=aQ hb2 H
   refine Ln<|aY aI<|bD<|aT<|ay<|av (.nilFunc)<|av (au 14)<|aD<|Wr<|bU<|sR<|aL (.tuple #[.nilFunc,au 14]) ?_
   have b:bf m v=14:=by unfold bf; rw[if_neg (by rw[f]; decide)]; exact if_pos k
   exact⟨⟨.nilFunc,0,#[],by rw[b],rfl,fun d=>absurd (b.symm.trans d) (by first|decide|omega|assumption)⟩,b4⟩
  rw[Bool.not_eq_true]at k
  refine eG (KF m.known v _ l) aF (by rw[k]) ?_
  intro w4 hb3
  have⟨qE,tN,yV,b5⟩:=jY hb3 R m23 S H
  refine Ln<|aY aF<|bD<|aN<|Ws ?_
  -- region 7 draws
  refine jy [0,1,2,3,4,5,6,7] [0,0,0,4,4,3,0,0] [(5,3,[3]),(5,4,[4]),(6,5,[5]),(7,5,[5])] fun Dv kM oK => ?_
  have⟨T,wU,U,I⟩:=jY kM qE tN yV b5
  refine aY ((pt lp))<|aY ((pt lp))<|aY ((pf lp 12))<|Rs (.agg (aC 6 (rv .u64 m.known))) (kg T.aM 12 (fun j hj=>mW (p:=j) (by omega) (by omega))) ?_
  refine Rs (.agg (aC 14 (dJ v))) (kg U.aM 0) ?_
  refine fU ?_
  by_cases n:(fQ m.known v)=true
  ·refine eG (F3 m.known v _ l N) aI (by rw[n]) ?_
   intro w5 hb4
   have⟨xY,yc,vw,b7⟩:=jY hb4 T wU U I
   refine Ln<|aY aF<|aY aF<|bD<|aN<|Ws<|Ws ?_
   -- region 9 draws
   refine jy [0,1,4,5,2,3,6,7,8,9] [0,0,4,0,0,0,0,4,0,0] [] fun Tz wQ Fw => ?_
   have⟨F,yX,V,J⟩:=jY wQ xY yc vw b7
   refine aY ((pt lp))<|aY ((pt x))<|aY ((pt lp))<|aY ((pt lp))<|Rs (au v.o) (aP V.aM 0) ?_
   refine Rp (au a) (fun _=>iC)<|Rp ((pf lp a)) (fun _=>vK 6 1) ?_
   by_cases s:(m.inn a)=true
   ·refine Rs aI (aP F.aM a ((xB (by omega)).trans (congrArg Value.bool s))) ?_
    refine aY aF<|aY aF<|bD<|aN ?_
    -- region 10 draws
    refine jy [0,1,4,5,2,3,6,7,8] [0,0,4,0,0,0,0,4,0] [] fun Wu FC Oq => ?_
    have⟨W,wW,X,K⟩:=jY FC F yX V J
    refine aY ((pt lp))<|aY ((pt x))<|aY ((pt lp))<|aY ((pf lp 6))<|Rs (au v.o) (aP X.aM 0) ?_
    refine Rp (au a) (fun _=>iC)<|Rp ((pf lp (a+6))) (fun _=>vK 6 1) ?_
    by_cases u:(m.left a)=true
    ·refine Rs aI (aP W.aM (a+6) ((xC (p:=a) (by omega) (by omega)).trans (congrArg Value.bool u))) ?_
     refine aY aI<|bD<|aT<|ay<|av (.nilFunc)<|av (au 10)<|aD<|Wr<|bU<|sR<|aL (.tuple #[.nilFunc,au 10]) ?_
     have b:bf m v=10:=by unfold bf; rw[if_neg (by rw[f]; decide)]; rw[if_neg (by rw[k]; decide)]; rw[if_neg (by rw[n]; decide)]; exact if_pos (.inr (by rw[D]; exact u))
     exact⟨⟨.nilFunc,0,#[],by rw[b],rfl,fun d=>absurd (b.symm.trans d) (by first|decide|omega|assumption)⟩,K⟩
    rw[Bool.not_eq_true]at u
    refine Rs aF (aP W.aM (a+6) ((xC (p:=a) (by omega) (by omega)).trans (congrArg Value.bool u))) ?_
    refine aY aF<|bD<|aN<|Wk<|dA<|sN<|Ws ?_
    -- region 12 draws
    refine jy [0,4,1,2,3,5,6,7,8,9,10] [0,4,0,4,0,4,3,0,0,0,0] [(6,1,[3,2,1]),(6,3,[3]),(6,5,[5]),(7,6,[6]),(8,6,[6]),(9,6,[6]),(10,6,[6])] fun wt5 FD TL => ?_
    have⟨Dw,Y,y⟩:=kI FD wW X K
    refine aY ((pf x 8))<|aY ((pt lp))<|Rs (.int .u8 ((q:Int))) (aP Y.aM 8 (congrArg (Value.int IntKind.u8) P)) ?_
    refine Rp ((pf 0 q)) (fun _=>vK 8 1)<|Rs (.func (.func (UM q)) #[] #[]) (aP Dw q (Nr (by omega))) ?_
    refine Rs (.agg (aC 14 (dJ v))) (kg Y.aM 0) ?_
    refine fU<|uY (by rfl) (Fx.FX (args := [(pt lp),.agg (aC 14 (dJ v))]) rfl rfl rfl (by rfl) (UN (by omega) (by omega))) rfl<|(Ns m lp B _ (h.up y) v C l Q q P (by omega)).mono ?_
    rintro e9 w6 ⟨⟨A,fi1,GK,O,ho1,hD1⟩,hb5⟩
    refine⟨_,O,?_⟩
    clear O
    have Z:=aQ hb5 y
    refine Ln<|aY (A)<|aY (au (eF m v))<|aY (A)<|aY (au (eF m v))<|bD<|Wr<|aL (.tuple #[A,au (eF m v)]) ?_
    have b:bf m v=eF m v:=by unfold bf; rw[if_neg (by rw[f]; decide)]; rw[if_neg (by rw[k]; decide)]; rw[if_neg (by rw[n]; decide)]; exact if_neg (by rw[D,s,u]; decide)
    exact⟨⟨_,_,_,by rw[b],ho1,fun d=>(hD1 (b.symm.trans d)).low y.size⟩,Z⟩
   rw[Bool.not_eq_true]at s
   refine Rs aF (aP F.aM a ((xB (by omega)).trans (congrArg Value.bool s))) ?_
   refine aY aI<|aY aI<|bD<|aT<|Wk<|sN<|aT<|ay<|av (.nilFunc)<|av (au 10)<|aD<|Wr<|bU<|sR<|aL (.tuple #[.nilFunc,au 10]) ?_
   have b:bf m v=10:=by unfold bf; rw[if_neg (by rw[f]; decide)]; rw[if_neg (by rw[k]; decide)]; rw[if_neg (by rw[n]; decide)]; exact if_pos (.inl (by rw[D]; exact s))
   exact⟨⟨.nilFunc,0,#[],by rw[b],rfl,fun d=>absurd (b.symm.trans d) (by first|decide|omega|assumption)⟩,J⟩
  rw[Bool.not_eq_true]at n
  refine eG (F3 m.known v _ l N) aF (by rw[n]) ?_
  intro w7 hb6
  have aa:=aQ hb6 I
  refine Ln<|aY aI<|aY aI<|bD<|aT<|ay<|av (.nilFunc)<|av (au 13)<|aD<|Wr<|bU<|sR<|aL (.tuple #[.nilFunc,au 13]) ?_
  have b:bf m v=13:=by unfold bf; rw[if_neg (by rw[f]; decide)]; rw[if_neg (by rw[k]; decide)]; exact if_pos n
  exact⟨⟨.nilFunc,0,#[],by rw[b],rfl,fun d=>absurd (b.symm.trans d) (by first|decide|omega|assumption)⟩,aa⟩
 rw[Bool.not_eq_true]at f
 refine eG (zw v _ l) aF (by rw[f]) ?_
 intro w8 WQ
 have ab:=aQ WQ G
 refine av aI<|av aI<|aD<|aT<|ay<|av (.nilFunc)<|av (au 1)<|aD<|Wr<|bU<|sR<|aL (.tuple #[.nilFunc,au 1]) ?_
 have b:bf m v=1:=by unfold bf; exact if_pos f
 exact⟨⟨.nilFunc,0,#[],by rw[b],rfl,fun d=>absurd (b.symm.trans d) (by first|decide|omega|assumption)⟩,ab⟩
set_option maxRecDepth 20000
set_option linter.unusedVariables false
namespace Rt
noncomputable def iO(m:dz)(v:EvM):dz:=if bf m v=0 then { fT m v with known:=aV (fT m v).known (bA v) ((fT m v).known (bA v)+1) } else m
theorem Df(m:dz)(v:EvM):(fT m v).known=m.known:=by
 unfold fT
 repeat (first|rfl|split)
def Gg:Nat->Int:=fun _=>0
def lS(m:dz)(k:Int):Nat->Int:=if m.T.has k=true then yj m k else Gg
end Rt
theorem gZ.known{w w':World}{B lp:Nat}{m:dz}{K:Nat->Int}(h:gZ w B lp m)(e:Stp lp w w')(d:aK w' lp 29 (mY { m with known:=K }) 93):gZ w' B lp { m with known:=K }:=by
 have b:=jw e h.c.ty
 exact { c:=d,t:=h.t.jo b (by decide),p:=h.p.jo b trivial,r:=h.r.jo b trivial,g:=h.g.jo b trivial,a:=h.a.jo b trivial,ne:=⟨h.ne.mp,h.ne.mr,h.ne.mg,h.ne.ma,h.ne.pr,h.ne.pg,h.ne.pa,h.ne.rg,h.ne.ra,h.ne.ga⟩,lB:=h.lB,pB:=h.pB,rB:=h.rB,gB:=h.gB,aB:=h.aB }
theorem pK{m:dz}{v:EvM}(h:bf m v=0):bX v=true:=by
 cases hc:bX v with
 | true=>rfl
 | false=>unfold bf at h; rw[if_pos hc]at h; cases h
theorem uV{m:dz}{v:EvM}(h:bf m v=0):v.seq=m.known (bA v)+1/\eF m v=0/\m.inn (bA v)=true/\m.left (bA v)=false:=by
 have d:=pK h
 unfold bf at h
 rw[if_neg (by rw[d]; decide)]at h
 by_cases c:uK m.known v=true
 ·rw[if_pos c]at h; cases h
 rw[if_neg c]at h
 by_cases a:fQ m.known v=false
 ·rw[if_pos a]at h; cases h
 rw[if_neg a]at h
 by_cases b:m.inn (bA v)=false\/m.left (bA v)=true
 ·rw[if_pos b]at h; cases h
 rw[if_neg b]at h
 refine⟨?_,h,?_,?_⟩
 ·have a:fQ m.known v=true:=by cases e:fQ m.known v with|true=>rfl|false=>exact absurd e a
  unfold fQ at a
  simp only[Bool.and_eq_true,decide_eq_true_iff]at a
  exact a.1.2
 ·cases e:m.inn (bA v)with|true=>rfl|false=>exact absurd (.inl e) b
 cases e:m.left (bA v)with|false=>rfl|true=>exact absurd (.inr e) b
theorem YC(m:dz)(lp B:Nat)(w:World)(h:gZ w B lp m)(v:EvM)(C:jc v)(A:UL m)(q:1<=B)(i:gF w 0 0 8 vI) :
 Calls Tryd.prog 15 #[(pt lp),.agg (aC 14 (dJ v))] w fun e w'=>e = .returned (au (bf m v))/\Below w.heap.size w w':=by
 have s:=h.c
 have K:=h.t
 have x:=h.p
 have y:=h.r
 have u:=h.g
 have o:=h.a
 have J:=h.ne
 have N:=h.c.lt
 have R:=h.t.lt
 have P:=h.p.lt
 have Q:=h.r.lt
 have O:=h.g.lt
 have M:=h.a.lt
 refine Kent Tryd.func15 14 ?_
 refine ay<|rR fun n w1 b k E z1 => ?_
 have⟨D,f⟩:=fV E.old i (Below.refl w.heap.size w)
 have S:=gP b
 have⟨T,U,V,W,X⟩:=tC b s.lt x.lt y.lt u.lt o.lt
 have Y:0≠n:=by rw[b]; exact Nat.ne_of_lt (i.lt (by omega))
 have Z:=k.lt
 refine av (au 0)<|aD<|ay<|av ((pt lp))<|Lv (.agg (aC 14 (dJ v))) (kg k.aM 0)<|jT (Gf m lp B _ (h.up f) v C A q D) ?_
 rintro G w2 ⟨⟨d,H,F,j,L,I⟩,z⟩
 refine⟨_,j,?_⟩
 clear j
 have l:=aQ z f
 refine av (.tuple #[d,au (bf m v)])<|av (d)<|av (au (bf m v))<|av (d)<|av (au (bf m v))<|aD<|ay<|av (au (bf m v))<|av (au (bf m v))<|aD<|Wr<|aL (au (bf m v)) ?_
 exact⟨rfl,l⟩
theorem Nt(m:dz)(lp B:Nat)(w:World)(h:gZ w B lp m)(v:EvM)(hwf:jc v)(L:UL m)(Y:1<=B)(H:gF w 0 0 8 vI) :
 Calls Tryd.prog 14 #[(pt lp),.agg (aC 14 (dJ v))] w fun e w'=>e = .returned (au (bf m v))/\gZ w' B lp (iO m v)/\iR (Ko m lp w.heap.size) w w':=by
 have E:=h.c
 have hT:=h.t
 have hP:=h.p
 have hR:=h.r
 have hG:=h.g
 have X:=h.a
 have hN:=h.ne
 have lC:=h.c.lt
 have lT:=h.t.lt
 have lP:=h.p.lt
 have lR:=h.r.lt
 have lG:=h.g.lt
 have lA:=h.a.lt
 refine Kent Tryd.func14 30 ?_
 refine ay<|rR fun D w1 u C s1 z1 => ?_
 have⟨b,m8,j⟩:=kI s1.old E H (Below.refl w.heap.size w)
 have xW:=gP u
 have⟨mJ,qK,uP,uQ,uR⟩:=tC u E.lt hP.lt hR.lt hG.lt X.lt
 have Lb:0≠D:=by rw[u]; exact Nat.ne_of_lt (H.lt (by omega))
 have yC:=C.lt
 refine av (au 0)<|aD<|ay<|av ((pt lp))<|Lv (.agg (aC 14 (dJ v))) (kg C.aM 0)<|jT (Gf m lp B _ (h.up j) v hwf L Y m8) ?_
 rintro U w2 ⟨⟨y,W,T,i,ho1,Z⟩,hb1⟩
 refine⟨_,i,?_⟩
 clear i
 have⟨N,l⟩:=fV hb1 C j
 refine av (.tuple #[y,au (bf m v)])<|av (y)<|av (au (bf m v))<|av (y)<|av (au (bf m v))<|aD<|Ws<|ay<|av (au (bf m v)) ?_
 by_cases d:(bf m v)=0
 ·refine Lv aF (qP d)<|aD<|aN<|Wk<|sN<|Ws ?_
  have z:=Z d
  have hfe:=z.e
  subst hfe
  refine Wl<|av (.func (.func W) #[] T)<|uY (by rfl) (Fx.FX (args := []) rfl rfl rfl (by simp) z.f) rfl<|(z.s _ (Below.refl _ _)).mono ?_
  rintro U n ⟨i,A,F⟩
  refine⟨_,i,?_⟩
  clear i
  have I:iR (Ko m lp w.heap.size) w n:=(Fx.iR.of_below l) |> fun q=>Fx.iR.trans _ _ _ q (F.mono fun k hk=>hk.imp id (Nat.le_trans j.size))
  obtain⟨b,x⟩ : ∃ q,q=fT m v:=⟨_,rfl⟩
  rw[<- x]at A
  have V:b.known=m.known:=by rw[x,Df]
  have G:=A.c
  have lC2:=G.lt
  have hkb:=(uV d).1
  have M:=pK d
  obtain⟨a,J,ho⟩ : ∃ a:Nat,a<6/\v.o=(a:Int)+1:=dO (gN M)
  have hra:bA v=a:=by unfold bA; omega
  have hbd:=kP M
  have hka:=L.kn a J
  have O:=(h.up l).AJ (w':=n) (N) (by decide) F (by have:=N.lt; have:=j.size; omega)
  have adK:=O.lt
  refine aD<|Ws ?_
  -- region 5 draws
  refine jy [0,1,4,5,9,10,2,3,6,7,8,11,12] [0,0,4,0,0,0,0,4,0,0,0,0,3] [(12,2,[2]),(12,7,[7])] fun rE K ig => ?_
  have s3:Stp n.heap.size n rE:=Sb K
  have⟨P,m19,m20⟩:=kI K G A O
  have R:=I.then s3 (.inr I.size)
  refine aY ((pt lp))<|aY ((pt D))<|aY ((pt lp))<|aY ((pf lp 12))<|aY ((pt lp))<|aY ((pf lp 12))<|Rs (au v.o) (aP m20.aM 0) ?_
  refine Rp (au a) (fun _=>iC)<|Rp ((pf lp (a+12))) (fun _=>vK 6 1)<|Rs (aA (b.known a)) (aP P.aM (a+12) (mW (p:=a) (by omega) (by omega))) ?_
  refine Rp (aA (b.known a+1)) (fun v1=>Fx.NT rfl rfl rfl (jv (by rw[V]; omega) rfl))<|Rp ((pf lp (a+12))) (fun _=>vK 6 1)<|fU<|mX P (a+12) (aA (b.known a+1)) fun w4 m21 Q z2 => ?_
  have m22:aK w4 lp 29 (mY { b with known:=aV b.known a (b.known a+1) }) 93:=m21.to (Hq J (by omega) _)
  have S:=R.then Q (.inl (.inl (.inl rfl)))
  refine Ln (bD (ay (av (au 0) (aD (Wr (aL (au 0) (⟨by rw[d],?_,S⟩)))))))
  rw[show iO m v = { b with known:=aV b.known a (b.known a+1) } by unfold iO; rw[if_pos d,<- x,hra]]
  exact m19.known Q m22
 refine Lv aI (tu d) (aD (aT (ay (av (au (bf m v)) (av (au (bf m v)) (aD (Wr (sR (aL (au (bf m v)) (⟨rfl,?_,Fx.iR.of_below l⟩))))))))))
 rw[show iO m v=m by unfold iO; exact if_neg d]; exact h.up l
set_option maxRecDepth 20000
set_option linter.unusedVariables false
namespace Rt
def sQ(k f c d e b a:Nat):dz := { inn:=fun i=>decide (i<k),left:=fun _=>false,known:=fun _=>0,own:=fun _=>0,T:=bW.zero,R:=fun _ _=>0,gn:=0,g:=fun _ _=>0,an:=0,ao:=fun _=>0,ar:=fun _=>0,tp:=f,mb:=c,pb:=d,rb:=e,gb:=b,ab:=a }
end Rt
theorem Lp(k g c d f b a:Nat)(h:k<6):gu (mY (sQ k g c d f b a)) k (.bool true)=mY (sQ (k+1) g c d f b a):=by
 rw[Km h]
 have:aV (sQ k g c d f b a).inn k true=(sQ (k+1) g c d f b a).inn:=by
  funext i
  show(if i=k then true else decide (i<k))=decide (i<k+1)
  by_cases e:i=k
  ·subst e; rw[if_pos rfl]; exact(decide_eq_true (by omega)).symm
  ·rw[if_neg e]; exact decide_eq_decide.2 (by omega)
 show mY { sQ k g c d f b a with inn:=_ }=_
 rw[this]; rfl
theorem Nu(m:dz)(lp B:Nat)(w:World)(h:gZ w B lp m) :
 Calls Tryd.prog 16 #[(pt lp)] w fun e w'=>e = .returned (.agg (aC 6 (rv .u64 m.known)))/\Below w.heap.size w w':=by
 have f:=h.c
 have E:=h.t
 have q:=h.p
 have s:=h.r
 have o:=h.g
 have n:=h.a
 have D:=h.ne
 have H:=h.c.lt
 have L:=h.t.lt
 have J:=h.p.lt
 have K:=h.r.lt
 have I:=h.g.lt
 have G:=h.a.lt
 refine Kent Tryd.func16 10 ?_
 refine ay<|yw (m:=6) (y:=rv .u64 (fun _=>0)) (by rfl) rfl (by kernel_rfl) rfl fun l T d i z U => ?_
 have⟨u,b⟩:=fV z.old f (Below.refl w.heap.size w)
 have M:=gP d
 have⟨N,O,P,Q,R⟩:=tC d f.lt q.lt s.lt o.lt n.lt
 have S:=i.lt
 refine aD<|Ws<|ay<|av ((pt lp))<|Lv aF (Fx.jI rfl rfl rfl (by kernel_rfl))<|aD<|aN<|Wk<|sN<|ay<|av ((pt lp))<|av ((pt lp))<|av ((pf lp 12))<|Lv (.agg (aC 6 (rv .u64 m.known))) (kg u.aM 12 (fun j F=>mW (p:=j) (by omega) (by omega)))<|gU i 0 fun C v A V => ?_
 have x:aK C l 6 (rv .u64 m.known) 26:=aS v
 have k:=A.below b b.size (by omega)
 refine aD (Wr (⟨.agg (aC 6 (rv .u64 m.known)),rV Tryd.results16 ⟨_,rfl,bB x.aM (by kernel_rfl) (by kernel_rfl)⟩,?_⟩))
 exact⟨rfl,k⟩
theorem Nv(m:dz)(lp B:Nat)(w:World)(h:gZ w B lp m)(i b:Int)(hi : -9223372036854775808<=i/\i<=9223372036854775807) :
 Calls Tryd.prog 17 #[(pt lp),au i,aA b] w fun e w'=>e = .returned (au (dI (lS m b) i))/\Below w.heap.size w w':=by
 have u:=h.c
 have F:=h.t
 have E:=h.p
 have l:=h.r
 have C:=h.g
 have A:=h.a
 have D:=h.ne
 have H:=h.c.lt
 have L:=h.t.lt
 have J:=h.p.lt
 have K:=h.r.lt
 have I:=h.g.lt
 have G:=h.a.lt
 refine Kent Tryd.func17 17 ?_
 refine ay<|av (au 0)<|aD<|Ws<|ay<|av ((pt lp))<|Lv aF (Fx.jI rfl rfl rfl (by kernel_rfl))<|aD<|aN<|Wk<|sN<|ay<|av ((pt lp))<|av ((pt lp))<|av ((pf lp 20))<|Lv (.map (some m.rb)) (aP u.aM 20)<|av (aA b) ?_
 rcases Fx.kL m.T.x m.T.n b with ⟨d,k,f⟩|fE
 ·refine Lv (.agg (aC 54 (rv .i64 (m.R d)))) (Fx.rT (z := .agg (aC 54 (rv .i64 (fun _=>0)))) rfl rfl rfl l Tryd.underlying88 Tryd.underlying22 (by kernel_rfl) k f rfl)<|av (au i)<|eG (nG (m.R d) i _ hi) _ rfl ?_
  intro M v
  have o:=aQ v (Below.refl w.heap.size w)
  refine av (au (dI (m.R d) i))<|aD<|Wr<|aL (au (dI (m.R d) i)) ?_
  have j:lS m b=m.R d:=by unfold lS yj; rw[if_pos (show m.T.has b=true from fO k f),show m.idx b=d from jg h.t.inv.inj k f]
  exact⟨congrArg (fun q=>Ending.returned (Value.int .i64 (dI q i))) j.symm,o⟩
 refine Lv (.agg (aC 54 (rv .i64 (fun _=>0)))) (Fx.Fq (z := .agg (aC 54 (rv .i64 (fun _=>0)))) rfl rfl rfl l Tryd.underlying88 Tryd.underlying22 (by kernel_rfl) fE)<|av (au i)<|eG (nG (fun _=>0) i _ hi) _ rfl ?_
 intro N y
 have s:=aQ y (Below.refl w.heap.size w)
 refine av (au (dI (fun _=>0) i))<|aD<|Wr<|aL (au (dI (fun _=>0) i)) ?_
 have j:lS m b=Gg:=by unfold lS; exact if_neg (by rw[show m.T.has b=false from pR fE]; decide)
 exact⟨congrArg (fun q=>Ending.returned (Value.int .i64 (dI q i))) j.symm,s⟩
theorem R3(m:dz)(lp B:Nat)(w:World)(h:gZ w B lp m)(b:Int) :
 Calls Tryd.prog 18 #[(pt lp),aA b] w fun e w' => ∃ a c,e = .returned (.slice a (m.T.path b).length c)/\LY w' w.heap.size a c (m.T.path b)/\Below w.heap.size w w':=by
 have k:=h.c
 have l:=h.t
 have x:=h.p
 have y:=h.r
 have u:=h.g
 have s:=h.a
 have v:=h.ne
 have A:=h.c.lt
 have F:=h.t.lt
 have D:=h.p.lt
 have E:=h.r.lt
 have C:=h.g.lt
 have z:=h.a.lt
 refine Kent Tryd.func18 13 ?_
 refine ay<|av (.slice none 0 0)<|aD<|Ws<|ay<|av ((pt lp))<|Lv aF (Fx.jI rfl rfl rfl (by kernel_rfl))<|aD<|aN<|Wk<|sN<|ay<|av ((pt lp))<|av ((pt lp))<|av ((pf lp 18))<|Lv ((pt m.tp)) (aP k.aM 18)<|av (aA b)<|jT (Al b l) ?_
 rintro q G ⟨f,i,d,o,n⟩
 refine⟨_,d,?_⟩
 clear d
 have j:=aQ n (Below.refl w.heap.size w)
 refine av (.slice f ((bW.path m.T b).length) (i))<|aD<|Wr<|aL (.slice f ((bW.path m.T b).length) (i)) ?_
 exact⟨_,_,rfl,o,j⟩
theorem Nw(w:World)(a:Int) :
 Calls Tryd.prog 18 #[.pointer none,aA a] w fun e w'=>e = .returned (.slice none 0 0)/\Below w.heap.size w w':=by
 refine Kent Tryd.func18 13 ?_
 refine ay<|av (.slice none 0 0)<|aD<|Ws<|ay<|av (.pointer none)<|Lv aI (Fx.BG rfl rfl rfl (by kernel_rfl))<|aD<|aT<|ay<|av (.slice none 0 0)<|aD<|Wr<|sR<|aL (.slice none 0 0) ?_
 exact⟨rfl,(Below.refl w.heap.size w)⟩
theorem UO(k:Nat)(hk:1<=k/\k<=6)(w:World) :
 Calls Tryd.prog 13 #[au ((k:Int))] w fun e w' => ∃ lp m,e = .returned (.tuple #[(pt lp),au 0])/\(∃ tp mb pb rb gb ab,m=sQ k tp mb pb rb gb ab)/\gZ w' w.heap.size lp m/\Below w.heap.size w w':=by
 refine Kent Tryd.func13 30 ?_
 refine ay<|av (.pointer none)<|av (au 0)<|aD<|Ws<|ay<|av (au k)<|Lv aF BJ<|av aF<|av (au k)<|Lv aF qx<|av aF<|aD<|aN<|Wk<|sN<|ay<|jT (OA _) ?_
 rintro e9 w1 ⟨n,x,V,hg1,W,hb1⟩
 refine⟨_,V,?_⟩
 clear V
 have J:=aQ hb1 (Below.refl w.heap.size w)
 have m2:kV w1 (w.heap.size) n x bW.zero:=W.weak (Below.refl w.heap.size w).size
 clear W hg1
 refine Fx.L.BM (by rfl) rfl rfl fun o w2 Q G s2 z1 => ?_
 have⟨m4,K⟩:=fV s2.old m2 J
 have xW:=iT Q J.size
 have R4:=bR Q m2.lt
 have yC:=G.lt
 refine Fx.L.BM (by rfl) rfl rfl fun q w3 R H s3 z2 => ?_
 have⟨m6,m7,M⟩:=kI s3.old m4 G K
 have Bo:=iT R K.size
 have⟨R5,OG⟩:=yx R m4.lt G.lt
 have Dy:=H.lt
 refine Fx.L.IV (by rfl) rfl rfl fun s w4 S I s4 z3 => ?_
 have⟨m9,X,Y,N⟩:=jY s4.old m6 m7 H M
 have I6:=iT S M.size
 have⟨R6,YD,Lm⟩:=DZ S m6.lt m7.lt H.lt
 have KD:=I.lt
 refine Fx.L.IV (by rfl) rfl rfl fun u w5 T E s5 z4 => ?_
 have⟨m13,Z,aa,ac,O⟩:=ql s5.old m9 X Y I N
 have MX:=iT T N.size
 have⟨R7,RY,RZ,Lr⟩:=IJ T m9.lt X.lt Y.lt I.lt
 have L8:=E.lt
 refine av (.agg (aC 29 (dn (dn (dn (dn (dn (fun d=>if d<12 then .bool false else if d<18 then aA 0 else if d<19 then .pointer none else if d<21 then .map none else if d<27 then au 0 else .map none) 18 1 (fun _=>(pt n))) 19 1 (fun _ => .map (some o))) 20 1 (fun _ => .map (some q))) 27 1 (fun _ => .map (some s))) 28 1 (fun _ => .map (some u)))))<|Bb (m:=29) (y:=dn (dn (dn (dn (dn (fun d=>if d<12 then .bool false else if d<18 then aA 0 else if d<19 then .pointer none else if d<21 then .map none else if d<27 then au 0 else .map none) 18 1 (fun _=>(pt n))) 19 1 (fun _ => .map (some o))) 20 1 (fun _ => .map (some q))) 27 1 (fun _ => .map (some s))) 28 1 (fun _ => .map (some u))) (by rfl) rfl rfl (bY _ _) rfl fun b w6 U ad s6 z5 => ?_
 have⟨m18,m19,m20,m21,m22,b6⟩:=wG s6.old m13 Z aa ac E O
 have UK:=iT U O.size
 have⟨YE,YF,YG,YH⟩:=IJ U Z.lt aa.lt ac.lt E.lt
 have Yp:=ad.lt
 have l:ZV (sQ 0 n x o q s u):=⟨R4,R5,R6,R7,by assumption,by assumption,by assumption,by assumption,by assumption,by assumption⟩
 have m23:aK w6 b 29 (mY (sQ 0 n x o q s u)) 93:=ad.congr (fun j hj=>match j,hj with|0,_=>rfl|1,_=>rfl|2,_=>rfl|3,_=>rfl|4,_=>rfl|5,_=>rfl|6,_=>rfl|7,_=>rfl|8,_=>rfl|9,_=>rfl|10,_=>rfl|11,_=>rfl|12,_=>rfl|13,_=>rfl|14,_=>rfl|15,_=>rfl|16,_=>rfl|17,_=>rfl|18,_=>rfl|19,_=>rfl|20,_=>rfl|21,_=>rfl|22,_=>rfl|23,_=>rfl|24,_=>rfl|25,_=>rfl|26,_=>rfl|27,_=>rfl|28,_=>rfl|j+29,h=>absurd h (by omega))
 refine av ((pt b))<|aD<|Ws<|ay<|av (au k)<|av (au 0)<|aD<|Wb<|Wo (fun f z => ∃ i:Nat,i<=k/\f 4=(pt b)/\f 19=au ((k:Int))/\f 20=au ((i:Int))/\kV z (w.heap.size) n x bW.zero/\Mp z o 0 (fun _=>0) (fun _ => .pointer none)/\Mp z q 0 (fun _=>0) (fun _ => .pointer none)/\fC z s 0 (fun _=>0) (fun _=>0) (fun _ => .pointer none)/\fC z u 0 (fun _=>0) (fun _=>0) (fun _ => .pointer none)/\aK z b 29 (mY (sQ i n x o q s u)) 93/\Below w.heap.size w z) (fun f _=>((k:Int)-intOf (f 20)).toNat) ⟨0,(by omega),(by rfl),Fx.ic,Fx.ic,m18,m19,m20,m21,m22,m23,b6⟩ ?_
 rintro f1 w7 ⟨i,v,C,D,A,m24,rG,rY,tL,vO,F,B⟩
 refine ay ?_
 by_cases P:(i:Int)<(k:Int)
 ·refine Lv aI (nV P (hx:=A) (hy:=D))<|aD<|Ws<|aT<|Wk<|sN<|Ws<|Wb<|ay<|aX A<|av (au i)<|aD<|Wl<|aX C<|av (au i)<|av ((pt b))<|av ((pt b))<|Lv ((pf b i)) (vK 6 1)<|mX F i aI fun w8 yD s7 z6 => ?_
  have oq:aK w8 b 29 (mY (sQ (i+1) n x o q s u)) 93:=yD.to (Lp i _ _ _ _ _ _ (by omega))
  have iZ:=jw s7 F.ty
  have⟨m32,qE,ou,sU,uH⟩:=II iZ m24 rG rY tL vO
  have b8:=s7.below B B.size (by omega)
  refine Ln<|dA<|sN<|Wl<|Lv (au ((i:Int)+1)) (gD (hx:=A))<|av (au ((i:Int)+1))<|Ln<|iP ⟨i+1,(by omega),C,(D.trans Fx.ic),Fx.ic,m32,qE,ou,sU,uH,oq,b8⟩ ?_
  show((k:Int)-intOf ((au ((i:Int)+1)))).toNat<_
  simp only[A,intOf]; omega
 refine Lv aF (nW P (hx:=A) (hy:=D))<|aD<|Ws<|aN<|Wx<|cZ<|gX<|dh<|sN<|ay<|aX C<|av ((pt b))<|av (au 0)<|aD<|Wr<|aL (.tuple #[(pt b),au 0]) ?_
 have eik:i=k:=by omega
 subst eik
 exact⟨b,sQ i n x o q s u,rfl,⟨_,_,_,_,_,_,rfl⟩,{ c:=F,t:=m24,p:=rG.mI fun i v=>absurd v (Nat.not_lt_zero _),r:=rY.mI fun i v=>absurd v (Nat.not_lt_zero _),g:=tL.mI fun i v=>absurd v (Nat.not_lt_zero _),a:=vO.mI fun i v=>absurd v (Nat.not_lt_zero _),ne:=⟨l.mp,l.mr,l.mg,l.ma,l.pr,l.pg,l.pa,l.rg,l.ra,l.ga⟩,lB:=UK,pB:=xW,rB:=Bo,gB:=I6,aB:=MX },B⟩
end Go.Proofs.YtahbiajdgealnaaDoor
namespace Go.Proofs.YtahbiajdgealnaaDoor
open Go.RowKit Go.Sort Rt
set_option linter.unusedVariables false
set_option maxRecDepth 20000
namespace Fx
def OW(w w':World):Prop := ∃ q a,w'=grow (w.drewN q) a
theorem OW.refl(w:World):OW w w:=⟨0,#[],by rw[grow_empty]; rfl⟩
theorem OW.alloc{w a b:World}(h:OW w a)(z : ∃ o,b=a.alloc o):OW w b:=by
 obtain⟨q,c,rfl⟩:=h
 obtain⟨o,rfl⟩:=z
 exact⟨q,c ++ #[o],by rw[alloc_eq_grow,grow_grow]⟩
theorem OW.drew{w a b:World}(h:OW w a)(z:b=a.drew):OW w b:=by
 obtain⟨q,c,rfl⟩:=h
 subst z
 exact⟨q+1,c,rfl⟩
end Fx
namespace Rt
structure Ih where
 x:Nat->Int
 h:0<=x 1/\x 1<=18446744073709551615
def g0:Ih:=⟨fun _=>0,by decide⟩
instance:Inhabited Ih:=⟨g0⟩
def SF(x:Nat->Int):Ih:=if h:0<=x 1/\x 1<=18446744073709551615 then⟨x,h⟩else g0
def R8(x:Ih):Int:=x.x 0*18446744073709551616+x.x 1
theorem UQ{x:Nat->Int}(h:0<=x 1/\x 1<=18446744073709551615):(SF x).x=x:=by unfold SF; rw[dif_pos h]
structure OX(n:Nat)(S:Nat->Bool)(il:List Nat):Prop where
 nd:il.Nodup
 mem : ∀ i,i∈il<->(i<n/\S i=true)
theorem OX.start(n:Nat):OX n (fun _=>false) []:=⟨List.nodup_nil,fun i=>⟨fun h=>(nomatch h),fun h=>(nomatch h.2)⟩⟩
theorem OX.step{n i:Nat}{S:Nat->Bool}{c:List Nat}(h:OX n S c)(hi:i<n)(l:S i=false):OX n (Fx.aH S i true) (c ++ [i]):=by
 have k:i ∉ c:=fun g=>by have:=((h.mem i).1 g).2; rw[l]at this; cases this
 refine⟨List.nodup_append.2 ⟨h.nd,by simp,fun a f b d e => ?_⟩,fun j => ?_⟩
 ·rw[List.mem_singleton]at d; subst d; subst e; exact k f
 rw[List.mem_append,List.mem_singleton,h.mem]
 show _<->(j<n/\(if j=i then true else S j)=true)
 by_cases e:j=i
 ·subst e; rw[if_pos rfl]; exact⟨fun _=>⟨hi,rfl⟩,fun _ => .inr rfl⟩
 rw[if_neg e]; exact⟨fun h=>h.elim id fun h=>absurd h e,fun h => .inl h⟩
theorem OX.len{n:Nat}{S:Nat->Bool}{c:List Nat}(h:OX n S c):c.length<=n :=
 uh n c.length (fun q=>c.getD q 0) (fun q d=>by
  have:c.getD q 0∈c:=by rw[List.getD_eq_getElem?_getD,List.getElem?_eq_getElem d]; exact List.getElem_mem d
  exact((h.mem _).1 this).1) fun a b f g e=>by
  have e:c.getD a 0=c.getD b 0:=e
  rw[List.getD_eq_getElem?_getD,List.getD_eq_getElem?_getD,List.getElem?_eq_getElem f,List.getElem?_eq_getElem g]at e
  exact(List.getElem_inj h.nd).1 e
structure VE(m:dz)(l:List Ih):Prop where
 mem : ∀ x,x∈l -> ∃ i,i<m.gn/\x.x=m.g i
 all : ∀ i,i<m.gn -> ∃ x,x∈l/\x.x=m.g i
 up:l.Pairwise fun x y=>R8 x<R8 y
theorem VE.of{m:dz}{w:World}{b:Nat}{t:List Nat}{l:List Ih}{S:Nat->Bool}(o:Fx.fC w b m.gn (fun i=>m.g i 0) (fun i=>m.g i 1) (qX m.g))(hi:OX m.gn S t)(z : ∀ i,i<m.gn->S i=true)(r:l.Perm (t.map fun i=>SF (m.g i)))(B:l.Pairwise fun x y=>R8 x<=R8 y):VE m l:=by
 have k : ∀ i,i<m.gn->(SF (m.g i)).x=m.g i:=fun i hi=>UQ (o.ok hi).b
 have f : ∀ i,i∈t<->i<m.gn:=fun i=>by rw[hi.mem]; exact⟨fun h=>h.1,fun h=>⟨h,z i h⟩⟩
 have p : ∀ x,x∈l -> ∃ i,i<m.gn/\x=SF (m.g i):=fun x s=>by
  obtain⟨i,c,d⟩:=List.mem_map.1 (r.mem_iff.1 s)
  exact⟨i,(f i).1 c,d.symm⟩
 have A:l.Nodup:=by
  rw[r.nodup_iff,List.nodup_iff_pairwise_ne,List.pairwise_map]
  refine(List.nodup_iff_pairwise_ne.1 hi.nd).imp_of_mem fun {a b} ha hb q e=>q ?_
  have c:=congrArg Ih.x e
  rw[k a ((f a).1 ha),k b ((f b).1 hb)]at c
  exact o.inj a b ((f a).1 ha) ((f b).1 hb) (by show m.g a 0=m.g b 0; rw[c]) (by show m.g a 1=m.g b 1; rw[c])
 refine⟨fun x s => ?_,fun i c => ?_,?_⟩
 ·obtain⟨i,c,d⟩:=p x s
  exact⟨i,c,by rw[d,k i c]⟩
 ·exact⟨SF (m.g i),r.mem_iff.2 (List.mem_map.2 ⟨i,(f i).2 c,rfl⟩),k i c⟩
 refine(B.and (List.nodup_iff_pairwise_ne.1 A)).imp_of_mem fun {a b} ha hb h => ?_
 obtain⟨i,c,u⟩:=p a ha
 obtain⟨j,d,v⟩:=p b hb
 have q:=h.2
 rcases Int.lt_or_eq_of_le h.1 with h3|h3
 ·exact h3
 exfalso
 have C:=a.h
 have D:=b.h
 unfold R8 at h3
 refine q ?_
 have n:a.x 0=b.x 0/\a.x 1=b.x 1:=by omega
 rw[u,v,k i c,k j d]at n
 have:=o.inj i j c d n.1 n.2
 rw[u,v,this]
def ndQ(m:dz)(l:List Int)(k:Nat):Nat->Value:=Vm (l.getD k 0) (m.T.par (l.getD k 0)) (yj m (l.getD k 0))
def grQ(l:List Ih)(k:Nat):Nat->Value:=vE (l.getD k g0).x
end Rt
structure StQ(w:World)(B:Nat)(m:dz)(s:Er)(l:List Int)(gl:List Ih):Prop where
 inn:s.inn=m.inn
 left:s.left=m.left
 known:s.known=m.known
 nn:s.nn=l.length
 gn:s.gn=gl.length
 ls:l.Pairwise (· < ·) /\ ∀ k,k∈l<->m.T.has k=true
 len:l.length<=32
 gs:VE m gl
 glb:gl.length<=m.gn
 n:Fx.Own w B 84 56 (.slice s.na s.nn s.nc) s.nn (Fx.flat 56 (ndQ m l))
 g:Fx.Own w B 99 5 (.slice s.ga s.gn s.gc) s.gn (Fx.flat 5 (grQ gl))
end Go.Proofs.YtahbiajdgealnaaDoor
namespace Go.Proofs.YtahbiajdgealnaaDoor
open Go.RowKit Go
set_option linter.unusedVariables false
namespace Rt
section
variable {f:(Nat->Int)->(Nat->Int) × Int} {idx:Nat->Nat} {R:Nat->Nat->Int} {r r':Nat->Nat->Int} {n K k:Nat}
theorem uW : ∀ {n:Nat},(∀ i,i<n->r i=r' i)->iB f r n=iB f r' n
 | 0,_=>rfl
 | n+1,h=>by unfold iB; rw[uW (n:=n) fun i a=>h i (by omega),h n (by omega)]
theorem xP : ∀ {K:Nat},(∀ i j,i<K->j<K->idx i=idx j->i=j)->(dB f idx R K).2=iB f (fun i=>R (idx i)) K/\((dB f idx R K).2=0 -> ∀ k,(dB f idx R K).1 k=R k/\(∀ i,i<K->idx i≠k)\/(dB f idx R K).1 k=(f (R k)).1 /\ ∃ i,i<K/\idx i=k)
 | 0,_=>⟨rfl,fun _ k => .inl ⟨rfl,fun _ h=>absurd h (Nat.not_lt_zero _)⟩⟩
 | K+1,hi=>by
   obtain⟨q,r⟩:=xP (K:=K) fun i j a b=>hi i j (by omega) (by omega)
   unfold iB
   rw[<- q]
   by_cases c:(dB f idx R K).2=0
   ·have n:=r c
    have p:(dB f idx R K).1 (idx K)=R (idx K):=by
     rcases n (idx K)with h|⟨_,i,d,g⟩
     ·exact h.1
     ·have:=hi i K (by omega) (by omega) g; omega
    rw[if_pos c]
    have e:dB f idx R (K+1)=(if(f ((dB f idx R K).1 (idx K))).2=0 then(aV (dB f idx R K).1 (idx K) (f ((dB f idx R K).1 (idx K))).1,0)else((dB f idx R K).1,(f ((dB f idx R K).1 (idx K))).2)):=by show(if _ then _ else _)=_; rw[if_pos c]
    rw[e,p]
    by_cases l:(f (R (idx K))).2=0
    ·rw[if_pos l]
     refine⟨l.symm,fun _ k => ?_⟩
     show aV (dB f idx R K).1 (idx K) _ k=R k/\_\/aV (dB f idx R K).1 (idx K) _ k=(f (R k)).1/\_
     unfold aV
     by_cases e:k=idx K
     ·subst e; rw[if_pos rfl]; exact .inr ⟨rfl,K,by omega,rfl⟩
     ·rw[if_neg e]
      rcases n k with ⟨d,g⟩|⟨d,i,g,h5⟩
      ·refine .inl ⟨d,fun i s m => ?_⟩
       by_cases o:i=K
       ·subst o; exact e m.symm
       ·exact g i (by omega) m
      ·exact .inr ⟨d,i,by omega,h5⟩
    ·rw[if_neg l]; exact⟨rfl,fun h=>absurd h l⟩
   ·rw[if_neg c]
    have e:dB f idx R (K+1)=dB f idx R K:=by show(if _ then _ else _)=_; rw[if_neg c]
    rw[e]
    exact⟨rfl,fun h=>absurd h c⟩
end
structure uq(T:bW)(L:eB):Prop where
 has : ∀ k,T.has k=true <-> ∃ i,i<L.nn/\L.id i=k
 n:T.n=L.nn
 par : ∀ i,i<L.nn->T.par (L.id i)=L.par i
section
variable {T:bW} {L:eB} {N:Nat} {x:Int}
theorem uq.find(h:uq T L)(b:Inv0 L N)(x:Int):T.has x=true<->0<=aR L.t L.tn x:=by
 rw[h.has,eH,b.tZ]
 constructor
 ·rintro ⟨i,a,e⟩; exact⟨i,a,by rw[(b.tid i a).1]; exact e⟩
 rintro ⟨i,a,e⟩; exact⟨i,a,by rw[<- (b.tid i a).1]; exact e⟩
theorem uq.findF(h:uq T L)(a:Inv0 L N)(x:Int):T.has x=false<->aR L.t L.tn x<0:=by
 have:=h.find a x
 cases e:T.has x with
 | false=>rw[e]at this; exact⟨fun _=>by rcases OD (aR L.t L.tn x)with h1|h1; exact h1; exact absurd (this.2 h1) (by decide),fun _=>rfl⟩
 | true=>rw[e]at this; have:=this.1 rfl; exact⟨fun h=>(nomatch h),fun h=>by omega⟩
theorem Inv0.at(c:Inv0 L N){i:Nat}(hi:i<L.nn):L.node (L.id i)=(i:Int):=by
 rw[c.node,<- (c.tid i hi).1]
 exact mU (fun a b d f e=>c.Ua a b d f e) (by rw[c.tZ]; exact hi)
theorem uq.next(h:uq T L)(a:Inv0 L N)(hx:T.has x=true):T.par x=L.t (aR L.t L.tn x).toNat 1:=by
 obtain⟨i,b,rfl⟩:=(h.has x).1 hx
 have e:=a.at b
 rw[a.node]at e
 rw[e,h.par i b]
 exact((a.tid i b).2).symm
theorem uq.path(h:uq T L)(f:T.ok)(a:Inv0 L N)(x:Int):(T.path x).length=dK L.t L.tn x /\ ∀ q,q<(T.path x).length->(T.path x).getD q 0=aO L.t L.tn q x:=by
 have g : ∀ q,q<(T.path x).length->T.has ((T.path x).getD q 0)=true/\(q+1<(T.path x).length->(T.path x).getD (q+1) 0=T.par ((T.path x).getD q 0))/\(q+1=(T.path x).length->T.has (T.par ((T.path x).getD q 0))=false):=kr (f.stop x)
 have j : ∀ q,q<(T.path x).length->(T.path x).getD q 0=aO L.t L.tn q x:=by
  intro q
  induction q with
  | zero =>
    intro b
    cases hx:T.has x with
    | false=>rw[show T.path x = []from iA hx]at b; exact absurd b (Nat.not_lt_zero _)
    | true=>rw[bW.step f hx]; rfl
  | succ q ih =>
    intro b
    have l:=ih (by omega)
    have c:=(g q (by show q<(T.path x).length; omega))
    have e:=c.2.1 b
    show(T.path x).getD (q+1) 0=L.t (aR L.t L.tn (aO L.t L.tn q x)).toNat 1
    rw[<- l,<- h.next a c.1]
    exact e
 refine⟨?_,j⟩
 obtain⟨D,n,m⟩:=a.dep x
 refine sw (D:=D) (fun i k => ?_) ?_ m (by omega)
 ·rw[<- j i k,<- h.find a]; exact(g i k).1
 by_cases d:(T.path x).length=0
 ·rw[d]
  show aR L.t L.tn x<0
  rw[<- h.findF a]
  cases hx:T.has x with
  | false=>rfl
  | true=>rw[bW.step f hx]at d; simp at d
 obtain⟨q,b⟩ : ∃ q,(T.path x).length=q+1:=⟨(T.path x).length-1,by omega⟩
 have c:=g q (by show q<(T.path x).length; omega)
 have e:=c.2.2 (by show q+1=(T.path x).length; omega)
 rw[b]
 show aR L.t L.tn (L.t (aR L.t L.tn (aO L.t L.tn q x)).toNat 1)<0
 rw[<- j q (by omega),<- h.next a c.1,<- h.findF a]
 exact e
theorem Ny(d:Inv0 L N)(x:Int):aR L.t L.tn (aO L.t L.tn (dK L.t L.tn x) x)<0:=by
 obtain⟨D,e,b⟩:=d.dep x
 obtain⟨K,f,a,c⟩:=mV D b
 rw[<- sw c a b (by omega)]; exact a
theorem uq.mem(h:uq T L)(f:T.ok)(d:Inv0 L N)(x y:Int):y∈T.path x <-> ∃ i,i<dK L.t L.tn x/\aO L.t L.tn i x=y:=by
 obtain⟨c,b⟩:=h.path f d x
 rw[<- c]
 constructor
 ·intro g
  obtain⟨i,a,e⟩:=List.getElem_of_mem g
  refine⟨i,a,?_⟩
  rw[<- b i a,List.getD_eq_getElem?_getD,List.getElem?_eq_getElem a]; exact e
 rintro ⟨i,a,rfl⟩
 rw[<- b i a,List.getD_eq_getElem?_getD,List.getElem?_eq_getElem a]; exact List.getElem_mem a
theorem uq.err(h:uq T L)(l:T.ok)(a:Inv0 L N)(id pa:Int):T.err id pa=J8 L.t L.tn id pa:=by
 unfold bW.err kX J8
 by_cases c:id=0
 ·rw[if_pos c,if_pos c]
 rw[if_neg c,if_neg c]
 by_cases d:bZ T.x T.n id=true
 ·rw[if_pos d,if_pos ((h.find a id).1 d)]
 rw[if_neg d,if_neg (fun e=>d ((h.find a id).2 e))]
 have j:(¬ pa=0/\bZ T.x T.n pa=false)<->(pa≠0/\aR L.t L.tn pa<0):=by
  rw[<- h.findF a]; exact Iff.rfl
 by_cases f : ¬ pa=0/\bZ T.x T.n pa=false
 ·rw[if_pos f,if_pos (j.1 f)]
 rw[if_neg f,if_neg (fun e=>f (j.2 e))]
 have k:(32<=T.n\/4<=(fP T.x T.p T.n 4 pa).length)<->(32<=L.tn\/zm L.t L.tn pa):=by
  obtain⟨q,r⟩:=h.path l a pa
  have v:(T.path pa).length<=4:=bW.sJ
  have:4<=(T.path pa).length<->zm L.t L.tn pa:=by
   constructor
   ·intro s i u
    have b:=(kr (l.stop pa)) i (by show i<(T.path pa).length; omega)
    rw[<- r i (by omega),<- h.find a]; exact b.1
   ·intro o
    rcases Nat.lt_or_ge (T.path pa).length 4 with b|b
    ·exfalso
     have m:=o _ b
     rw[q]at m
     have:=Ny a pa
     omega
    ·exact b
  show(32<=T.n\/4<=(T.path pa).length)<->_
  rw[this,h.n,a.tZ]
 by_cases g:32<=T.n\/4<=(fP T.x T.p T.n 4 pa).length
 ·rw[if_pos g,if_pos (k.1 g)]
 rw[if_neg g,if_neg (fun e=>g (k.2 e))]
end
end Rt
end Go.Proofs.YtahbiajdgealnaaDoor
namespace Go.Proofs.YtahbiajdgealnaaDoor
open Go.RowKit Go
set_option linter.unusedVariables false
set_option maxRecDepth 20000
namespace Rt
section
variable {m:dz} {k:Int} {i:Nat}
theorem dz.Gi(b:m.T.ok)(c:m.T.has k=true):m.idx k<m.T.n/\m.T.x (m.idx k)=k:=by
 obtain⟨j,a,e⟩:=dV c
 have:m.idx k=j:=jg b.inj a e
 rw[this]; exact⟨a,e⟩
theorem Ls(x:Nat->Int)(id:Int) : ∀ n,(∀ i,i<n->x i≠id)->sG (Fx.aH x n id) (n+1) id=n:=fun n _=>by
 unfold sG
 rw[if_pos]
 unfold Fx.aH
 rw[if_pos rfl]
theorem zI{x y:Nat->Int}{k:Int} : ∀ {n:Nat},(∀ i,i<n->x i=y i)->sG x n k=sG y n k
 | 0,_=>rfl
 | n+1,h=>by unfold sG; rw[h n (by omega),zI (n:=n) fun i a=>h i (by omega)]
theorem Lu(x:Nat->Int){id k:Int}(n:Nat)(b:id≠k):sG (Fx.aH x n id) (n+1) k=sG x n k:=by
 have a:Fx.aH x n id n=id:=by unfold Fx.aH; rw[if_pos rfl]
 show(if Fx.aH x n id n=k then n else sG (Fx.aH x n id) n k)=_
 rw[a,if_neg b]
 exact zI fun i c=>by unfold Fx.aH; rw[if_neg (by omega)]
theorem zJ{f g:Nat->Int}{o:Int} : ∀ {n:Nat},(∀ i,i<n->f i=g i)->oP f o n=oP g o n
 | 0,_=>rfl
 | n+1,h=>by unfold oP; rw[zJ (n:=n) fun i a=>h i (by omega),h n (by omega)]
theorem Dh{f:Nat->Int}{o v:Int}{k:Nat} : ∀ n,k<=n->oP (Fx.bQ f k v) o (n+1)=oP f o n+if v / 1099511627776=o then 1 else 0
 | 0,h=>by
   obtain rfl:k=0:=by omega
   show 0+(if Fx.bQ f 0 v 0 / 1099511627776=o then 1 else 0)=0+_
   rw[bL]
 | n+1,h=>by
   by_cases e:k=n+1
   ·subst e
    show oP (Fx.bQ f (n+1) v) o (n+1)+(if Fx.bQ f (n+1) v (n+1) / 1099511627776=o then 1 else 0)=_
    rw[bL,zJ (g:=f) fun i a=>vU a]
   ·show oP (Fx.bQ f k v) o (n+1)+(if Fx.bQ f k v (n+1) / 1099511627776=o then 1 else 0)=oP f o n+(if f n / 1099511627776=o then 1 else 0)+_
    rw[Dh n (by omega),vV (by omega)]
    show _+(if f n / 1099511627776=o then 1 else 0)=_
    omega
theorem Gj{f:Nat->Int}{o:Int} : ∀ n,oP f o n<=n
 | 0=>Nat.le_refl _
 | n+1=>by have:=Gj (f:=f) (o:=o) n; unfold oP; split <;> omega
theorem uw{P:Nat->Bool}{n:Nat}:0<=eU P n <-> ∃ j,j<n/\P j=true:=by
 rcases iU P n with ⟨k,c,e,a⟩|⟨e,h⟩
 ·rw[e]; exact⟨fun _=>⟨k,c,a⟩,fun _=>by omega⟩
 rw[e]; exact⟨fun h=>by omega,fun⟨j,b,a⟩=>by rw[h j b]at a; cases a⟩
end
structure dP(m:dz)(L:eB):Prop where
 T:uq m.T L
 inn:m.inn=L.inn
 left:m.left=L.left
 known:m.known=L.known
 row : ∀ i,i<L.nn->yj m (L.id i)=L.R i
 own : ∀ a,a<6->m.own a=((oP L.id ((a:Int)+1) L.nn:Nat):Int)
 gi : ∀ i j,i<m.gn->j<m.gn->m.g i 0=m.g j 0->m.g i 1=m.g j 1->i=j
 gn:m.gn=L.gn
 g1 : ∀ q,q<L.gn -> ∃ j,j<m.gn/\m.g j=L.g q
 g2 : ∀ j,j<m.gn -> ∃ q,q<L.gn/\L.g q=m.g j
 ask : ∀(a:Nat) (r:Int),a<6->(jk m ((a:Int)+1) r=true <-> ∃ j,j<L.rn a/\L.rq a j=r)
 ga:RQ m
 li : ∀ p q,p<L.gn->q<L.gn->L.g p 0=L.g q 0->L.g p 1=L.g q 1->p=q
section
variable {m:dz} {L:eB} {N:Nat} {v:EvM} {x:Int}
theorem dP.node(h:dP m L)(a:Inv0 L N)(x:Int):m.T.has x=true<->0<=L.node x:=by rw[h.T.find a,a.node]
theorem dP.Di(h:dP m L)(a:Inv0 L N)(x:Int):m.T.has x=false<->L.node x<0:=by rw[h.T.findF a,a.node]
theorem Inv0.Nz(a:Inv0 L N)(hx:0<=L.node x):(L.node x).toNat<L.nn/\L.id (L.node x).toNat=x:=by
 rw[a.node]at hx ⊢
 obtain⟨j,b,e,c⟩:=oO hx
 rw[e]
 rw[a.tZ]at b
 exact⟨b,by show L.id j=x; rw[<- (a.tid j b).1]; exact c⟩
theorem dP.rk(h:dP m L)(c:Inv0 L N)(hx:0<=L.node x):yj m x=L.R (L.node x).toNat:=by
 obtain⟨a,b⟩:=c.Nz hx
 rw[<- h.row _ a,b]
theorem dP.vG(h:dP m L)(f:m.T.ok)(a:Inv0 L N)(hx:m.T.has x=true)(r:Nat->Int):dP (vG m x r) { L with R:=aV L.R (L.node x).toNat r }:=by
 have l:=(h.node a x).1 hx
 obtain⟨j,c⟩:=a.Nz l
 refine { h with row:=fun i b => ?_,T:=⟨h.T.has,h.T.n,h.T.par⟩ }
 show Fx.aH m.R (m.idx x) r (m.idx (L.id i))=aV L.R (L.node x).toNat r i
 unfold Fx.aH aV
 by_cases e:i=(L.node x).toNat
 ·subst e; rw[c,if_pos rfl,if_pos rfl]
 rw[if_neg e,if_neg]
 ·exact h.row i b
 intro g
 have d:=(dz.Gi f ((h.T.has _).2 ⟨i,b,rfl⟩)).2
 have k:=(dz.Gi f hx).2
 rw[g,k]at d
 exact e (a.inj i _ b j (by rw[c]; exact d.symm))
theorem dP.along(h:dP m L)(l:m.T.ok)(g:Inv0 L N)(f:(Nat->Int)->(Nat->Int) × Int)(x:Int) :
 bM m f (m.T.path x)=(dB f (qo L x) L.R (dK L.t L.tn x)).2/\((dB f (qo L x) L.R (dK L.t L.tn x)).2=0 -> ∀ i,i<L.nn->(mo m f (m.T.path x)).R (m.idx (L.id i))=(dB f (qo L x) L.R (dK L.t L.tn x)).1 i):=by
 obtain⟨z,p⟩:=h.T.path l g x
 have w:(m.T.path x).Nodup:=bW.qZ l x
 have o : ∀ i,i<dK L.t L.tn x->0<=L.node (aO L.t L.tn i x):=fun i c=>by rw[g.node]; exact sF c
 have y : ∀ i j,i<dK L.t L.tn x->j<dK L.t L.tn x->qo L x i=qo L x j->i=j:=fun i j c v e=>by
  have a:=g.Nz (o i c)
  have b:=g.Nz (o j v)
  have e:(L.node (aO L.t L.tn i x)).toNat=(L.node (aO L.t L.tn j x)).toNat:=e
  rw[e]at a
  have k:aO L.t L.tn i x=aO L.t L.tn j x:=a.2.symm.trans b.2
  rw[<- p i (by omega),<- p j (by omega)]at k
  exact uo w (by omega) (by omega) k
 obtain⟨A,B⟩:=xP (f:=f) (idx:=qo L x) (R:=L.R) y
 refine⟨?_,fun s i c => ?_⟩
 ·rw[A]
  unfold bM
  rw[z]
  exact uW fun i c=>by
   rw[p i (by omega)]
   exact h.rk g (o i c)
 have u:=(dz.Gi l ((h.T.has _).2 ⟨i,c,rfl⟩)).2
 show(if m.T.x (m.idx (L.id i))∈m.T.path x then(f (m.R (m.idx (L.id i)))).1 else m.R (m.idx (L.id i)))=_
 rw[u,show m.R (m.idx (L.id i))=L.R i from h.row i c]
 have r:L.id i∈m.T.path x <-> ∃ q,q<dK L.t L.tn x/\qo L x q=i:=by
  rw[h.T.mem l g]
  constructor
  ·rintro ⟨q,d,e⟩
   exact⟨q,d,(vX g c d).2 e⟩
  ·rintro ⟨q,d,e⟩
   exact⟨q,d,(vX g c d).1 e⟩
 rcases B s i with ⟨n,k⟩|⟨n,q,d,k⟩
 ·rw[n,if_neg]
  rw[r]; rintro ⟨q,d,e⟩; exact k q d e
 rw[n,if_pos (r.2 ⟨q,d,k⟩)]
theorem dP.asked(h:dP m L)(f:bX v=true)(r:Int):jk m v.o r=true<->0<=L.tV (bA v) r:=by
 obtain⟨a,c,d⟩:=dO (gN f)
 have:bA v=a:=by unfold bA; omega
 rw[this,d,h.ask a r c]
 unfold eB.tV
 rw[uw]
 constructor
 ·rintro ⟨j,b,e⟩; exact⟨j,b,decide_eq_true e⟩
 rintro ⟨j,b,e⟩; exact⟨j,b,of_decide_eq_true e⟩
theorem dP.grant(h:dP m L)(o r:Int):(A8 m o r=true<->0<=L.grant o r)/\(0<=L.grant o r->(L.grant o r).toNat<L.gn/\kU m o r<m.gn/\m.g (kU m o r)=L.g (L.grant o r).toNat/\L.g (L.grant o r).toNat 0=o/\L.g (L.grant o r).toNat 1=r):=by
 have n:A8 m o r=true <-> ∃ j,j<m.gn/\m.g j 0=o/\m.g j 1=r:=kR
 have p:0<=L.grant o r <-> ∃ q,q<L.gn/\L.g q 0=o/\L.g q 1=r:=by
  unfold eB.grant
  rw[uw]
  constructor
  ·rintro ⟨j,a,e⟩; rw[Bool.and_eq_true]at e; exact⟨j,a,of_decide_eq_true e.1,of_decide_eq_true e.2⟩
  ·rintro ⟨j,a,b,c⟩; exact⟨j,a,by rw[decide_eq_true b,decide_eq_true c]; rfl⟩
 refine⟨?_,fun l => ?_⟩
 ·rw[n,p]
  constructor
  ·rintro ⟨j,a,b,c⟩
   obtain⟨q,d,e⟩:=h.g2 j a
   exact⟨q,d,by rw[e]; exact b,by rw[e]; exact c⟩
  rintro ⟨q,d,b,c⟩
  obtain⟨j,a,e⟩:=h.g1 q d
  exact⟨j,a,by rw[e]; exact b,by rw[e]; exact c⟩
 have : ∃ q,q<L.gn/\L.grant o r=(q:Int)/\L.g q 0=o/\L.g q 1=r:=by
  unfold eB.grant at l ⊢
  rcases iU (fun i=>decide (L.g i 0=o)&&decide (L.g i 1=r)) L.gn with ⟨q,d,e,k⟩|⟨e,_⟩
  ·rw[Bool.and_eq_true]at k; exact⟨q,d,e,of_decide_eq_true k.1,of_decide_eq_true k.2⟩
  ·omega
 obtain⟨q,d,e,b,c⟩:=this
 rw[e]
 obtain⟨j,a,f⟩:=h.g1 q d
 have:kU m o r=j:=sP h.gi a (by show m.g j 0=o; rw[f]; exact b) (by show m.g j 1=r; rw[f]; exact c)
 rw[this]
 exact⟨d,a,f,b,c⟩
theorem dP.UR(h:dP m L)(i:m.T.ok)(g:Inv0 L N)(e:bX v=true)(l:v.kind=1):ji m v=oQ L v:=by
 obtain⟨a,j,d⟩:=dO (gN e)
 have k:bA v=a:=by unfold bA; omega
 unfold ji oQ
 rw[k,h.own a j,d]
 have b:(5<=((oP L.id ((a:Int)+1) L.nn:Nat):Int)\/140737488355328<v.bI)<->(5<=oP L.id ((a:Int)+1) L.nn\/140737488355328<v.bI):=by omega
 have f:kW v=sW ((a:Int)+1) v.seq:=by rw[<- d,vW e]; rfl
 by_cases c:5<=oP L.id ((a:Int)+1) L.nn\/140737488355328<v.bI
 ·rw[if_pos c,if_pos (b.2 c)]
 rw[if_neg c,if_neg (fun q=>c (b.1 q)),h.T.err i g,f]
theorem dP.make(h:dP m L)(A:m.T.ok)(r:Inv0 L N)(l:bX v=true)(D:v.kind=1)(z:oQ L v=0):dP (zD m v) (oV L v):=by
 obtain⟨k,g,H,I,J,K,M,y,P,Q,G⟩:=qV r l D z
 have t:=vW l
 have O:=kP l
 have f:kW v=sW v.o v.seq:=by rw[t]; rfl
 have w:m.T.has (kW v)=false:=by
  rw[h.T.findF r,f,mR]
  exact G.no
 have E : ∀ i,i<m.T.n->m.T.x i≠kW v:=fun i d e=>by
  have:=bW.sI d; rw[e,w]at this; cases this
 rw[y]
 have C : ∀ q,(m.T.put (kW v) v.node).has q=true<->(m.T.has q=true\/q=kW v):=fun q=>by
  rw[bW.gM,Bool.or_eq_true,decide_eq_true_iff]
  exact⟨fun h=>h.imp id Eq.symm,fun h=>h.imp id Eq.symm⟩
 have u : ∀ q,q<L.nn->L.id q≠kW v:=fun q F e=>by
  have:=(h.T.has _).2 ⟨q,F,rfl⟩; rw[e,w]at this; cases this
 refine {
  T:=⟨fun q => ?_,?_,fun i d => ?_⟩
  inn:=h.inn
  left:=h.left
  known:=h.known
  row:=fun i d => ?_
  own:=fun a s => ?_
  gi:=h.gi
  gn:=h.gn
  g1:=h.g1
  g2:=h.g2
  ask:=h.ask
  ga:=h.ga
  li:=h.li }
 ·show(m.T.put (kW v) v.node).has q=true <-> ∃ i,i<L.nn+1/\Fx.bQ L.id k (sW v.o v.seq) i=q
  rw[C,h.T.has]
  constructor
  ·rintro (⟨i,d,e⟩|e)
   ·obtain⟨j,b,_,c⟩:=sD (k:=k) d
    exact⟨j,b,by rw[c]; exact e⟩
   exact⟨k,by omega,by rw[bL,e,f]⟩
  rintro ⟨i,d,e⟩
  rcases cB g d with rfl|⟨j,b,c,_,_⟩
  ·rw[bL]at e; exact .inr (by rw[<- e,f])
  rw[c]at e; exact .inl ⟨j,b,e⟩
 ·show m.T.n+1=L.nn+1
  rw[h.T.n]
 ·show(m.T.put (kW v) v.node).par (Fx.bQ L.id k (sW v.o v.seq) i)=Fx.bQ L.par k v.node i
  rw[bW.nD]
  rcases cB g d with rfl|⟨j,b,c,_,_⟩
  ·rw[bL,bL,if_pos f]
  rw[c,c,if_neg (fun e=>u j b e.symm)]; exact h.T.par j b
 ·show Fx.aH m.R m.T.n _ (sG (Fx.aH m.T.x m.T.n (kW v)) (m.T.n+1) (Fx.bQ L.id k (sW v.o v.seq) i))=Fx.bQ L.R k _ i
  rcases cB g d with rfl|⟨j,b,c,_,_⟩
  ·rw[bL,bL,<- f,Ls _ _ _ E]; unfold Fx.aH; rw[if_pos rfl]
  rw[c,c,Lu _ _ (fun e=>u j b e.symm)]
  have p:=(dz.Gi A ((h.T.has _).2 ⟨j,b,rfl⟩)).1
  have p:sG m.T.x m.T.n (L.id j)<m.T.n:=p
  unfold Fx.aH
  rw[if_neg (by omega)]
  exact h.row j b
 show aV m.own (bA v) (m.own (bA v)+1) a=((oP (Fx.bQ L.id k (sW v.o v.seq)) ((a:Int)+1) (L.nn+1):Nat):Int)
 rw[Dh _ g,t]
 have B:(1099511627776*v.o+v.seq) / 1099511627776=v.o:=by omega
 rw[B]
 unfold aV
 by_cases e:a=bA v
 ·rw[if_pos e,<- e,h.own a s,if_pos (by unfold bA at e; omega)]; rfl
 rw[if_neg e,h.own a s,if_neg (by unfold bA at e; omega)]; rfl
attribute [local irreducible] dK dB bM in
theorem dP.oM(h:dP m L)(d:m.T.ok)(g:Inv0 L N)(i:bX v=true):jH m v=nJ L v:=by
 unfold jH nJ
 by_cases c:jk m v.o v.req=true
 ·rw[if_pos c,if_pos ((h.asked i _).1 c)]
 rw[if_neg c,if_neg (fun e=>c ((h.asked i _).2 e))]
 obtain⟨j,_⟩:=h.T.path d g v.node
 have f:m.T.has v.node=false<->dK L.t L.tn v.node=0:=by
  rw[<- j]
  constructor
  ·intro b; rw[show m.T.path v.node = []from iA b]; rfl
  ·intro b
   cases e:m.T.has v.node with
   | false=>rfl
   | true=>rw[bW.step d e]at b; simp at b
 by_cases a:m.T.has v.node=false
 ·rw[if_pos a,if_pos (f.1 a)]
 rw[if_neg a,if_neg (fun e=>a (f.2 e))]
 exact(h.along d g _ _).1
theorem Lx{f g:Nat->Int}{n:Nat}{a b o r:Int}:yI (Fx.aH f n a) (Fx.aH g n b) (n+1) o r=true<->(yI f g n o r=true\/(a=o/\b=r)):=by
 rw[kR,kR]
 unfold Fx.aH
 constructor
 ·rintro ⟨j,h,c,d⟩
  by_cases e:j=n
  ·subst e; rw[if_pos rfl]at c d; exact .inr ⟨c,d⟩
  rw[if_neg e]at c d; exact .inl ⟨j,by omega,c,d⟩
 rintro (⟨j,h,c,d⟩|⟨c,d⟩)
 ·exact⟨j,by omega,by rw[if_neg (by omega)]; exact c,by rw[if_neg (by omega)]; exact d⟩
 exact⟨n,by omega,by rw[if_pos rfl]; exact c,by rw[if_pos rfl]; exact d⟩
theorem dP.Gl(h:dP m L)(w:bX v=true)(d:dz)(f:eB)(i:d.an=m.an+1)(k:d.ao=Fx.aH m.ao m.an v.o)(l:d.ar=Fx.aH m.ar m.an v.req)(n:f.rn=aV L.rn (bA v) (L.rn (bA v)+1))(p:f.rq=aV L.rq (bA v) (aV (L.rq (bA v)) (L.rn (bA v)) v.req)) :
 (∀(a:Nat) (r:Int),a<6->(jk d ((a:Int)+1) r=true <-> ∃ j,j<f.rn a/\f.rq a j=r))/\(∀ o r,jk m o r=true->jk d o r=true)/\jk d v.o v.req=true:=by
 obtain⟨b,x,t⟩:=dO (gN w)
 have u:bA v=b:=by unfold bA; omega
 have g : ∀ o r,jk d o r=true<->(jk m o r=true\/(v.o=o/\v.req=r)):=fun o r=>by
  unfold jk; rw[i,k,l]; exact Lx
 refine⟨fun a r q => ?_,fun o r h=>(g o r).2 (.inl h),(g _ _).2 (.inr ⟨rfl,rfl⟩)⟩
 rw[g,h.ask a r q,n,p,u]
 unfold aV
 by_cases e:a=b
 ·subst e
  rw[if_pos rfl,if_pos rfl]
  constructor
  ·rintro (⟨j,s,e⟩|⟨_,e⟩)
   ·exact⟨j,by omega,by show(if j=L.rn a then v.req else L.rq a j)=r; rw[if_neg (by omega)]; exact e⟩
   exact⟨L.rn a,by omega,by show(if L.rn a=L.rn a then v.req else _)=r; rw[if_pos rfl]; exact e⟩
  rintro ⟨j,s,e⟩
  have e:(if j=L.rn a then v.req else L.rq a j)=r:=e
  by_cases c:j=L.rn a
  ·rw[if_pos c]at e; exact .inr ⟨t,e⟩
  rw[if_neg c]at e; exact .inl ⟨j,by omega,e⟩
 rw[if_neg e,if_neg e]
 exact⟨fun h=>h.elim id fun h=>by omega,.inl⟩
attribute [local irreducible] dK dB bM in
theorem dP.take(h:dP m L)(F:m.T.ok)(E:Inv0 L N)(D:bX v=true)(t:nJ L v=0):dP (pJ m v) (jR L v):=by
 unfold nJ at t
 split at t
 ·cases t
 rename_i c1
 split at t
 ·cases t
 have I:=(h.along F E (fun x=>bK x v.o v.bI) v.node).2 t
 have G : ¬ jk m v.o v.req=true:=fun e=>c1 ((h.asked D _).1 e)
 obtain⟨J,K,M⟩:=h.Gl D (pJ m v) (jR L v) rfl rfl rfl rfl rfl
 have s : ∀ j,(pJ m v).g j=if j=m.gn then vT v else m.g j:=fun j=>rfl
 have A:vT v 0=v.o:=rfl
 have B:vT v 1=v.req:=rfl
 have y : ∀ j,j<m.gn -> ¬ (m.g j 0=v.o/\m.g j 1=v.req):=fun j d e=>G (by have:=h.ga j d; rw[e.1,e.2]at this; exact this)
 have u:=Fx.pQ (fun i=>DF v (L.g i)) L.gn
 refine {
  T:=⟨h.T.has,h.T.n,h.T.par⟩
  inn:=h.inn
  left:=h.left
  known:=h.known
  row:=I
  own:=h.own
  gi:=fun i j r d b a => ?_
  gn:=by show m.gn+1=L.gn+1; rw[h.gn]
  g1:=fun q f => ?_
  g2:=fun j d => ?_
  ask:=J
  ga:=fun i r => ?_
  li:=fun p q z f b a => ?_ }
 ·have r:i<m.gn+1:=r
  have d:j<m.gn+1:=d
  rw[s,s]at b a
  by_cases c:i=m.gn
  ·by_cases l:j=m.gn
   ·omega
   rw[if_pos c,if_neg l,A]at b; rw[if_pos c,if_neg l,B]at a
   exact absurd ⟨b.symm,a.symm⟩ (y j (by omega))
  by_cases l:j=m.gn
  ·rw[if_neg c,if_pos l,A]at b; rw[if_neg c,if_pos l,B]at a
   exact absurd ⟨b,a⟩ (y i (by omega))
  rw[if_neg c,if_neg l]at b a; exact h.gi i j (by omega) (by omega) b a
 ·have f:q<L.gn+1:=f
  show ∃ j,j<m.gn+1/\(pJ m v).g j=Fx.bQ L.g (Fx.down (fun i=>DF v (L.g i)) L.gn) (vT v) q
  rcases cB u f with e|⟨j,d,a,_,_⟩
  ·rw[e,bL]; exact⟨m.gn,by omega,by rw[s,if_pos rfl]⟩
  rw[a]
  obtain⟨i,r,w⟩:=h.g1 j d
  exact⟨i,by omega,by rw[s,if_neg (by omega)]; exact w⟩
 ·have d:j<m.gn+1:=d
  show ∃ q,q<L.gn+1/\Fx.bQ L.g (Fx.down (fun i=>DF v (L.g i)) L.gn) (vT v) q=(pJ m v).g j
  rw[s]
  by_cases c:j=m.gn
  ·rw[if_pos c]; exact⟨_,by omega,bL⟩
  rw[if_neg c]
  obtain⟨q,f,e⟩:=h.g2 j (by omega)
  obtain⟨O,H,_,a⟩:=sD (k:=Fx.down (fun i=>DF v (L.g i)) L.gn) f
  exact⟨O,H,by rw[a]; exact e⟩
 ·have r:i<m.gn+1:=r
  rw[s]
  by_cases c:i=m.gn
  ·rw[if_pos c]; exact M
  rw[if_neg c]; exact K _ _ (h.ga i (by omega))
 have z:p<L.gn+1:=z
 have f:q<L.gn+1:=f
 have C : ∀ j,j<L.gn -> ¬ (L.g j 0=v.o/\L.g j 1=v.req):=fun j d e=>by
  obtain⟨i,r,w⟩:=h.g1 j d
  rw[<- w]at e
  exact y i r e
 have b:Fx.bQ L.g (Fx.down (fun i=>DF v (L.g i)) L.gn) (vT v) p 0=Fx.bQ L.g (Fx.down (fun i=>DF v (L.g i)) L.gn) (vT v) q 0:=b
 have a:Fx.bQ L.g (Fx.down (fun i=>DF v (L.g i)) L.gn) (vT v) p 1=Fx.bQ L.g (Fx.down (fun i=>DF v (L.g i)) L.gn) (vT v) q 1:=a
 generalize Fx.down (fun i=>DF v (L.g i)) L.gn=k at b a u
 rcases cB u z with c|⟨j,d,f1,f2,f3⟩
 ·rcases cB u f with l|⟨j',hj',YI,f2',f3'⟩
  ·omega
  rw[c,bL,YI]at b a; exact absurd ⟨b.symm,a.symm⟩ (C j' hj')
 rcases cB u f with l|⟨j',hj',YI,f2',f3'⟩
 ·rw[l,bL,f1]at b a; exact absurd ⟨b,a⟩ (C j d)
 rw[f1,YI]at b a
 have:=h.li j j' d hj' b a
 omega
attribute [local irreducible] dK dB bM in
theorem dP.nR(h:dP m L)(l:m.T.ok)(k:Inv0 L N)(f:bX v=true):iN m v=pz L v:=by
 unfold iN pz
 by_cases c:jk m v.o v.req=true
 ·rw[if_pos c,if_pos ((h.asked f _).1 c)]
 rw[if_neg c,if_neg (fun e=>c ((h.asked f _).2 e))]
 obtain⟨d,j⟩:=h.grant v.o v.of
 by_cases b:0<=L.grant v.o v.of
 ·obtain⟨p,r,i,s,t⟩:=j b
  have n:=d.2 b
  have e:(A8 m v.o v.of=false\/m.g (kU m v.o v.of) 4≠0)<->(L.grant v.o v.of<0\/L.g (uL L v) 4≠0):=by
   rw[i,n]
   show _<->_\/L.g (L.grant v.o v.of).toNat 4≠0
   constructor
   ·rintro (h|h)
    ·cases h
    ·exact .inr h
   ·rintro (h|h)
    ·omega
    ·exact .inr h
  by_cases a:L.grant v.o v.of<0\/L.g (uL L v) 4≠0
  ·rw[if_pos a,if_pos (e.2 a)]
  rw[if_neg a,if_neg (fun q=>a (e.1 q)),i]
  exact(h.along l k _ _).1
 rw[if_pos (.inl (by
  cases e:A8 m v.o v.of with
  | false=>rfl
  | true=>exact absurd (d.1 e) b)),if_pos (.inl (by omega))]
attribute [local irreducible] dK dB bM in
theorem dP.free(h:dP m L)(G:m.T.ok)(F:Inv0 L N)(I:bX v=true)(k:pz L v=0):dP (nM m v) (jf L v):=by
 unfold pz at k
 split at k
 ·cases k
 split at k
 ·cases k
 rename_i c2
 have E:0<=L.grant v.o v.of:=by rcases OD (L.grant v.o v.of)with h1|h1; exact absurd (.inl h1) c2; exact h1
 obtain⟨C,D,t,O,P⟩:=(h.grant v.o v.of).2 E
 have H:=(h.along G F (fun x=>bF x v.o (L.g (uL L v) 3)) (L.g (uL L v) 2)).2 k
 obtain⟨J,K,M⟩:=h.Gl I (nM m v) (jf L v) rfl rfl rfl rfl rfl
 have A:uL L v=(L.grant v.o v.of).toNat:=rfl
 have w : ∀ j,(nM m v).g j=if j=kU m v.o v.of then upd (m.g (kU m v.o v.of)) 4 v.req else m.g j:=fun j=>rfl
 have u : ∀ q,(jf L v).g q=if q=uL L v then aV (L.g (uL L v)) 4 v.req else L.g q:=fun q=>rfl
 have B:upd (m.g (kU m v.o v.of)) 4 v.req=aV (L.g (uL L v)) 4 v.req:=by rw[t]; rfl
 have f : ∀ j p,(p=0\/p=1)->(nM m v).g j p=m.g j p:=fun j p s=>by
  rw[w]
  by_cases c:j=kU m v.o v.of
  ·subst c; rw[if_pos rfl]; rcases s with rfl|rfl <;> rfl
  ·rw[if_neg c]
 have z : ∀ j p,(p=0\/p=1)->(jf L v).g j p=L.g j p:=fun j p s=>by
  rw[u]
  by_cases c:j=uL L v
  ·subst c; rw[if_pos rfl]; rcases s with rfl|rfl <;> rfl
  ·rw[if_neg c]
 refine {
  T:=⟨h.T.has,h.T.n,h.T.par⟩
  inn:=h.inn
  left:=h.left
  known:=h.known
  row:=fun i r => ?_
  own:=h.own
  gi:=fun i j r a l d=>h.gi i j r a (by rw[f i 0 (.inl rfl),f j 0 (.inl rfl)]at l; exact l) (by rw[f i 1 (.inr rfl),f j 1 (.inr rfl)]at d; exact d)
  gn:=h.gn
  g1:=fun q b => ?_
  g2:=fun j a => ?_
  ask:=J
  ga:=fun i r=>by rw[f i 0 (.inl rfl),f i 1 (.inr rfl)]; exact K _ _ (h.ga i r)
  li:=fun p q s b l d=>h.li p q s b (by rw[z p 0 (.inl rfl),z q 0 (.inl rfl)]at l; exact l) (by rw[z p 1 (.inr rfl),z q 1 (.inr rfl)]at d; exact d) }
 ·have:=H i r
  show(mo m (fun x=>bF x v.o (m.g (kU m v.o v.of) 3)) (m.T.path (m.g (kU m v.o v.of) 2))).R (m.idx (L.id i))=_
  rw[t]; exact this
 ·have b:q<L.gn:=b
  rw[u]
  by_cases c:q=uL L v
  ·rw[if_pos c]; exact⟨kU m v.o v.of,D,by rw[w,if_pos rfl,B]⟩
  rw[if_neg c]
  obtain⟨j,a,y⟩:=h.g1 q b
  refine⟨j,a,?_⟩
  rw[w,if_neg]
  ·exact y
  intro e
  rw[e,t]at y
  exact c (h.li q _ b C (congrFun y.symm 0) (congrFun y.symm 1))
 have a:j<m.gn:=a
 rw[w]
 by_cases c:j=kU m v.o v.of
 ·rw[if_pos c]; exact⟨uL L v,C,by rw[u,if_pos rfl,B]⟩
 rw[if_neg c]
 obtain⟨q,b,e⟩:=h.g2 j a
 refine⟨q,b,?_⟩
 rw[u,if_neg]
 ·exact e
 intro d
 rw[d]at e
 exact c (h.gi j _ a D (by rw[t,<- e,A]) (by rw[t,<- e,A]))
theorem dP.move(h:dP m L)(i:m.T.ok)(a:Inv0 L N)(k:bX v=true)(j:v.kind=5):jG m v=tY L v/\(tY L v=0->dP (CU m v) (Au L v)):=by
 obtain⟨b,l,n⟩:=F4 k j
 unfold jG tY
 by_cases c:L.node v.node<0
 ·rw[if_pos c,if_pos ((h.Di a _).2 c)]
  exact⟨rfl,fun h=>by cases h⟩
 have f:0<=L.node v.node:=by omega
 rw[if_neg c,if_neg (fun e=>c ((h.Di a _).1 e)),h.inn]
 have g:nK m v=Cx L v:=by unfold nK Cx; rw[<- h.rk a f]; rfl
 have e:(v.dst<1\/6<v.dst\/L.inn (v.dst-1).toNat=false)<->L.inn (v.dst-1).toNat=false:=⟨fun h=>by rcases h with h|h|h; omega; omega; exact h,fun h => .inr (.inr h)⟩
 by_cases d:L.inn (v.dst-1).toNat=false
 ·rw[if_pos d,if_pos (e.2 d)]
  exact⟨rfl,fun h=>by cases h⟩
 rw[if_neg d,if_neg (fun q=>d (e.1 q)),g]
 refine⟨rfl,fun _ => ?_⟩
 have:=h.vG i a ((h.node a _).2 f) (Cx L v).1
 unfold CU Au
 rw[g]; exact this
theorem dP.raise(h:dP m L)(f:m.T.ok)(a:Inv0 L N):jh m v=xq L v/\(xq L v=0->dP (qY m v) (Ar L v)):=by
 unfold jh xq
 by_cases c:L.node v.node<0
 ·rw[if_pos c,if_pos ((h.Di a _).2 c)]
  exact⟨rfl,fun h=>by cases h⟩
 have b:0<=L.node v.node:=by omega
 have d:m.R (m.idx v.node)=L.R (L.node v.node).toNat:=h.rk a b
 rw[if_neg c,if_neg (fun e=>c ((h.Di a _).1 e)),d]
 refine⟨rfl,fun _ => ?_⟩
 unfold qY Ar
 rw[d]
 exact h.vG f a ((h.node a _).2 b) _
theorem dP.does(h:dP m L)(d:m.T.ok)(c:Inv0 L N)(f:bX v=true):eF m v=nT L v/\(nT L v=0->dP (fT m v) (lK L v)):=by
 have l:=lM f
 unfold eF nT fT lK
 by_cases a:v.kind=1
 ·rw[if_pos a,if_pos a,if_pos a,if_pos a]; exact⟨h.UR d c f a,fun e=>h.make d c f a e⟩
 rw[if_neg a,if_neg a,if_neg a,if_neg a]
 by_cases g:v.kind=2
 ·rw[if_pos g,if_pos g,if_pos g,if_pos g]; exact h.raise d c
 rw[if_neg g,if_neg g,if_neg g,if_neg g]
 by_cases i:v.kind=3
 ·rw[if_pos i,if_pos i,if_pos i,if_pos i]; exact⟨h.oM d c f,fun e=>h.take d c f e⟩
 rw[if_neg i,if_neg i,if_neg i,if_neg i]
 by_cases j:v.kind=4
 ·rw[if_pos j,if_pos j,if_pos j,if_pos j]; exact⟨h.nR d c f,fun e=>h.free d c f e⟩
 rw[if_neg j,if_neg j,if_neg j,if_neg j]
 by_cases b:v.kind=5
 ·rw[if_pos b,if_pos b,if_pos b,if_pos b]; exact h.move d c f b
 rw[if_neg b,if_neg b,if_neg b,if_neg b]
 by_cases k:v.kind=6
 ·rw[if_pos k,if_pos k,if_pos k]
  exact⟨rfl,fun _ => { h with T:=⟨h.T.has,h.T.n,h.T.par⟩,inn:=by show aV m.inn _ true=aV L.inn _ true; rw[h.inn] }⟩
 rw[if_neg k,if_neg k,if_neg k]
 exact⟨rfl,fun _ => { h with T:=⟨h.T.has,h.T.n,h.T.par⟩,left:=by show aV m.left _ true=aV L.left _ true; rw[h.left] }⟩
theorem dP.apply(h:dP m L)(f:m.T.ok)(d:Inv0 L N)(v:EvM):bf m v=dL L v/\dP (iO m v) (gK L v):=by
 have e:bf m v=dL L v:=by
  unfold bf dL
  rw[h.known,h.inn,h.left]
  cases b:bX v with
  | false=>rfl
  | true =>
    rw[(h.does f d b).1]
 refine⟨e,?_⟩
 unfold iO gK
 rw[e]
 by_cases c:dL L v=0
 ·rw[if_pos c,if_pos c]
  have b:=(SC (lN c)).1
  have g:nT L v=0:=by
   unfold dL at c
   rw[if_neg (by rw[b]; decide)]at c
   split at c; · cases c
   split at c; · cases c
   split at c; · cases c
   exact c
  have a:=(h.does f d b).2 g
  exact { a with T:=⟨a.T.has,a.T.n,a.T.par⟩,known:=by show aV (fT m v).known _ _=aV (lK L v).known _ _; rw[a.known] }
 rw[if_neg c,if_neg c]; exact h
theorem dP.sound(h:dP m L)(k:m.T.ok)(c:Inv0 L N):UL m := {
 own:=fun a l=>by
  have b:=Gj (f:=L.id) (o:=(a:Int)+1) L.nn
  have d:=c.nn
  rw[h.own a l]; omega
 row:=fun i g p n=>by
  obtain⟨j,hj,e⟩:=(h.T.has _).1 (bW.sI g)
  have b:=h.row j hj
  rw[e]at b
  have d:m.idx (m.T.x i)=i:=jg k.inj g rfl
  unfold yj at b
  rw[d]at b
  rw[b]
  exact pY (c.may j hj) p n
 ga:=h.ga
 kn:=by rw[h.known]; exact c.kn }
end
end Rt
end Go.Proofs.YtahbiajdgealnaaDoor
namespace Go.Proofs.YtahbiajdgealnaaDoor
open Go.RowKit Go
set_option linter.unusedVariables false
set_option maxRecDepth 20000
namespace Rt
def mD(x:Nat->Int):Int:=x 0*18446744073709551616+x 1
structure vJ(L:eB):Prop where
 up : ∀ i j,i<j->j<L.gn->mD (L.g i)<mD (L.g j)
 wf : ∀ q,q<L.gn->iG (L.g q 1)/\iG (L.g q 4)
 ga : ∀ q,q<L.gn->1<=L.g q 0/\L.g q 0<=6 /\ ∃ j,j<L.rn (L.g q 0-1).toNat/\L.rq (L.g q 0-1).toNat j=L.g q 1
section
variable {L:eB} {N:Nat} {v:EvM}
theorem LA(a:iG v.req){x:Nat->Int}(hx:iG (x 1)):DF v x=true<->mD (vT v)<mD x:=by
 unfold DF mD iG at *
 rw[Bool.or_eq_true,Bool.and_eq_true,decide_eq_true_iff,decide_eq_true_iff,decide_eq_true_iff]
 show v.o<x 0\/x 0=v.o/\v.req<x 1<->v.o*18446744073709551616+v.req<x 0*18446744073709551616+x 1
 omega
theorem Dj{a:Nat}{r:Int}(d:eB)(f:d.rn=aV L.rn a (L.rn a+1))(g:d.rq=aV L.rq a (aV (L.rq a) (L.rn a) r)):(∀ b y,(∃ j,j<L.rn b/\L.rq b j=y) -> ∃ j,j<d.rn b/\d.rq b j=y) /\ ∃ j,j<d.rn a/\d.rq a j=r:=by
 rw[f,g]
 unfold aV
 refine⟨fun b y ⟨j,h,e⟩ => ?_,L.rn a,by rw[if_pos rfl]; omega,by rw[if_pos rfl,if_pos rfl]⟩
 by_cases c:b=a
 ·subst c
  exact⟨j,by rw[if_pos rfl]; omega,by rw[if_pos rfl,if_neg (by omega)]; exact e⟩
 exact⟨j,by rw[if_neg c]; exact h,by rw[if_neg c]; exact e⟩
attribute [local irreducible] dK dB in
theorem ET(h:vJ L)(J:bX v=true)(M:jc v)(t:nJ L v=0):vJ (jR L v):=by
 have z:=kP J
 have m:iG v.req:=M.req
 unfold nJ at t
 split at t
 ·cases t
 rename_i c1
 obtain⟨w,x⟩:=Dj (L:=L) (a:=bA v) (r:=v.req) (jR L v) rfl rfl
 have K : ∀ j,j<L.gn -> ¬ (L.g j 0=v.o/\L.g j 1=v.req):=fun j f e=>c1 (by
  obtain⟨_,_,q,b,y⟩:=h.ga j f
  rw[e.1,e.2]at y
  rw[e.1]at b
  unfold eB.tV
  rw[uw]
  exact⟨q,b,decide_eq_true y⟩)
 obtain⟨k,u⟩ : ∃ k,k=Fx.down (fun i=>DF v (L.g i)) L.gn:=⟨_,rfl⟩
 have l:k<=L.gn:=by rw[u]; exact Fx.pQ _ _
 have I : ∀ q,k<=q->q<L.gn->mD (vT v)<mD (L.g q):=fun q D d=>(LA m (h.wf q d).1).1 (Fx.zW (P:=fun i=>DF v (L.g i)) (n:=L.gn) (i:=q) (by omega) d)
 have H : ∀ q,q<k->mD (L.g q)<mD (vT v):=fun q D=>by
  obtain⟨j,rfl⟩ : ∃ j,k=j+1:=⟨k-1,by omega⟩
  have d:=Fx.zX (P:=fun i=>DF v (L.g i)) (n:=L.gn) (j:=j) u.symm
  have E : ¬ mD (vT v)<mD (L.g j):=fun e=>by
   have:=(LA m (h.wf j (by omega)).1).2 e
   rw[this]at d; cases d
  have F:mD (L.g j)<mD (vT v):=by
   rcases Int.lt_trichotomy (mD (L.g j)) (mD (vT v))with c|c|c
   ·exact c
   ·exfalso
    have G:=(h.wf j (by omega)).1
    refine K j (by omega) ?_
    unfold mD at c
    have c:L.g j 0*18446744073709551616+L.g j 1=v.o*18446744073709551616+v.req:=c
    unfold iG at G m
    omega
   ·exact absurd c E
  by_cases e:q=j
  ·rw[e]; exact F
  ·have:=h.up q j (by omega) (by omega); omega
 have p:(jR L v).g=Fx.bQ L.g k (vT v):=by rw[u]; rfl
 have s:(jR L v).gn=L.gn+1:=rfl
 refine⟨fun i j N f => ?_,fun q b => ?_,fun q b => ?_⟩
 ·rw[s]at f
  rw[p]
  rcases cB l (show i<L.gn+1 by omega)with rfl|⟨q,b,eq,q1,q2⟩
  ·rcases cB l f with rfl|⟨r,hr,er,w,x⟩
   ·omega
   rw[bL,er]; exact I r (by omega) hr
  rcases cB l f with rfl|⟨r,hr,er,w,x⟩
  ·rw[bL,eq]; exact H q (by omega)
  rw[eq,er]; exact h.up q r (by omega) hr
 ·rw[s]at b
  rw[p]
  rcases cB l b with rfl|⟨r,hr,er,_,_⟩
  ·rw[bL]; exact⟨m,by show iG 0; unfold iG; omega⟩
  rw[er]; exact h.wf r hr
 rw[s]at b
 rw[p]
 rcases cB l b with rfl|⟨r,hr,er,_,_⟩
 ·rw[bL]; exact⟨z.1,z.2.1,x⟩
 rw[er]
 obtain⟨A,B,C⟩:=h.ga r hr
 exact⟨A,B,w _ _ C⟩
attribute [local irreducible] dK dB in
theorem EU(h:vJ L)(w:bX v=true)(s:jc v)(u:pz L v=0):vJ (jf L v):=by
 obtain⟨t,x⟩:=Dj (L:=L) (a:=bA v) (r:=v.req) (jf L v) rfl rfl
 have e : ∀ q,(jf L v).g q=if q=uL L v then aV (L.g (uL L v)) 4 v.req else L.g q:=fun q=>rfl
 have b : ∀ j p,(p=0\/p=1)->(jf L v).g j p=L.g j p:=fun j p o=>by
  rw[e]
  by_cases c:j=uL L v
  ·subst c; rw[if_pos rfl]; rcases o with rfl|rfl <;> rfl
  ·rw[if_neg c]
 refine⟨fun i j m n => ?_,fun q d => ?_,fun q d => ?_⟩
 ·unfold mD
  rw[b i 0 (.inl rfl),b i 1 (.inr rfl),b j 0 (.inl rfl),b j 1 (.inr rfl)]
  exact h.up i j m n
 ·rw[b q 1 (.inr rfl)]
  refine⟨(h.wf q d).1,?_⟩
  rw[e]
  by_cases c:q=uL L v
  ·rw[if_pos c]; exact s.req
  rw[if_neg c]; exact(h.wf q d).2
 rw[b q 0 (.inl rfl),b q 1 (.inr rfl)]
 obtain⟨f,k,l⟩:=h.ga q d
 exact⟨f,k,t _ _ l⟩
theorem EW(h:vJ L)(e:jc v):vJ (gK L v):=by
 unfold gK
 by_cases c:dL L v=0
 ·rw[if_pos c]
  have b:=(SC (lN c)).1
  have a:nT L v=0:=by
   unfold dL at c
   rw[if_neg (by rw[b]; decide)]at c
   split at c; · cases c
   split at c; · cases c
   split at c; · cases c
   exact c
  have d:vJ (lK L v):=by
   unfold nT at a
   unfold lK
   by_cases f:v.kind=1
   ·rw[if_pos f]; exact⟨h.up,h.wf,h.ga⟩
   rw[if_neg f]at a ⊢
   by_cases g:v.kind=2
   ·rw[if_pos g]; exact⟨h.up,h.wf,h.ga⟩
   rw[if_neg g]at a ⊢
   by_cases i:v.kind=3
   ·rw[if_pos i]at a ⊢; exact ET h b e a
   rw[if_neg i]at a ⊢
   by_cases j:v.kind=4
   ·rw[if_pos j]at a ⊢; exact EU h b e a
   rw[if_neg j]at a ⊢
   by_cases k:v.kind=5
   ·rw[if_pos k]; exact⟨h.up,h.wf,h.ga⟩
   rw[if_neg k]
   by_cases l:v.kind=6
   ·rw[if_pos l]; exact⟨h.up,h.wf,h.ga⟩
   ·rw[if_neg l]; exact⟨h.up,h.wf,h.ga⟩
  exact⟨d.up,d.wf,d.ga⟩
 rw[if_neg c]; exact h
theorem LB(k a:Nat):vJ (tX k a).core:=⟨fun i j _ h=>absurd h (Nat.not_lt_zero _),fun q h=>absurd h (Nat.not_lt_zero _),fun q h=>absurd h (Nat.not_lt_zero _)⟩
theorem dP.new(k l d e f c b g:Nat):dP (sQ k l d e f c b) (tX k g).core where
 T:=⟨fun q=>⟨fun h=>(nomatch h),fun⟨i,h,_⟩=>absurd h (Nat.not_lt_zero _)⟩,rfl,fun i h=>absurd h (Nat.not_lt_zero _)⟩
 inn:=rfl
 left:=rfl
 known:=rfl
 row:=fun i h=>absurd h (Nat.not_lt_zero _)
 own:=fun a _=>rfl
 gi:=fun i j h=>absurd h (Nat.not_lt_zero _)
 gn:=rfl
 g1:=fun q h=>absurd h (Nat.not_lt_zero _)
 g2:=fun q h=>absurd h (Nat.not_lt_zero _)
 ask:=fun a r _=>⟨fun h=>(nomatch h),fun⟨j,h,_⟩=>absurd h (Nat.not_lt_zero _)⟩
 ga:=fun i h=>absurd h (Nat.not_lt_zero _)
 li:=fun i j h=>absurd h (Nat.not_lt_zero _)
structure YJ(L:eB)(m:dz)(l:List Int)(gl:List Ih):Prop where
 nn:l.length=L.nn
 gn:gl.length=L.gn
 n : ∀ k,k<L.nn->l.getD k 0=L.id k/\m.T.par (l.getD k 0)=L.par k/\yj m (l.getD k 0)=L.R k
 g : ∀ k,k<L.gn->(gl.getD k g0).x=L.g k
theorem YJ.of{m:dz}{l:List Int}{c:List Ih}(h:dP m L)(F:Inv0 L N)(u:vJ L)(B:l.Pairwise (· < ·) /\ ∀ k,k∈l<->m.T.has k=true)(s:VE m c):YJ L m l c:=by
 have w:l=(List.range L.nn).map L.id:=pV B.1 (by
  rw[List.pairwise_map]
  exact(List.pairwise_lt_range (n:=L.nn)).imp_of_mem fun {a b} _ hb hab=>F.rise a b hab (List.mem_range.1 hb)) fun k=>by
  rw[B.2,h.T.has,List.mem_map]
  exact⟨fun⟨i,d,e⟩=>⟨i,List.mem_range.2 d,e⟩,fun⟨i,d,e⟩=>⟨i,List.mem_range.1 d,e⟩⟩
 have y:c.map R8=(List.range L.gn).map fun q=>mD (L.g q):=pV (by rw[List.pairwise_map]; exact s.up) (by
  rw[List.pairwise_map]
  exact(List.pairwise_lt_range (n:=L.gn)).imp_of_mem fun {a b} _ hb hab=>u.up a b hab (List.mem_range.1 hb)) fun k=>by
  rw[List.mem_map,List.mem_map]
  constructor
  ·rintro ⟨x,v,e⟩
   obtain⟨i,d,p⟩:=s.mem x v
   obtain⟨q,o,r⟩:=h.g2 i d
   refine⟨q,List.mem_range.2 o,?_⟩
   rw[r,<- p]; exact e
  ·rintro ⟨q,o,e⟩
   obtain⟨j,G,C⟩:=h.g1 q (List.mem_range.1 o)
   obtain⟨x,v,E⟩:=s.all j G
   refine⟨x,v,?_⟩
   rw[<- e,<- C,<- E]; rfl
 have I:c.length=L.gn:=by have:=congrArg List.length y; rwa [List.length_map,List.length_map,List.length_range]at this
 refine⟨by rw[w,List.length_map,List.length_range],I,fun k f => ?_,fun k f => ?_⟩
 ·have:l.getD k 0=L.id k:=by
   rw[w,List.getD_eq_getElem?_getD,List.getElem?_eq_getElem (by rw[List.length_map,List.length_range]; exact f)]
   simp
  rw[this]
  exact⟨rfl,h.T.par k f,h.row k f⟩
 have t:k<c.length:=by omega
 have H:c.getD k g0∈c:=by rw[List.getD_eq_getElem?_getD,List.getElem?_eq_getElem t]; exact List.getElem_mem t
 have D:R8 (c.getD k g0)=mD (L.g k):=by
  have A:=congrArg (fun z=>z.getD k 0) y
  simp only[List.getD_eq_getElem?_getD,List.getElem?_map,List.getElem?_eq_getElem t,List.getElem?_range f]at A
  rw[List.getD_eq_getElem?_getD,List.getElem?_eq_getElem t]; exact A
 obtain⟨i,d,p⟩:=s.mem _ H
 obtain⟨q,o,r⟩:=h.g2 i d
 have J:mD (L.g q)=mD (L.g k):=by rw[r,<- p,<- D]; rfl
 have:q=k:=by
  rcases Nat.lt_trichotomy q k with h5|h5|h5
  ·have:=u.up q k h5 f; omega
  ·exact h5
  ·have:=u.up k q h5 o; omega
 rw[p,<- r,this]
end
end Rt
end Go.Proofs.YtahbiajdgealnaaDoor
namespace Go.Proofs.YtahbiajdgealnaaDoor
open Go.RowKit Go.WideShapes Go.ChangeShapes Go.Deep
def At4(a c d e:IntKind)(w:World)(b off:Nat)(x0 x1 x2 f:Int):Prop :=
 w.cell? ⟨b,off,none⟩=some (.int a x0)/\w.cell? ⟨b,off+1,none⟩=some (.int c x1)/\w.cell? ⟨b,off+2,none⟩=some (.int d x2)/\w.cell? ⟨b,off+3,none⟩=some (.int e f)
def Wf4(a b c d:IntKind)(x0 x1 x2 e:Int):Prop:=(Lit.int a x0).wf=true/\(Lit.int b x1).wf=true/\(Lit.int c x2).wf=true/\(Lit.int d e).wf=true
def UU(g h j k:IntKind)(w:World)(a:Option Addr)(len:Nat)(c d e f:Nat->Int):Prop :=
 ∀ i,i<len->(∃ b l,a=some ⟨b,l,none⟩/\At4 g h j k w b (l+i*4) (c i) (d i) (e i) (f i))/\Wf4 g h j k (c i) (d i) (e i) (f i)
theorem UU.up{m n o q:IntKind}{w w':World}{a:Option Addr}{len:Nat}{g j k l:Nat->Int}(h:UU m n o q w a len g j k l)(f:Below w.heap.size w w'):UU m n o q w' a len g j k l:=by
 intro i s
 obtain⟨⟨b,d,e,r,t,u,v⟩,hw⟩:=h i s
 have c:=block_lt_of_cell r
 dsimp only at c
 exact⟨⟨b,d,e,(f.cell (p:=⟨b,d+i*4,none⟩) c).trans r,(f.cell (p:=⟨b,d+i*4+1,none⟩) c).trans t,(f.cell (p:=⟨b,d+i*4+2,none⟩) c).trans u,(f.cell (p:=⟨b,d+i*4+3,none⟩) c).trans v⟩,hw⟩
instance {g i j k:IntKind} {w w':World} {a:Option Addr} {len:Nat} {c d e f:Nat->Int}:Rt.Tr w w' (UU g i j k w a len c d e f) (UU g i j k w' a len c d e f):=⟨fun b h=>h.up b⟩
end Go.Proofs.YtahbiajdgealnaaDoor
namespace Go.Proofs.YtahbiajdgealnaaDoor
open Go.RowKit Go.WideShapes Go.ChangeShapes Go.Deep
def rz(P:Program):Nat->TypeId->Option (List (Option IntKind))
 | 0,_=>none
 | d+1,t=>match P.underlying t with
   | some (.int k)=>some [some k]
   | some .bool=>some [none]
   | some (.array n e)=>(rz P d e).bind fun a=>if P.cellsOf e=a.length/\P.cellsOf t=n*a.length then some (List.replicate n a).flatten else none
   | some (.struct fs)=>(fs.toList.foldlM (fun l f=>(rz P d f.type).bind fun a=>if f.offset=l.length/\P.cellsOf f.type=a.length then some (l++a)else none) []).bind fun l=>if P.cellsOf t=l.length then some l else none
   | _=>none
def NA(k:Option IntKind)(v:Value):Prop:=match k with|some k => ∃ n,v = .int k n/\(Lit.int k n).wf=true|none => ∃ b,v = .bool b
def OY(ks:List (Option IntKind))(cs:List Value):Prop:=cs.length=ks.length /\ ∀(j:Nat) (k:Option IntKind),ks[j]? = some k -> ∃ v,cs[j]? = some v/\NA k v
theorem uy{ks:List (Option IntKind)}{k:Option IntKind} : ∀(n j:Nat),(List.replicate n ks).flatten[j]? = some k->ks[j % ks.length]? = some k/\j / ks.length<n
 | 0,j,h=>by simp at h
 | n+1,j,h=>by
   rw[List.replicate_succ,List.flatten_cons]at h
   by_cases b:j<ks.length
   ·rw[List.getElem?_append_left b]at h
    rw[Nat.mod_eq_of_lt b,Nat.div_eq_of_lt b]; exact⟨h,by omega⟩
   ·rw[List.getElem?_append_right (by omega)]at h
    have c:0<ks.length:=by
     rcases Nat.eq_zero_or_pos ks.length with e|e
     ·obtain⟨a,_⟩:=uy n _ h
      have:=(List.getElem?_eq_some_iff.1 a).1; omega
     ·exact e
    obtain⟨a,d⟩:=uy n _ h
    rw[Nat.mod_eq_sub_mod (by omega),Nat.div_eq_sub_div c (by omega)]
    exact⟨a,by omega⟩
section
variable {H:Type} {enc:TypeId × Value->H} {P:Program} {w:World} {base:Nat} {spare:Nat->Bool} {held:Bool}
theorem xQ{ks:List (Option IntKind)}{cs:List Value}{o s j:Nat}{k:Option IntKind}(h:OY ks ((cs.drop o).take s))(e:s=ks.length)(b:ks[j]? = some k) : ∃ v,cs[o+j]? = some v/\NA k v:=by
 obtain⟨n,a,c⟩:=h.2 j k b
 have d:=(List.getElem?_eq_some_iff.1 b).1
 rw[List.getElem?_take_of_lt (by omega),List.getElem?_drop]at a
 exact⟨n,a,c⟩
theorem uz : ∀(d:Nat) (t:TypeId) (q:List (Option IntKind)),rz P d t=some q -> ∀(C:Nat) (p:List Value) (x:DataW H × List MemPlace),DataW.trod enc P w base spare held C t p=some x->OY q p
 | 0,_,_,h=>by simp[rz]at h
 | d+1,t,q,h=>by
   intro C p x z
   unfold rz at h
   split at h
   ·rename_i k hu
    simp only[Option.some.injEq]at h; subst h
    obtain⟨n,rfl,_,U⟩:=DataW.trod_int hu z
    refine⟨rfl,fun j W a => ?_⟩
    match j,a with
    | 0,a=>simp at a; subst a; exact⟨_,rfl,n,rfl,U⟩
    | j+1,a=>simp at a
   ·rename_i hu
    simp only[Option.some.injEq]at h; subst h
    obtain⟨b,rfl,_⟩:=DataW.trod_bool hu z
    refine⟨rfl,fun j W a => ?_⟩
    match j,a with
    | 0,a=>simp at a; subst a; exact⟨_,rfl,b,rfl⟩
    | j+1,a=>simp at a
   ·rename_i n e hu
    obtain⟨I,S,h⟩:=Option.bind_eq_some_iff.1 h
    split at h
    ·rename_i hc
     simp only[Option.some.injEq]at h; subst h
     obtain⟨Y,m,_,_,c,F,J⟩:=DataW.trod_array hu z
     refine⟨by rw[c,hc.2]; simp,fun j k a => ?_⟩
     obtain⟨r,A⟩:=uy n j a
     have u:=J (j / I.length) A
     rw[List.getElem?_eq_getElem (by omega),hc.1]at u
     have:=xQ (uz d e I S _ _ _ u) rfl r
     rw[Nat.mul_comm,Nat.div_add_mod]at this
     exact this
    ·cases h
   ·rename_i fs hu
    obtain⟨l,c,h⟩:=Option.bind_eq_some_iff.1 h
    split at h
    ·rename_i hc
     simp only[Option.some.injEq]at h; subst h
     obtain⟨Y,m,_,_,T,F,K⟩:=DataW.trod_struct hu z
     refine⟨by rw[T,hc],?_⟩
     have M : ∀ f,f∈fs.toList -> ∃ y,DataW.trod enc P w base spare held m f.type ((p.drop f.offset).take (P.cellsOf f.type))=some y:=by
      intro f N
      obtain⟨i,u,e⟩:=List.mem_iff_getElem.1 N
      have E:i<fs.size:=by simpa using u
      have r:fs[i]? = some f:=by rw[Array.getElem?_eq_getElem E]; simpa using e
      have:=K i f r
      rw[List.getElem?_eq_getElem (by rw[F]; exact E)]at this
      exact⟨_,this⟩
     have X : ∀(L:List Field) (o:List (Option IntKind)),(∀ f,f∈L -> ∃ y,DataW.trod enc P w base spare held m f.type ((p.drop f.offset).take (P.cellsOf f.type))=some y)->(∀(j:Nat) (k:Option IntKind),o[j]? = some k -> ∃ v,p[j]? = some v/\NA k v) -> ∀ l,L.foldlM (fun l f=>(rz P d f.type).bind fun q=>if f.offset=l.length/\P.cellsOf f.type=q.length then some (l++q)else none) o=some l -> ∀(j:Nat) (k:Option IntKind),l[j]? = some k -> ∃ v,p[j]? = some v/\NA k v:=by
      intro L
      induction L with
      | nil=>intro o _ B l c; simp at c; subst c; exact B
      | cons f L ih =>
        intro o D B l c
        rw[List.foldlM_cons]at c
        obtain⟨Z,r,A⟩:=Option.bind_eq_some_iff.1 c
        obtain⟨G,R,s⟩:=Option.bind_eq_some_iff.1 r
        split at s
        ·rename_i hcc
         simp only[Option.some.injEq]at s; subst s
         refine ih (o++G) (fun g O=>D g (List.mem_cons_of_mem _ O)) (fun j k a => ?_) l A
         by_cases Q:j<o.length
         ·rw[List.getElem?_append_left Q]at a; exact B j k a
         ·rw[List.getElem?_append_right (by omega)]at a
          obtain⟨y,V⟩:=D f (List.mem_cons_self ..)
          have:=xQ (uz d f.type G R _ _ _ V) hcc.2 a
          rw[hcc.1,show o.length+(j-o.length)=j by omega]at this
          exact this
        ·cases s
     exact X fs.toList [] M (fun j k a=>by simp at a) l c
    ·cases h
   ·cases h
end
def numOf:Value->Int | .int _ n=>n|_=>0
theorem NA.num{k:IntKind}{v:Value}(h:NA (some k) v):v = .int k (numOf v)/\(Lit.int k (numOf v)).wf=true:=by
 obtain⟨n,rfl,a⟩:=h; exact⟨rfl,a⟩
theorem UW{n:Int}(h:(Lit.int .u8 n).wf=true):0<=n/\n<=255:=by simp[Lit.wf,IntKind.min,IntKind.max,IntKind.bits,IntKind.signed]at h; omega
theorem R9{n:Int}(h:(Lit.int .u64 n).wf=true):0<=n/\n<18446744073709551616:=by simp[Lit.wf,IntKind.min,IntKind.max,IntKind.bits,IntKind.signed]at h; omega
theorem LC{n:Int}(h:(Lit.int .i64 n).wf=true) : -9223372036854775808<=n/\n<=9223372036854775807:=by simp[Lit.wf,IntKind.min,IntKind.max,IntKind.bits,IntKind.signed]at h; omega
section
variable {H:Type} {enc:TypeId × Value->H} {P:Program} {w:World}
theorem kZ.mI{w:World}{a:Option Addr}{n s:Nat}{x y:Nat->Value}(h:Fx.kZ w a n s x)(e : ∀ p,p<n*s->x p=y p):Fx.kZ w a n s y:=fun f=>by
 obtain⟨b,j,d,g⟩:=h f
 exact⟨b,j,d,fun i c=>by rw[<- e i c]; exact g i c⟩
end
end Go.Proofs.YtahbiajdgealnaaDoor
namespace Go.Proofs.YtahbiajdgealnaaDoor
open Go.RowKit Rt
open Fx (eY dN fJ bC fI fH eO dS fK iq dY iw fq gT iy Lv sN Ln Ws Qv Wl Rp Wc Qs Wr Sb Lk Wk rC rV sR Rs Rn Rd Rk Wb Wx Wo Ab Wt qM EP Qn Ba uY Bc BF yw Bb DL jw Dt jl qh rQ DX Bd Dr BU Bf rv aC aK dn aH ev bQ Stp bS aS flat gu Mp dH bB fC gF bO down fG iR jr kZ dG bY cells_one jm bP xV unseen jv jE cO bU dA cZ dh gX iP rA iD)
set_option maxRecDepth 20000
set_option linter.unusedVariables false
namespace Rt
def YK(L:eB)(c:Option Addr)(d:Nat)(a:Option Addr)(b:Nat):Er:=⟨L.inn,L.left,L.known,c,L.nn,d,a,L.gn,b⟩
def YL(L:eB):Nat->Nat->Value:=fun k=>Vm (L.id k) (L.par k) (L.R k)
def YM(L:eB):Nat->Nat->Value:=fun k=>vE (L.g k)
structure VF(L:eB):Prop where
 n : ∀ k,k<L.nn->iG (L.id k)/\iG (L.par k) /\ ∀ p,p<54->sj (L.R k p)
 g : ∀ k,k<L.gn->sj (L.g k 0)/\iG (L.g k 1)/\iG (L.g k 2)/\sj (L.g k 3)/\iG (L.g k 4)
 k : ∀ i,i<6->iG (L.known i)
 bn:L.nn<=900000
 bg:L.gn<=900000
theorem VF.of{L:eB}{N:Nat}(a:Inv0 L N)(o:qW L)(m:vJ L)(A:N<=900000):VF L where
 n:=fun k c=>by
  have y:=a.pos k c
  have z:=a.top k c
  have f:=pY (a.may k c)
  refine⟨⟨by omega,by omega⟩,?_,fun p r=>by have:=f p r; exact⟨by omega,by omega⟩⟩
  rcases a.up k c with e|⟨j,b,e⟩
  ·rw[e]; exact⟨by omega,by omega⟩
  ·have h:=a.pos j b
   have l:=a.top j b
   rw[<- e]; exact⟨by omega,by omega⟩
 g:=fun k c=>by
  obtain⟨d,u,v,w,x⟩:=o.gb k c
  obtain⟨s,t⟩:=m.wf k c
  obtain⟨j,b,e⟩:=eH.1 d
  rw[a.tZ]at b
  rw[(a.tid j b).1]at e
  have h:=a.pos j b
  have l:=a.top j b
  exact⟨⟨by omega,by omega⟩,s,by rw[<- e]; exact⟨by omega,by omega⟩,⟨by omega,by omega⟩,t⟩
 k:=fun i q=>by have:=a.kn i q; exact⟨by omega,by omega⟩
 bn:=by have:=a.nn; omega
 bg:=by have:=a.gn; omega
end Rt
structure OZ(w:World)(s:Er)(L:eB):Prop where
 e:s=YK L s.na s.nc s.ga s.gc
 n:kZ w s.na L.nn 56 (flat 56 (YL L))
 g:kZ w s.ga L.gn 5 (flat 5 (YM L))
theorem OZ.up{w w':World}{s:Er}{L:eB}(h:OZ w s L)(a:Below w.heap.size w w'):OZ w' s L:=⟨h.e,h.n.up a rfl,h.g.up a rfl⟩
instance {w w':World} {s:Er} {L:eB}:Rt.Tr w w' (OZ w s L) (OZ w' s L):=⟨fun b h=>h.up b⟩
theorem OZ.of{w:World}{B:Nat}{m:dz}{s:Er}{l:List Int}{p:List Ih}{L:eB}{N:Nat}(h:StQ w B m s l p)(d:dP m L)(r:Inv0 L N)(q:vJ L):OZ w s L:=by
 have e:=YJ.of d r q h.ls h.gs
 have f:s.nn=L.nn:=by rw[h.nn,e.nn]
 have i:s.gn=L.gn:=by rw[h.gn,e.gn]
 refine⟨?_,?_,?_⟩
 ·cases s
  unfold YK
  have a:=h.inn
  have b:=h.left
  have c:=h.known
  simp only at a b c f i ⊢
  rw[a,b,c,d.inn,d.left,d.known,f,i]
 ·have:=h.n.arr
  rw[f]at this
  refine kZ.mI this<|dG fun k o j _ => ?_
  obtain⟨a,b,c⟩:=e.n k o
  unfold ndQ YL
  rw[b,c,a]
 have:=h.g.arr
 rw[i]at this
 refine kZ.mI this<|dG fun k o j _ => ?_
 unfold grQ YM
 rw[e.g k o]
namespace Rt
def wdY(x y:Value):Nat->Value:=fun q=>if q=0 then x else y
def ptX(a:Nat->Nat):Nat->Value:=fun i=>(pt (a i))
def Dk(w:World)(B n:Nat)(b:Nat->Nat)(a:Nat->qI):Prop := ∀ i,i<n->DC w B (b i) (a i)
theorem Dk.up{w w':World}{B n:Nat}{b:Nat->Nat}{a:Nat->qI}(h:Dk w B n b a)(c:Below w.heap.size w w'):Dk w' B n b a:=fun i d=>(h i d).up c
instance {w w':World} {B n:Nat} {c:Nat->Nat} {a:Nat->qI}:Rt.Tr w w' (Dk w B n c a) (Dk w' B n c a):=⟨fun b h=>h.up b⟩
theorem Dk.jo{w w':World}{B n:Nat}{c:Nat->Nat}{b:Nat->qI}{a:List TypeId}(h:Dk w B n c b)(e:jm a w w')(f:(G9.all fun T => !a.contains T)=true):Dk w' B n c b:=fun i d=>(h i d).jo e f
instance {w w':World} {B n:Nat} {d:Nat->Nat} {c:Nat->qI} {a:List TypeId}:Rt.Tc a w w' (Dk w B n d c) (Dk w' B n d c) ((G9.all fun T => !a.contains T)):=⟨fun b h e=>h.jo b (by simpa using e)⟩
theorem Dk.put{w:World}{B n o p:Nat}{b:Nat->Nat}{a:Nat->qI}{m:qI}(h:Dk w B n b a)(d:DC w B p m):Dk w B n (aV b o p) (aV a o m):=fun i c=>by
 unfold aV
 by_cases e:i=o
 ·rw[if_pos e,if_pos e]; exact d
 ·rw[if_neg e,if_neg e]; exact h i c
theorem Dk.snoc{w:World}{B n p:Nat}{b:Nat->Nat}{a:Nat->qI}{m:qI}(h:Dk w B n b a)(c:DC w B p m):Dk w B (n+1) (aV b n p) (aV a n m):=fun i d=>by
 unfold aV
 by_cases e:i=n
 ·rw[if_pos e,if_pos e]; exact c
 ·rw[if_neg e,if_neg e]; exact h i (by omega)
structure WM where
 n:Nat
 la:Option Addr
 lc:Nat
 pl:Nat->Nat
 ml:Nat->qI
 an:Nat
 aa:Option Addr
 ac:Nat
 ev:Nat->EvM
end Rt
structure nN(w:World)(B p:Nat)(M:WM)(T:Nat):Prop where
 c:aK w p 2 (wdY (.slice M.la M.n M.lc) (.slice M.aa M.an M.ac)) 61
 l:Fx.Own w B 57 1 (.slice M.la M.n M.lc) M.n (ptX M.pl)
 a:Fx.Own w B 28 14 (.slice M.aa M.an M.ac) M.an (evX M.ev)
 g:Dk w B M.n M.pl M.ml
 inv : ∀ i,i<M.n->Inv (M.ml i).core T
 wf : ∀ k,k<M.an->jc (M.ev k)
 may : ∀ k,k<M.an->bX (M.ev k)=true
 sm : ∀ k,k<M.an->W9 (M.ev k)
 cz:Cz M.n M.an M.ev fun o=>(M.ml o).s.known
 pB:B<=p
 n1:1<=M.n
 n6:M.n<=6
def Sc:List Nat := [61,57,28]++G9
theorem nN.up{w w':World}{B p T:Nat}{M:WM}(h:nN w B p M T)(b:Below w.heap.size w w'):nN w' B p M T := { h with c:=h.c.dX (Sb b) (Nat.ne_of_lt h.c.lt),l:=h.l.up b,a:=h.a.up b,g:=h.g.up b }
instance {w w':World} {B p T:Nat} {M:WM}:Rt.Tr w w' (nN w B p M T) (nN w' B p M T):=⟨fun b h=>h.up b⟩
theorem nN.jo{w w':World}{B p T:Nat}{M:WM}{e:List TypeId}(h:nN w B p M T)(b:jm e w w')(j:(Sc.all fun T => !e.contains T)=true):nN w' B p M T:=by
 have i : ∀ d∈Sc,e.contains d=false:=fun d f=>by
  have:=List.all_eq_true.1 j d f
  simpa using this
 exact { h with c:=h.c.jo b (i _ (by decide)),l:=h.l.jo b (i _ (by decide)),a:=h.a.jo b (i _ (by decide)),g:=h.g.jo b (List.all_eq_true.2 fun T f=>List.all_eq_true.1 j T (List.mem_append_right _ f)) }
instance {w w':World} {B p T:Nat} {M:WM} {a:List TypeId}:Rt.Tc a w w' (nN w B p M T) (nN w' B p M T) ((Sc.all fun T => !a.contains T)):=⟨fun b h e=>h.jo b (by simpa using e)⟩
theorem Rt.xR(k a:Nat):Inv (tX k a).core 0 where
 tZ:=rfl
 nn:=Nat.zero_le _
 tid:=fun _ h=>absurd h (Nat.not_lt_zero _)
 rise:=fun _ _ _ h=>absurd h (Nat.not_lt_zero _)
 pos:=fun _ h=>absurd h (Nat.not_lt_zero _)
 top:=fun _ h=>absurd h (Nat.not_lt_zero _)
 up:=fun _ h=>absurd h (Nat.not_lt_zero _)
 dep:=fun _=>⟨0,Nat.zero_le _,by show(-1:Int)<0; decide⟩
 gn:=Nat.le_refl _
 rn:=fun _ _=>Nat.le_refl _
 may:=fun _ h=>absurd h (Nat.not_lt_zero _)
 g47:=fun _ h=>absurd h (Nat.not_lt_zero _)
 kn:=fun _ _=>⟨Int.le_refl _,by show(0:Int)<_; decide⟩
 s:=⟨fun _ h=>absurd h (Nat.not_lt_zero _),fun _ h=>absurd h (Nat.not_lt_zero _)⟩
 b:=⟨fun _ _=>Int.le_refl _,fun _ h=>absurd h (Nat.not_lt_zero _),fun _ _ _ h=>absurd h (Nat.not_lt_zero _)⟩
end Go.Proofs.YtahbiajdgealnaaDoor
namespace Go.Proofs.YtahbiajdgealnaaDoor
open Go.RowKit Go Rt
set_option linter.unusedVariables false
set_option maxRecDepth 20000
namespace Rt
section
variable {L:eB} {N:Nat} {v:EvM}
theorem EX(b:Inv0 L N)(h:qW L):qW (gK L v):=by
 unfold gK
 by_cases c:dL L v=0
 ·rw[if_pos c]
  have a:=(SC (lN c)).1
  have d:nT L v=0:=by
   unfold dL at c
   rw[if_neg (by rw[a]; decide)]at c
   split at c; · cases c
   split at c; · cases c
   split at c; · cases c
   exact c
  have:=Ho b h a d
  exact⟨this.us,this.gb⟩
 rw[if_neg c]; exact h
def dW(L:eB)(x i:Int):Int:=if L.node x<0 then 0 else dI (L.R (L.node x).toNat) i
theorem EY(i:Int):dI Gg i=0:=by
 unfold dI
 by_cases c:(gH i&&may Gg)=true
 ·rw[if_pos c]
  rw[Bool.and_eq_true]at c
  obtain⟨a,d,e,b⟩:=qb c.1
  have:=mQ (pY c.2) a d
  rw[b,this]; rfl
 rw[if_neg c]
theorem dP.local{m:dz}(h:dP m L)(a:Inv0 L N)(x i:Int):dI (lS m x) i=dW L x i:=by
 unfold lS dW
 by_cases c:L.node x<0
 ·rw[if_neg (by rw[(h.Di a x).2 c]; decide),if_pos c]; exact EY i
 rw[if_pos ((h.node a x).2 (by omega)),if_neg c,h.rk a (by omega)]
structure zK(m m':dz):Prop where
 et:m'.tp=m.tp
 em:m'.mb=m.mb
 ep:m'.pb=m.pb
 er:m'.rb=m.rb
 eg:m'.gb=m.gb
 ea:m'.ab=m.ab
theorem zK.refl(m:dz):zK m m:=⟨rfl,rfl,rfl,rfl,rfl,rfl⟩
theorem zK.trans{a b c:dz}(h:zK a b)(k:zK b c):zK a c:=⟨k.et.trans h.et,k.em.trans h.em,k.ep.trans h.ep,k.er.trans h.er,k.eg.trans h.eg,k.ea.trans h.ea⟩
end
end Rt
structure rH(w:World)(B lp:Nat)(m:dz)(L:eB)(N:Nat):Prop where
 q:gZ w B lp m
 s:dP m L
 i:Inv0 L N
 u:qW L
 g:vJ L
section
variable {w w':World} {B lp:Nat} {m:dz} {L:eB} {N:Nat} {v:EvM}
theorem rH.up(h:rH w B lp m L N)(a:Below w.heap.size w w'):rH w' B lp m L N := { h with q:=h.q.up a }
instance:Rt.Tr w w' (rH w B lp m L N) (rH w' B lp m L N):=⟨fun b h=>h.up b⟩
theorem rH.jo{a:List TypeId}(h:rH w B lp m L N)(b:Fx.jm a w w')(c:(a.contains 93 || a.contains 116)=false):rH w' B lp m L N := { h with q:=h.q.jo b c }
instance {a:List TypeId}:Rt.Tc a w w' (rH w B lp m L N) (rH w' B lp m L N) (!(a.contains 93 || a.contains 116)):=⟨fun b h e=>h.jo b (by simpa using e)⟩
theorem rH.weak{a:Nat}(h:rH w B lp m L N)(b:a<=B):rH w a lp m L N := { h with q:=h.q.weak b }
theorem rH.mono{a:Nat}(h:rH w B lp m L N)(b:N<=a):rH w B lp m L a := { h with i:=h.i.mono b }
theorem rH.wf(h:rH w B lp m L N)(a:N<=900000):VF L:=VF.of h.i h.u h.g a
theorem gZ.LD(h:gZ w B lp m)(a:Fx.iR (Ko m lp w.heap.size) w w')(c:B<=w.heap.size):Below B w w':=⟨a.os,a.tape,a.output,a.size,fun k d=>a.block k (by omega) fun b=>by
 rcases b with b|b
 ·have:=(h.ltS b).1; omega
 ·omega⟩
theorem gZ.typed(h:gZ w B lp m)(d:Fx.iR (Ko m lp w.heap.size) w w'):Fx.rU [93] w w':=⟨d.os,d.tape,d.output,d.size,fun k T b e=>d.block k b.VW fun f=>by
 rcases f with (rfl|rfl|rfl|rfl|rfl|rfl)|f
 ·have:=Fx.Ty.only h.c.ty b
  rw[this]at e; simp at e
 ·exact h.t.map.kJ b
 ·exact h.p.kJ b
 ·exact h.r.kJ b
 ·exact h.g.kJ b
 ·exact h.a.kJ b
 ·have:=b.VW; omega⟩
theorem YN{B:Nat}{a b c:World}(h:Below a.heap.size a b)(e:Below B b c)(d:a.heap.size<=B):Below a.heap.size a c:=h.trans (e.mono d)
theorem zL{P:Program}{g:Nat}{a b:Array Value}{w:World}{R:Ending->World->Prop}(h:Calls P g b w R)(e:a=b):Calls P g a w R:=e ▸ h
theorem Gm{x:Value}{y:Nat->Value}(hy : ∀ j,j<14->y j=dJ v j):(#[x,.agg (Fx.aC 14 y)]:Array Value) = #[x,.agg (Fx.aC 14 (dJ v))]:=congrArg (fun z=>(#[x,.agg z]:Array Value)) (Fx.fZ hy)
theorem UY(k:Nat)(d:1<=k/\k<=6)(w:World):Calls Tryd.prog 13 #[au ((k:Int))] w fun e w' => ∃ lp m,e = .returned (.tuple #[(pt lp),au 0])/\rH w' w.heap.size lp m (tX k 0).core 0/\Below w.heap.size w w' :=
 (UO k d w).mono fun e w' ⟨lp,m,c,⟨n,i,j,l,h,g,a⟩,f,b⟩=>⟨lp,m,c,⟨f,by rw[a]; exact dP.new ..,(xR k 0).toInv0,(xR k 0).s,LB k 0⟩,b⟩
theorem NC(h:rH w B lp m L N)(b:jc v)(c:1<=B)(d:Fx.gF w 0 0 8 vI){y:Nat->Value}(hy : ∀ j,j<14->y j=dJ v j) :
 Calls Tryd.prog 14 #[(pt lp),.agg (Fx.aC 14 y)] w fun e w'=>e = .returned (au (dL L v))/\rH w' B lp (iO m v) (gK L v) (N+1)/\Fx.iR (Ko m lp w.heap.size) w w':=by
 have a:=h.s.apply h.q.t.inv h.i v
 refine zL ((Nt m lp B w h.q v b (h.s.sound h.q.t.inv h.i) c d).mono fun e w' ⟨k,l,f⟩=>⟨by rw[k,a.1],⟨l,a.2,xA h.i,EX h.i h.u,EW h.g b⟩,f⟩) (Gm hy)
theorem ND(h:rH w B lp m L N)(g:jc v)(a:1<=B)(b:Fx.gF w 0 0 8 vI){y:Nat->Value}(hy : ∀ j,j<14->y j=dJ v j) :
 Calls Tryd.prog 15 #[(pt lp),.agg (Fx.aC 14 y)] w fun e w'=>e = .returned (au (dL L v))/\Below w.heap.size w w':=by
 have f:=h.s.apply h.q.t.inv h.i v
 refine zL ((YC m lp B w h.q v g (h.s.sound h.q.t.inv h.i) a b).mono fun e w' ⟨d,c⟩=>⟨by rw[d,f.1],c⟩) (Gm hy)
theorem Gn(h:rH w B lp m L N):Calls Tryd.prog 16 #[(pt lp)] w fun e w'=>e = .returned (.agg (Fx.aC 6 (Fx.rv .u64 L.known)))/\Below w.heap.size w w':=by
 rw[<- h.s.known]; exact Nu m lp B w h.q
theorem NG(h:rH w B lp m L N)(i x:Int)(hi : -9223372036854775808<=i/\i<=9223372036854775807):Calls Tryd.prog 17 #[(pt lp),au i,aA x] w fun e w'=>e = .returned (au (dW L x i))/\Below w.heap.size w w':=by
 rw[<- h.s.local h.i]; exact Nv m lp B w h.q i x hi
def VG(L:eB)(x:Int):Nat->Value:=Fx.rv .u64 fun q=>aO L.t L.tn q x
theorem Sd(h:rH w B lp m L N)(x:Int):Calls Tryd.prog 18 #[(pt lp),aA x] w fun e w' => ∃ a c,e = .returned (.slice a (dK L.t L.tn x) c)/\Fx.Own w' w.heap.size 22 1 (.slice a (dK L.t L.tn x) c) (dK L.t L.tn x) (VG L x)/\Below w.heap.size w w':=by
 obtain⟨d,l⟩:=h.s.T.path h.q.t.inv h.i x
 refine(R3 m lp B w h.q x).mono fun e w' ⟨a,c,g,b,f⟩=>⟨a,c,by rw[g,d],?_,f⟩
 unfold LY at b
 rw[d]at b
 exact b.congr fun j k=>by
  rw[Nat.mul_one]at k
  show Value.int .u64 ((m.T.path x).getD j 0)=aA (aO L.t L.tn j x)
  rw[l j (by omega)]
structure EZ(w:World)(B:Nat)(s:Er)(L:eB):Prop where
 e:s=YK L s.na s.nc s.ga s.gc
 n:Fx.Own w B 84 56 (.slice s.na L.nn s.nc) L.nn (Fx.flat 56 (YL L))
 g:Fx.Own w B 99 5 (.slice s.ga L.gn s.gc) L.gn (Fx.flat 5 (YM L))
theorem EZ.r{s:Er}(h:EZ w B s L):OZ w s L:=⟨h.e,h.n.arr,h.g.arr⟩
theorem EZ.up{s:Er}(h:EZ w B s L)(a:Below w.heap.size w w'):EZ w' B s L:=⟨h.e,h.n.up a,h.g.up a⟩
instance {s:Er}:Rt.Tr w w' (EZ w B s L) (EZ w' B s L):=⟨fun b h=>h.up b⟩
theorem EZ.jo{s:Er}{a:List TypeId}(h:EZ w B s L)(c:Fx.jm a w w')(b:(a.contains 84 || a.contains 99)=false):EZ w' B s L:=by
 rw[Bool.or_eq_false_iff]at b
 exact⟨h.e,h.n.jo c b.1,h.g.jo c b.2⟩
instance {s:Er} {a:List TypeId}:Rt.Tc a w w' (EZ w B s L) (EZ w' B s L) (!(a.contains 84 || a.contains 99)):=⟨fun b h e=>h.jo b (by simpa using e)⟩
theorem EZ.Mt{s:Er}{a:List TypeId}(h:EZ w B s L)(c:Fx.rU a w w')(b:(a.contains 84 || a.contains 99)=false):EZ w' B s L:=by
 rw[Bool.or_eq_false_iff]at b
 exact⟨h.e,h.n.Mt c b.1,h.g.Mt c b.2⟩
end
end Go.Proofs.YtahbiajdgealnaaDoor
namespace Go.Proofs.YtahbiajdgealnaaDoor
open Go.RowKit Rt
open Fx (eY dN fJ bC fI fH eO dS fK iq dY iw fq gT iy Lv sN Ln Ws Qv Wl Rp Wc Qs Wr Sb Lk Wk rC rV sR Rs Rn Rd Rk Wb Wx Wo Ab Wt qM EP Qn Ba uY Bc BF yw Bb DL jw Dt jl qh rQ DX Bd Dr BU Bf rv aC aK dn aH ev bQ Stp bS aS flat gu Mp dH bB fC gF bO down fG iR jr kZ dG bY cells_one jm bP xV unseen jv jE cO bU dA cZ dh gX iP rA iD)
set_option maxRecDepth 20000
set_option linter.unusedVariables false
namespace Rt
def Br:Int:=1099511627777
def UZ(n:Int)(i:Nat):Int:=if i=0 then n else 0
def vA:EvM:=⟨1,1,fun _=>0,1,0,0,10,0,0⟩
def vC:EvM:=⟨1,2,UZ 1,5,Br,2,4,0,0⟩
def vD:EvM:=⟨2,1,UZ 2,3,Br,0,4,1,0⟩
theorem LG{m:dz}(b:m.T.ok)(v:EvM):(iO m v).T.ok:=by
 unfold iO
 by_cases c:bf m v=0
 ·rw[if_pos c]
  have f:=pK c
  have a:=(uV c).2.1
  have g:=kP f
  show(fT m v).T.ok
  unfold eF at a
  unfold fT
  by_cases d:v.kind=1
  ·rw[if_pos d]at a ⊢
   have e:m.T.err (kW v) v.node=0:=by
    unfold ji at a
    split at a
    ·cases a
    ·exact a
   exact tJ.put b e (by unfold kW; omega)
  rw[if_neg d]
  repeat' split
  all_goals exact b
 rw[if_neg c]; exact b
structure LH(m:dz)(L:eB)(N:Nat):Prop where
 s:dP m L
 t:m.T.ok
 i:Inv0 L N
theorem LH.new(k:Nat):LH (sQ k 0 0 0 0 0 0) (tX k 0).core 0:=⟨dP.new ..,tJ.zero _ _,(xR k 0).toInv0⟩
theorem LH.apply{m:dz}{L:eB}{N:Nat}(h:LH m L N)(v:EvM):LH (iO m v) (gK L v) (N+1):=⟨(h.s.apply h.t h.i v).2,LG h.t v,xA h.i⟩
theorem LH.err{m:dz}{L:eB}{N:Nat}(h:LH m L N)(v:EvM){c:Int}(e:bf m v=c):dL L v=c:=(h.s.apply h.t h.i v).1.symm.trans e
theorem LH.loc{m:dz}{L:eB}{N:Nat}(h:LH m L N)(x i:Int){c:Int}(e:dI (lS m x) i=c):dW L x i=c:=(h.s.local h.i x i).symm.trans e
noncomputable def YO:dz:=sQ 2 0 0 0 0 0 0
noncomputable def wq1:dz:=iO YO vA
noncomputable def wq2:dz:=iO wq1 vC
noncomputable def wq3:dz:=iO wq2 vD
theorem YP:LH YO (tX 2 0).core 0 := .new 2
end Rt
namespace Rt
structure nO where
 kind:Int
 node:Int
 dst:Int
 bI:Int
 req:Int
 of:Int
def xS(x:nO):Nat->Value:=fun p=>if p=0 then .int .u8 x.kind else if p=1 then .int .u64 x.node else if p=2 then .int .i64 x.dst else if p=3 then .int .i64 x.bI else if p=4 then .int .u64 x.req else .int .u64 x.of
structure uX(x:nO):Prop where
 kind:0<=x.kind/\x.kind<=255
 node:iG x.node
 dst:sj x.dst
 bI:sj x.bI
 req:iG x.req
 of:iG x.of
end Rt
set_option maxRecDepth 20000
set_option linter.unusedVariables false
namespace Rt
def mE(K:Nat->Int)(i:Int)(x:nO):EvM:=⟨i,K (i-1).toNat+1,K,x.kind,x.node,x.dst,x.bI,x.req,x.of⟩
end Rt
theorem NH(K:Nat->Int)(i:Int)(hr:iW i=false)(w:World) :
 Calls Tryd.prog 22 #[.agg (aC 6 (rv .u64 K)),au i] w fun e w'=>e = .returned (.tuple #[aA 0,au 10])/\Below w.heap.size w w':=by
 refine Kent Tryd.func22 21 ?_
 refine ay<|rR fun f j b c d k => ?_
 have a:=aQ d.old (Below.refl w.heap.size w)
 have g:=gP b
 have h:=c.lt
 refine av (aA 0)<|av (au 0)<|aD<|Ws<|Wb<|ay<|av (au i)<|qj (AQ i _) aF (by rw[hr])<|av aI<|av aI<|aD<|aT<|ay<|av (aA 0)<|av (au 10)<|aD<|Wr<|bU<|sR<|aL (.tuple #[aA 0,au 10]) ?_
 exact⟨rfl,a⟩
theorem NI(K:Nat->Int)(i:Int)(a:Nat)(ha:a<6)(h:i=(a:Int)+1)(g:Eh K)(w:World) :
 Calls Tryd.prog 22 #[.agg (aC 6 (rv .u64 K)),au i] w fun e w'=>e = .returned (.tuple #[aA (K a+1),au 0])/\Below w.heap.size w w':=by
 have j:iW i=true:=by rw[h]; unfold iW; simp; omega
 have l:=g a ha
 refine Kent Tryd.func22 21 ?_
 refine ay<|rR fun c o f b k p => ?_
 have d:=aQ k.old (Below.refl w.heap.size w)
 have m:=gP f
 have n:=b.lt
 refine av (aA 0)<|av (au 0)<|aD<|Ws<|Wb<|ay<|av (au i)<|qj (AQ i _) aI (by rw[j])<|av aF<|av aF<|aD<|aN<|ay<|av (au i)<|Lv (au a) iC<|Lv ((pf c a)) (vK 6 1)<|Lv (aA (K a)) (aP b.aM a)<|Lv aF yN<|av aF<|aD<|aN<|Wk<|dA<|sN<|ay<|av (au i)<|Lv (au a) iC<|Lv ((pf c a)) (vK 6 1)<|Lv (aA (K a)) (aP b.aM a)<|Lv (aA ((K a)+1)) gD<|av (aA ((K a)+1))<|av (au 0)<|aD<|Wr<|aL (.tuple #[aA ((K a)+1),au 0]) ?_
 exact⟨rfl,d⟩
theorem U0(v:EvM)(i c:Int)(K:Nat->Int)(a:Nat)(w:World)(b:aK w a 14 (dJ v) 28)(d:Nat)(g:Nat)(f:Nat)(hi:aK w d 1 (fun _=>au i) 3)(k:aK w g 1 (fun _=>aA c) 22)(h:aK w f 6 (rv .u64 (K)) 26) :
 Calls Tryd.prog 24 #[(pt a),(pt d),(pt g),(pt f)] w fun e w'=>e = .returned (.tuple #[])/\aK w' a 14 (dJ ⟨i,c,K,v.kind,v.node,v.dst,v.bI,v.req,v.of⟩) 28/\Stp a w w':=by
 have L:=b.lt
 have M:=hi.lt
 have O:=k.lt
 have N:=h.lt
 have P:d≠a:=fun e=>absurd (Fx.Ty.only (e ▸ hi.ty) b.ty) (by decide)
 have Q:g≠a:=fun e=>absurd (Fx.Ty.only (e ▸ k.ty) b.ty) (by decide)
 have R:f≠a:=fun e=>absurd (Fx.Ty.only (e ▸ h.ty) b.ty) (by decide)
 refine Kent Tryd.func24 17 ?_
 -- region 0 draws
 refine Bf [0,1,2,3,6,7,4,5,8,9,10,11,12,13,14] [0,0,0,4,1,1,0,0,2,0,0,2,0,0,2] (Fx.rU [28]) Fx.rU.refl Fx.rU.trans (fA := [(8,3,[3]),(11,3,[3]),(14,3,[3]),(9,8,[8]),(10,8,[8]),(11,8,[8]),(12,8,[8]),(13,8,[8]),(14,8,[8]),(12,11,[11]),(13,11,[11]),(14,11,[11])]) (by kernel_rfl) (by kernel_rfl) (by kernel_rfl) (by kernel_rfl) (by kernel_rfl) fun H m J => ?_
 have F:Stp w.heap.size w H:=Sb m
 have⟨n,C,D,E⟩:=jY m b hi k h
 have t:=(jl a w).then F (.inr (jl a w).size)
 refine aY ((pt a))<|aY ((pt a))<|aY ((pt a))<|Rs (au i) (aP C.aM 0) ?_
 refine aY ((pt a))<|aY ((pt a))<|Rd (v:=aA c) (by rfl) (by rfl) (Fx.rU.refl _) (fun G l=>bC (x:=fun _=>aA c) rfl rfl (by kernel_rfl) (D.Mt l (by decide)).aM (i:=0) (by omega) (by omega) rfl) ?_
 refine Rd (v := .agg (aC 6 (rv .u64 (K)))) (by rfl) (by rfl) (Fx.rU.refl _) (fun G l=>dY (x:=rv .u64 (K)) (y:=rv .u64 (K)) rfl rfl (by kernel_rfl) (by kernel_rfl) (E.Mt l (by decide)).aM (i:=0) (by omega) (by omega) (fun j _=>by rw[Nat.zero_add])) ?_
 refine IG<|mX n 0 (au i) fun S o q V => ?_
 have u:=t.then q (by omega)
 refine Ln ⟨Fx.rU.Ac ((jw q n.ty).wide (by decide)),?_⟩
 refine aY ((pt a))<|aY ((pf a 1))<|IG<|mX o 1 (aA c) fun T p r W => ?_
 have z:=u.then r (by omega)
 refine Ln ⟨Fx.rU.Ac ((jw r o.ty).wide (by decide)),?_⟩
 refine aY ((pt a))<|aY ((pf a 2))<|IG<|gU p 2 fun U B s X => ?_
 have A:=z.then s (by omega)
 refine Ln ⟨Fx.rU.Ac ((jw s p.ty).wide (by decide)),?_⟩
 refine Rn (⟨.tuple #[],fG Tryd.results24,?_⟩)
 exact⟨rfl,B.congr (fun j I=>by rcases j with _|_|_|_|_|_|_|_|_|_|_|_|_|_|j <;> first|rfl|omega),A⟩
theorem Sg(x:nO)(i d:Int)(K:Nat->Int)(w:World)(g:Nat)(k:Nat)(h:Nat)(hi:aK w g 1 (fun _=>au i) 3)(m:aK w k 1 (fun _=>aA d) 22)(l:aK w h 6 (rv .u64 (K)) 26) :
 Calls Tryd.prog 23 #[.agg (aC 6 (xS x)),.func (.func 24) #[] #[(pt g),(pt k),(pt h)]] w fun e w'=>e = .returned (.agg (aC 14 (dJ ⟨i,d,K,x.kind,x.node,x.dst,x.bI,x.req,x.of⟩)))/\Below w.heap.size w w':=by
 have lgi:=hi.lt
 have lgs:=m.lt
 have lgk:=l.lt
 refine Kent Tryd.func23 22 ?_
 refine ay<|rR fun c w1 y n s1 z1 => ?_
 have⟨C,E,F,r⟩:=jY s1.old hi m l (Below.refl w.heap.size w)
 have xW:=gP y
 have⟨mJ,Ug,qK⟩:=DZ y hi.lt m.lt l.lt
 have yC:=n.lt
 refine oo 14 (fun a=>if a<1 then au 0 else if a<8 then aA 0 else if a<9 then .int .u8 (0)else if a<10 then aA 0 else if a<12 then au 0 else aA 0) fun O w2 z p s2 z2 => ?_
 have⟨G,H,I,b,s⟩:=ql s2.old C E F n r
 have Bo:=iT z r.size
 have⟨aan,OG,aao,F5⟩:=IJ z C.lt E.lt F.lt n.lt
 have Dy:=p.lt
 refine aD<|ay<|av ((pt c))<|Lv (.int .u8 (x.kind)) (aP b.aM 0)<|av ((pf c 1))<|Lv (aA x.node) (aP b.aM 1)<|av ((pf c 2))<|Lv (au x.dst) (aP b.aM 2)<|av ((pf c 3))<|Lv (au x.bI) (aP b.aM 3)<|av ((pf c 4))<|Lv (aA x.req) (aP b.aM 4)<|av ((pf c 5))<|Lv (aA x.of) (aP b.aM 5)<|av (.agg (aC 14 (dn (dn (dn (dn (dn (dn (fun a=>if a<1 then au 0 else if a<8 then aA 0 else if a<9 then .int .u8 (0)else if a<10 then aA 0 else if a<12 then au 0 else aA 0) 8 1 (fun _ => .int .u8 (x.kind))) 9 1 (fun _=>aA x.node)) 10 1 (fun _=>au x.dst)) 11 1 (fun _=>au x.bI)) 12 1 (fun _=>aA x.req)) 13 1 (fun _=>aA x.of))))<|oo 14 (fun a=>if a<1 then au 0 else if a<8 then aA 0 else if a<9 then .int .u8 (0)else if a<10 then aA 0 else if a<12 then au 0 else aA 0) fun f w3 A o s3 z3 => ?_
 have⟨R,S,T,U,t⟩:=ql s3.old G H I p s
 have I6:=iT A s.size
 have⟨Lm,RS,RU,RV,RX⟩:=tC A G.lt H.lt I.lt b.lt p.lt
 have KD:=o.lt
 refine gU o 0 (h1:=(bP (bP (bP (bP (bP (bP (fun Q _=>by show((fun a=>if a<1 then au 0 else if a<8 then aA 0 else if a<9 then .int .u8 (0)else if a<10 then aA 0 else if a<12 then au 0 else aA 0:Nat->Value) Q).oneCell'=true; simp only[]; repeat (first|rfl|split)) (fun _ _=>rfl)) (fun _ _=>rfl)) (fun _ _=>rfl)) (fun _ _=>rfl)) (fun _ _=>rfl)) (fun _ _=>rfl))) fun M V q z4 => ?_
 have W:aK M f 14 (dn (dn (dn (dn (dn (dn (fun a=>if a<1 then au 0 else if a<8 then aA 0 else if a<9 then .int .u8 (0)else if a<10 then aA 0 else if a<12 then au 0 else aA 0) 8 1 (fun _ => .int .u8 (x.kind))) 9 1 (fun _=>aA x.node)) 10 1 (fun _=>au x.dst)) 11 1 (fun _=>au x.bI)) 12 1 (fun _=>aA x.req)) 13 1 (fun _=>aA x.of)) 28:=aS V
 have X:aK M f 14 (dJ ⟨0,0,fun _=>0,x.kind,x.node,x.dst,x.bI,x.req,x.of⟩) 28:=W.congr (fun j hj=>by rcases j with _|_|_|_|_|_|_|_|_|_|_|_|_|_|j <;> first|rfl|omega)
 have P:=jw q o.ty
 have⟨Y,Z,aa⟩:=Gy P R S T
 have ab:=U.dX q (by omega)
 have u:=q.below t t.size (by omega)
 refine aD<|ay<|av (.func (.func 24) #[] #[(pt g),(pt k),(pt h)])<|uY (by rfl) (Fx.wz (args := [(pt f)]) rfl rfl rfl (all := #[(pt f),(pt g),(pt k),(pt h)]) rfl Tryd.func24 rfl rfl) rfl<|(U0 ⟨0,0,fun _=>0,x.kind,x.node,x.dst,x.bI,x.req,x.of⟩ i d K f _ X g k h Y Z aa).mono ?_
 rintro e9 w5 ⟨B,D,J⟩
 refine⟨_,B,?_⟩
 clear B
 have ac:=ab.dX J (by omega)
 have v:=J.below u u.size (by omega)
 refine aD<|ay<|Lv (.agg (aC 14 (dJ ⟨i,d,K,x.kind,x.node,x.dst,x.bI,x.req,x.of⟩))) (kg D.aM 0)<|gU ac 0 (h1:=(pW _)) fun w6 ad L z5 => ?_
 have ae:aK w6 O 14 (dJ ⟨i,d,K,x.kind,x.node,x.dst,x.bI,x.req,x.of⟩) 28:=aS ad
 have uH:=D.dX L (by omega)
 have N:=L.below v v.size (by omega)
 refine aD (Wr (⟨.agg (aC 14 (dJ ⟨i,d,K,x.kind,x.node,x.dst,x.bI,x.req,x.of⟩)),rV Tryd.results23 ⟨_,rfl,bB ae.aM (by kernel_rfl) (by kernel_rfl)⟩,?_⟩))
 exact⟨rfl,N⟩
namespace Rt
theorem A9{z y:Nat->Value}{a b:Int}(d : ∀ j,j<14->z j=y j)(c:a=b):Ending.returned (.tuple #[.agg (aC 14 z),au a])=Ending.returned (.tuple #[.agg (aC 14 y),au b]):=by rw[Fx.fZ d,c]
noncomputable def nU(L:eB)(i:Int)(x:nO):Int:=if iW i=false then 10 else dL L (mE L.known i x)
open Classical in
noncomputable def lU(L:eB)(i:Int)(x:nO):EvM:=if nU L i x=0 then mE L.known i x else zeroE
theorem Dl{L:eB}{i:Int}{x:nO}(h:iW i=false):nU L i x=10/\lU L i x=zeroE:=by
 have:nU L i x=10:=by unfold nU; rw[if_pos h]
 refine⟨this,?_⟩
 unfold lU
 rw[if_neg (by rw[this]; decide)]
theorem kD{L:eB}{i:Int}{x:nO}(h:iW i=true):nU L i x=dL L (mE L.known i x):=by unfold nU; rw[if_neg (by rw[h]; decide)]
theorem LJ{K:Nat->Int}{i:Int}{x:nO}(b:Eh K)(hx:uX x)(hi:iW i=true):jc (mE K i x):=by
 obtain⟨a,c,f⟩:=dO hi
 have g:=b a c
 have e:(i-1).toNat=a:=by omega
 refine⟨⟨?_,?_⟩,⟨?_,?_⟩,fun j d => ?_,hx.kind,hx.node,hx.dst,hx.bI,hx.req,hx.of⟩
 ·show -9223372036854775808<=i; omega
 ·show i<=9223372036854775807; omega
 ·show 0<=K (i-1).toNat+1; rw[e]; omega
 ·show K (i-1).toNat+1<=18446744073709551615; rw[e]; omega
 have:=b j d; exact⟨by show 0<=K j; omega,by show K j<=_; omega⟩
end Rt
theorem NJ(lp B N:Nat)(m:dz)(L:eB)(w:World)(h:rH w B lp m L N)(hB:1<=B)(S:gF w 0 0 8 vI)(i:Int)(x:nO)(hr:iW i=false) :
 Calls Tryd.prog 6 #[(pt lp),au i,.agg (aC 6 (xS x))] w fun e w'=>e = .returned (.tuple #[.agg (aC 14 (dJ (lU L i x))),au (nU L i x)])/\Below w.heap.size w w':=by
 have l0:=S.lt (by omega)
 have lq:=h.q.lt
 refine Kent Tryd.func6 39 ?_
 refine ay<|nZ (au i) fun g1 w1 O b s1 z1 => ?_
 have⟨m2,g⟩:=fV s1.old h (Below.refl w.heap.size w)
 have xW:=gP O
 have yC:=b.lt
 refine rR fun g2 w2 s d s2 z2 => ?_
 have⟨m4,F,k⟩:=kI s2.old m2 b g
 have Bo:=iT s g.size
 have Kz:=bR s b.lt
 have Dy:=d.lt
 refine oo 14 (fun a=>if a<1 then au 0 else if a<8 then aA 0 else if a<9 then .int .u8 (0)else if a<10 then aA 0 else if a<12 then au 0 else aA 0) fun P w3 t G s3 z3 => ?_
 have⟨m7,m8,m9,K⟩:=jY s3.old m4 F d k
 have I6:=iT t k.size
 have⟨KA,KC⟩:=yx t F.lt d.lt
 have KD:=G.lt
 refine av (au 0)<|aD<|Ws<|ay<|av ((pt lp))<|Lv aF (Fx.jI rfl rfl rfl (by kernel_rfl))<|aD<|aN<|Wk<|sN<|ay<|av ((pt lp))<|eG (Gn m7) _ rfl ?_
 intro w4 T
 have⟨y,z,A,l⟩:=jY T m8 m9 G K
 refine oo 6 (rv .u64 (fun _=>0)) fun Q w5 u c s5 z4 => ?_
 have⟨Y,Z,aa,n⟩:=jY s5.old y z A l
 have MX:=iT u l.size
 have⟨Lr,Si,Sj⟩:=DZ u y.lt z.lt A.lt
 have L8:=c.lt
 refine gU c 0 fun w6 ab H z5 => ?_
 have C:aK w6 Q 6 (rv .u64 ((L).known)) 26:=aS ab
 have V:=jw H c.ty
 have⟨D,m23,m24⟩:=Gy V Y Z aa
 have M:=H.below n n.size (by omega)
 refine aD<|ay<|Lv (.agg (aC 6 (rv .u64 ((L).known)))) (kg C.aM 0)<|Lv (au i) (aP D.aM 0)<|eG (NH L.known i hr _) _ rfl ?_
 intro w7 U
 have⟨rY,tL,E,wR,o⟩:=ql U D m23 m24 C M
 refine av (.tuple #[aA 0,au 10])<|av (aA 0)<|av (au 10)<|oo 1 (rv .u64 (fun _=>0)) fun R w8 v f s8 z6 => ?_
 have⟨ou,p⟩:=fV s8.old E o
 have UK:=iT v o.size
 have⟨Sk,Sl,Sm,Sn⟩:=IJ v rY.lt tL.lt E.lt wR.lt
 have Yp:=f.lt
 refine mX f 0 (aA 0) fun w9 uH I z7 => ?_
 have Ag:aK w9 R 1 (fun _=>aA 0) 22:=cO uH
 have W:=jw I f.ty
 have tO:=vg W ou
 have r:=I.below p p.size (by omega)
 refine av (au 10)<|aD<|Ws<|ay<|av (au 10)<|Lv aI (iV rfl)<|aD<|aT<|ay<|av (.agg (aC 14 (fun a=>if a<1 then au 0 else if a<8 then aA 0 else if a<9 then .int .u8 (0)else if a<10 then aA 0 else if a<12 then au 0 else aA 0)))<|av (au 10)<|gU tO 0 (h1:=(fun X _=>by show((fun a=>if a<1 then au 0 else if a<8 then aA 0 else if a<9 then .int .u8 (0)else if a<10 then aA 0 else if a<12 then au 0 else aA 0:Nat->Value) X).oneCell'=true; simp only[]; repeat (first|rfl|split))) fun Bg sV s10 z8 => ?_
 have uI:aK Bg P 14 (fun a=>if a<1 then au 0 else if a<8 then aA 0 else if a<9 then .int .u8 (0)else if a<10 then aA 0 else if a<12 then au 0 else aA 0) 28:=aS sV
 have J:=s10.below r r.size (by omega)
 refine av (au 10) (aD (Wr (sR (⟨.tuple #[.agg (aC 14 (fun a=>if a<1 then au 0 else if a<8 then aA 0 else if a<9 then .int .u8 (0)else if a<10 then aA 0 else if a<12 then au 0 else aA 0)),au 10],iD Tryd.results6 ⟨_,rfl,bB uI.aM (by kernel_rfl) (by kernel_rfl)⟩ (by exact rfl),?_⟩))))
 exact⟨by rw[(Dl hr).1,(Dl hr).2]; exact A9 (fun j hj=>by rcases j with _|_|_|_|_|_|_|_|_|_|_|_|_|_|j <;> first|rfl|omega) rfl,J⟩
theorem NK(lp B N:Nat)(m:dz)(L:eB)(w:World)(h:rH w B lp m L N)(hB:1<=B)(Q:gF w 0 0 8 vI)(i:Int)(x:nO)(hx:uX x)(a:Nat)(ha:a<6)(S:i=(a:Int)+1) :
 Calls Tryd.prog 6 #[(pt lp),au i,.agg (aC 6 (xS x))] w fun e w'=>e = .returned (.tuple #[.agg (aC 14 (dJ (lU L i x))),au (nU L i x)])/\Below w.heap.size w w':=by
 have l0:=Q.lt (by omega)
 have lq:=h.q.lt
 have d:iW i=true:=by rw[S]; unfold iW; simp; omega
 have eia:(i-1).toNat=a:=by omega
 have hka:=h.i.kn a ha
 refine Kent Tryd.func6 39 ?_
 refine ay<|nZ (au i) fun l w1 rF n s1 z1 => ?_
 have⟨m2,y⟩:=fV s1.old h (Below.refl w.heap.size w)
 have xW:=gP rF
 have yC:=n.lt
 refine rR fun g2 w2 I p s2 z2 => ?_
 have⟨m4,m5,D⟩:=kI s2.old m2 n y
 have Bo:=iT I y.size
 have Kz:=bR I n.lt
 have Dy:=p.lt
 refine oo 14 (fun b=>if b<1 then au 0 else if b<8 then aA 0 else if b<9 then .int .u8 (0)else if b<10 then aA 0 else if b<12 then au 0 else aA 0) fun P w3 J m6 s3 z3 => ?_
 have⟨m7,m8,m9,b3⟩:=jY s3.old m4 m5 p D
 have I6:=iT J D.size
 have⟨KA,KC⟩:=yx J m5.lt p.lt
 have KD:=m6.lt
 refine av (au 0)<|aD<|Ws<|ay<|av ((pt lp))<|Lv aF (Fx.jI rfl rfl rfl (by kernel_rfl))<|aD<|aN<|Wk<|sN<|ay<|av ((pt lp))<|eG (Gn m7) _ rfl ?_
 intro w4 hb1
 have⟨m10,T,U,V,E⟩:=ql hb1 m7 m8 m9 m6 b3
 refine oo 6 (rv .u64 (fun _=>0)) fun g w5 K o s5 z4 => ?_
 have⟨m15,m16,m17,m18,F⟩:=ql s5.old m10 T U V E
 have MX:=iT K E.size
 have⟨Lr,Si,Sj⟩:=DZ K T.lt U.lt V.lt
 have L8:=o.lt
 refine gU o 0 fun w6 m19 s6 z5 => ?_
 have W:aK w6 g 6 (rv .u64 ((L).known)) 26:=aS m19
 have iZ:=jw s6 o.ty
 have⟨m21,X,m23,m24⟩:=SV iZ m15 m16 m17 m18
 have b6:=s6.below F F.size (by omega)
 refine aD<|ay<|Lv (.agg (aC 6 (rv .u64 ((L).known)))) (kg W.aM 0)<|Lv (au i) (aP X.aM 0)<|eG (NI L.known i a ha S h.i.kn _) _ rfl ?_
 intro w7 hb2
 have⟨rG,Y,Z,aa,ab,G⟩:=wG hb2 m21 X m23 m24 W b6
 refine av (.tuple #[aA (L.known a+1),au 0])<|av (aA (L.known a+1))<|av (au 0)<|oo 1 (rv .u64 (fun _=>0)) fun k w8 M r s8 z6 => ?_
 have⟨oq,m32,qE,ou,sU,H⟩:=wG s8.old rG Y Z aa ab G
 have UK:=iT M G.size
 have⟨Sk,Sl,Sm,Sn⟩:=IJ M Y.lt Z.lt aa.lt ab.lt
 have Yp:=r.lt
 refine mX r 0 (aA (L.known a+1)) fun w9 uH s9 z7 => ?_
 have ac:aK w9 k 1 (fun _=>aA (L.known a+1)) 22:=cO uH
 have oL:=jw s9 r.ty
 have⟨wS,ad,ae,tO,af⟩:=II oL oq m32 qE ou sU
 have b9:=s9.below H H.size (by omega)
 refine av (au 0)<|aD<|Ws<|ay<|av (au 0)<|Lv aF (gT rfl rfl rfl (by decide))<|aD<|aN<|Wk<|sN<|ay<|Lv (.agg (aC 6 (xS x))) (kg ae.aM 0)<|Lv (.func (.func 24) #[] #[(pt l),(pt k),(pt g)]) (Fx.iK (us := []) (vs := [(pt l),(pt k),(pt g)]) rfl rfl rfl)<|jT (Sg x i (L.known a+1) L.known _ l k g ad ac af) ?_
 rintro e9 Bg ⟨R,hb3⟩
 refine⟨.agg (aC 14 (dJ (mE L.known i x))),by rw[R]; unfold mE; rw[eia],?_⟩
 clear R
 have⟨sV,uI,wT,ag,wU,Ec,z⟩:=DY hb3 wS ad ae tO af ac b9
 refine oo 14 (fun b=>if b<1 then au 0 else if b<8 then aA 0 else if b<9 then .int .u8 (0)else if b<10 then aA 0 else if b<12 then au 0 else aA 0) fun g6 Sr O s s11 z8 => ?_
 have⟨xZ,wV,A⟩:=kI s11.old sV ag z
 have lg6:=iT O z.size
 have⟨YQ,YR,YS,YT,YU⟩:=tC O uI.lt wT.lt ag.lt wU.lt Ec.lt
 have tg6:=s.lt
 refine gU s 0 (h1:=(pW _)) fun Sv vw u z9 => ?_
 have rZ:aK Sv g6 14 (dJ (mE L.known i x)) 28:=aS vw
 have Jh:=jw u s.ty
 have vP:=vg Jh xZ
 have yE:=wV.dX u (by omega)
 have C:=u.below A A.size (by omega)
 refine aD<|Ws<|ay<|av ((pt lp))<|Lv (.agg (aC 14 (dJ (mE L.known i x)))) (kg rZ.aM 0)<|eG (ND (v:=(mE L.known i x)) vP (LJ h.i.kn hx d) hB (Q.below C l0) (fun _ _=>rfl)) _ rfl ?_
 intro Vh hb4
 have⟨yF,t,f⟩:=kI hb4 yE rZ C
 refine av (au (dL L (mE L.known i x)))<|aD<|ay<|av (au (dL L (mE L.known i x))) ?_
 by_cases c:(dL L (mE L.known i x))=0
 ·refine Lv aF (qP c)<|aD<|aN<|Wk<|sN<|ay<|Lv (.agg (aC 14 (dJ (mE L.known i x)))) (kg t.aM 0)<|gU yF 0 (h1:=(pW _)) fun Wv wW Vg z10 => ?_
  have Ai:aK Wv P 14 (dJ (mE L.known i x)) 28:=aS wW
  have FE:=t.dX Vg (by omega)
  have b14:=Vg.below f f.size (by omega)
  refine av (au 0) (aD (Wr (⟨.tuple #[.agg (aC 14 (dJ (mE L.known i x))),au 0],iD Tryd.results6 ⟨_,rfl,bB Ai.aM (by kernel_rfl) (by kernel_rfl)⟩ (by exact rfl),?_⟩)))
  exact⟨by rw[kD d,show lU L i x=mE L.known i x by unfold lU; rw[if_pos (by rw[kD d]; exact c),]]; exact A9 (fun _ _=>rfl) c.symm,b14⟩
 refine Lv aI (tu c)<|aD<|aT<|ay<|av (.agg (aC 14 (fun b=>if b<1 then au 0 else if b<8 then aA 0 else if b<9 then .int .u8 (0)else if b<10 then aA 0 else if b<12 then au 0 else aA 0)))<|av (au (dL L (mE L.known i x)))<|gU yF 0 (h1:=(fun jq _=>by show((fun b=>if b<1 then au 0 else if b<8 then aA 0 else if b<9 then .int .u8 (0)else if b<10 then aA 0 else if b<12 then au 0 else aA 0:Nat->Value) jq).oneCell'=true; simp only[]; repeat (first|rfl|split))) fun Wy Dw s15 z11 => ?_
 have Aj:aK Wy P 14 (fun b=>if b<1 then au 0 else if b<8 then aA 0 else if b<9 then .int .u8 (0)else if b<10 then aA 0 else if b<12 then au 0 else aA 0) 28:=aS Dw
 have Ib:=t.dX s15 (by omega)
 have b15:=s15.below f f.size (by omega)
 refine av (au (dL L (mE L.known i x))) (aD (Wr (sR (⟨.tuple #[.agg (aC 14 (fun b=>if b<1 then au 0 else if b<8 then aA 0 else if b<9 then .int .u8 (0)else if b<10 then aA 0 else if b<12 then au 0 else aA 0)),au (dL L (mE L.known i x))],iD Tryd.results6 ⟨_,rfl,bB Aj.aM (by kernel_rfl) (by kernel_rfl)⟩ (by exact rfl),?_⟩))))
 exact⟨by rw[kD d,show lU L i x=zeroE by unfold lU; rw[if_neg (by rw[kD d]; exact c)]]; exact A9 (fun j hj=>by rcases j with _|_|_|_|_|_|_|_|_|_|_|_|_|_|j <;> first|rfl|omega) rfl,b15⟩
theorem LK{lp B N:Nat}{m:dz}{L:eB}{w:World}(h:rH w B lp m L N)(b:1<=B)(c:gF w 0 0 8 vI)(i:Int){x:nO}(hx:uX x){y:Nat->Value}(hy : ∀ j,j<6->y j=xS x j) :
 Calls Tryd.prog 6 #[(pt lp),au i,.agg (aC 6 y)] w fun e w'=>e = .returned (.tuple #[.agg (aC 14 (dJ (lU L i x))),au (nU L i x)])/\Below w.heap.size w w':=by
 rw[Fx.fZ hy]
 cases hr:iW i with
 | false=>exact NJ lp B N m L w h b c i x hr
 | true =>
   obtain⟨a,f,d⟩:=dO hr
   exact NK lp B N m L w h b c i x hx a f d
theorem NM(i:Int)(x:nO)(w:World) :
 Calls Tryd.prog 6 #[.pointer none,au i,.agg (aC 6 (xS x))] w fun e w'=>e = .returned (.tuple #[.agg (aC 14 (dJ zeroE)),au 2])/\Below w.heap.size w w':=by
 refine Kent Tryd.func6 39 ?_
 refine ay<|nZ (au i) fun C Q p b y T => ?_
 have f:=aQ y.old (Below.refl w.heap.size w)
 have F:=gP p
 have N:=b.lt
 refine rR fun D R k c z U => ?_
 have⟨m,g⟩:=fV z.old b f
 have G:=iT k f.size
 have K:=bR k b.lt
 have O:=c.lt
 refine oo 14 (fun a=>if a<1 then au 0 else if a<8 then aA 0 else if a<9 then .int .u8 (0)else if a<10 then aA 0 else if a<12 then au 0 else aA 0) fun q S l n A V => ?_
 have⟨s,t,h⟩:=kI A.old m c g
 have H:=iT l g.size
 have⟨L,M⟩:=yx l m.lt c.lt
 have P:=n.lt
 refine av (au 0)<|aD<|Ws<|ay<|av (.pointer none)<|Lv aI (Fx.BG rfl rfl rfl (by kernel_rfl))<|aD<|aT<|ay<|av (.agg (aC 14 (fun a=>if a<1 then au 0 else if a<8 then aA 0 else if a<9 then .int .u8 (0)else if a<10 then aA 0 else if a<12 then au 0 else aA 0)))<|gU n 0 (h1:=(fun r _=>by show((fun a=>if a<1 then au 0 else if a<8 then aA 0 else if a<9 then .int .u8 (0)else if a<10 then aA 0 else if a<12 then au 0 else aA 0:Nat->Value) r).oneCell'=true; simp only[]; repeat (first|rfl|split))) fun B u d W => ?_
 have v:aK B q 14 (fun a=>if a<1 then au 0 else if a<8 then aA 0 else if a<9 then .int .u8 (0)else if a<10 then aA 0 else if a<12 then au 0 else aA 0) 28:=aS u
 have J:=s.dX d (by omega)
 have I:=t.dX d (by omega)
 have o:=d.below h h.size (by omega)
 refine av (au 2) (aD (Wr (sR (⟨.tuple #[.agg (aC 14 (fun a=>if a<1 then au 0 else if a<8 then aA 0 else if a<9 then .int .u8 (0)else if a<10 then aA 0 else if a<12 then au 0 else aA 0)),au 2],iD Tryd.results6 ⟨_,rfl,bB v.aM (by kernel_rfl) (by kernel_rfl)⟩ (by exact rfl),?_⟩))))
 exact⟨A9 (fun j E=>by rcases j with _|_|_|_|_|_|_|_|_|_|_|_|_|_|j <;> first|rfl|omega) rfl,o⟩
namespace Rt
def zM(L:eB)(i x q:Int):Int:=eU (fun j=>decide (dW L (aO L.t L.tn j x) i<q)) (dK L.t L.tn x)
def zN(L:eB)(i x q:Int):Int:=if zM L i x q<0 then 0 else aO L.t L.tn (zM L i x q).toNat x
def zO(L:eB)(i x q:Int):Int:=if zM L i x q<0 then 0 else q-dW L (aO L.t L.tn (zM L i x q).toNat x) i
theorem LM(L:eB)(x i:Int):0<=dW L x i:=by
 unfold dW dI
 split
 ·exact Int.le_refl 0
 split
 ·rename_i c
  rw[Bool.and_eq_true]at c
  obtain⟨a,b,e,d⟩:=qb c.1
  rw[d,mQ (pY c.2) a b]
  exact(((jL _).1 c.2).2.1 a b).1
 exact Int.le_refl 0
theorem Gp{L:eB}{i x q:Int}{k:Nat}(h : ∀ j,j<k -> ¬ dW L (aO L.t L.tn j x) i<q)(b:k=dK L.t L.tn x):zN L i x q=0/\zO L i x q=0:=by
 have:zM L i x q = -1:=oN fun j a=>decide_eq_false (h j (by omega))
 unfold zN zO
 rw[this]
 exact⟨rfl,rfl⟩
theorem xU{L:eB}{i x q:Int}{k:Nat}(h : ∀ j,j<k -> ¬ dW L (aO L.t L.tn j x) i<q)(b:k<dK L.t L.tn x)(c:dW L (aO L.t L.tn k x) i<q):zN L i x q=aO L.t L.tn k x/\zO L i x q=q-dW L (aO L.t L.tn k x) i:=by
 have:zM L i x q=(k:Int):=xg (fun j a=>decide_eq_false (h j a)) (decide_eq_true c) b
 unfold zN zO
 rw[this,if_neg (by omega),if_neg (by omega)]
 exact⟨rfl,rfl⟩
theorem H8{L:eB}{i x q:Int}{k:Nat}(h : ∀ j,j<k -> ¬ dW L (aO L.t L.tn j x) i<q)(a : ¬ dW L (aO L.t L.tn k x) i<q) : ∀ j,j<k+1 -> ¬ dW L (aO L.t L.tn j x) i<q:=fun j b=>by
 by_cases e:j=k
 ·rw[e]; exact a
 ·exact h j (by omega)
end Rt
theorem Sq(lp B N:Nat)(m:dz)(L:eB)(w:World)(h:rH w B lp m L N)(i a x:Int)(hi : -9223372036854775808<=i/\i<=9223372036854775807)(Z : -9223372036854775808<=x/\x<=9223372036854775807) :
 Calls Tryd.prog 7 #[(pt lp),au i,aA a,au x] w fun e w'=>e = .returned (.tuple #[aA (zN L i a x),au (zO L i a x)])/\Below w.heap.size w w':=by
 have lq:=h.q.lt
 refine Kent Tryd.func7 33 ?_
 refine ay<|av (aA 0)<|av (au 0)<|aD<|Ws<|ay<|av ((pt lp))<|av (aA a)<|jT (Sd h a) ?_
 rintro V w1 ⟨r,c,F,G,M⟩
 refine⟨_,F,?_⟩
 clear F
 have⟨P,K⟩:=fV M h (Below.refl w.heap.size w)
 obtain⟨b,z⟩ : ∃ q,q=(dK L.t L.tn a):=⟨_,rfl⟩
 rw[<- z]at G ⊢
 have aa:b<=4:=by rw[z]; exact h.i.Ub _
 refine av (au b)<|av (au 0)<|aD<|Wb<|Wo (fun f s => ∃ k:Nat,k<=b/\((∀ j,j<k -> ¬ dW L (aO L.t L.tn j a) i<x))/\f 0=(pt lp)/\f 1=au i/\f 3=au x/\f 15 = .slice r (b) (c)/\f 16=au ((b:Int))/\f 17=au ((k:Int))/\rH s B lp m L N/\Fx.Own s w.heap.size 22 1 (.slice r (b) (c)) b (VG L a)/\Below w.heap.size w s) (fun f _=>((b:Int)-intOf (f 17)).toNat) ⟨0,(by omega),(fun _ h=>absurd h (Nat.not_lt_zero _)),(by rfl),Fx.ic,Fx.ic,(by rfl),Fx.ic,Fx.ic,P,G,K⟩ ?_
 rintro W T ⟨k,X,l,C,D,o,E,p,g,H,I,u⟩
 refine ay ?_
 by_cases y:(k:Int)<(b:Int)
 ·refine Lv aI (nV y (hx:=g) (hy:=p))<|aD<|Ws<|aT<|Wk<|sN<|Ws<|Wb<|ay ?_
  obtain⟨A,n⟩:=I.addr (by omega)
  have J:Fx.Own T w.heap.size 22 1 (bH A b c) b (VG L a):=I.oD (congrArg (fun q=>Value.slice q b c) n)
  refine Lv ((pf A k)) (cK 1 (hx:=(E.trans (congrArg (fun q=>Value.slice q (b) (c)) n))) (hi:=g))<|Lv (aA (aO L.t L.tn k a)) (aP J.aM k)<|av (aA (aO L.t L.tn k a))<|aD<|ay<|aX C<|aX D<|av (aA (aO L.t L.tn k a))<|eG (NG H i (aO L.t L.tn k a) (by omega)) _ rfl ?_
  intro U O
  have⟨Q,R,v⟩:=kI O H J u
  refine av (au (dW L (aO L.t L.tn k a) i))<|aD<|ay<|av (au (dW L (aO L.t L.tn k a) i))<|aX o ?_
  by_cases d:(dW L (aO L.t L.tn k a) i)<x
  ·have Y:=LM L (aO L.t L.tn k a) i
   refine Lv aI (nV d)<|aD<|aT<|ay<|av (aA (aO L.t L.tn k a))<|aX o<|av (au (dW L (aO L.t L.tn k a) i))<|Lv (au (x-(dW L (aO L.t L.tn k a) i))) iC<|av (aA (aO L.t L.tn k a))<|av (au (x-(dW L (aO L.t L.tn k a) i)))<|aD<|Wr<|bU<|sR<|rA<|bU<|sR<|aL (.tuple #[aA (aO L.t L.tn k a),au (x-(dW L (aO L.t L.tn k a) i))]) ?_
   exact⟨by rw[(xU l (by omega) d).1,(xU l (by omega) d).2],v⟩
  refine Lv aF (nW d)<|aD<|aN<|Wk<|dA<|sN<|Wl<|Lv (au ((k:Int)+1)) (gD (hx:=g))<|av (au ((k:Int)+1))<|Ln ?_
  have S:Fx.Own U w.heap.size 22 1 (.slice r (b) (c)) b (VG L a):=R.oD (congrArg (fun q=>Value.slice q b c) n.symm)
  refine iP ⟨k+1,(by omega),(H8 l d),C,(D.trans Fx.ic),(o.trans Fx.ic),E,(p.trans Fx.ic),Fx.ic,Q,S,v⟩ ?_
  show((b:Int)-intOf ((au ((k:Int)+1)))).toNat<_
  simp only[g,intOf]; omega
 refine Lv aF (nW y (hx:=g) (hy:=p))<|aD<|Ws<|aN<|Wx<|cZ<|gX<|dh<|sN<|ay<|av (aA 0)<|av (au 0)<|aD<|Wr<|aL (.tuple #[aA 0,au 0]) ?_
 exact⟨by rw[(Gp l (by omega)).1,(Gp l (by omega)).2],u⟩
theorem NP(i a x:Int)(w:World) :
 Calls Tryd.prog 7 #[.pointer none,au i,aA a,au x] w fun e w'=>e = .returned (.tuple #[aA 0,au 0])/\Below w.heap.size w w':=by
 refine Kent Tryd.func7 33 ?_
 refine ay<|av (aA 0)<|av (au 0)<|aD<|Ws<|ay<|av (.pointer none)<|av (aA a)<|eG (Nw _ a) _ rfl ?_
 intro m h
 have b:=aQ h (Below.refl w.heap.size w)
 refine av (au 0)<|av (au 0)<|aD<|Wb<|Wo (fun f j=>f 15 = .slice none 0 0/\f 16=au 0/\f 17=au 0/\Below w.heap.size w j) (fun f _=>0) ⟨(by rfl),Fx.ic,Fx.ic,b⟩ ?_
 rintro k n ⟨l,d,g,c⟩
 refine ay<|Lv aF (Fx.Il rfl g d (by decide))<|aD<|Ws<|aN<|Wx<|cZ<|gX<|dh<|sN<|ay<|av (aA 0)<|av (au 0)<|aD<|Wr<|aL (.tuple #[aA 0,au 0]) ?_
 exact⟨rfl,c⟩
theorem Rt.Dm:jc zeroE:=by
 have z:iG 0:=⟨by decide,by decide⟩
 have y:sj 0:=⟨by decide,by decide⟩
 exact⟨y,z,fun _ _=>z,⟨by decide,by decide⟩,z,y,y,z,z⟩
def U1(p:Nat)(M:WM)(k:Nat):Prop:=k=p\/(Value.slice M.la M.n M.lc).ownBlock=some k\/(Value.slice M.aa M.an M.ac).ownBlock=some k
def U2(w:World)(p:Nat)(M a:WM):Prop := ∀ k,U1 p a k->U1 p M k\/w.heap.size<=k
theorem nN.ge{w:World}{B p T:Nat}{M:WM}(h:nN w B p M T) : ∀ k,U1 p M k->B<=k/\k<w.heap.size:=fun k b=>by
 rcases b with rfl|e|e
 ·exact⟨h.pB,h.c.lt⟩
 ·exact h.l.ge e
 ·exact h.a.ge e
theorem nN.LD{w w':World}{B p T:Nat}{M:WM}(h:nN w B p M T)(a:B<=w.heap.size)(c:iR (U1 p M) w w'):Below B w w':=Fx.iR.below (Below.refl B w) c (fun k b=>(h.ge k b).1) a
theorem nN.uG{w w':World}{B p T:Nat}{M:WM}(h:nN w B p M T)(d:iR (U1 p M) w w'):jm [61,57,28] w w':=Fx.jm.PN d fun k b=>by
 rcases b with rfl|e|e
 ·exact⟨_,h.c.ty,by decide⟩
 ·exact⟨_,h.l.ty e,by decide⟩
 ·exact⟨_,h.a.ty e,by decide⟩
theorem U2.app{w b:World}{p g:Nat}{M a:WM}(i:(Value.slice M.aa M.an M.ac).ownBlock=some g\/g=b.heap.size)(l:w.heap.size<=b.heap.size)(h1:a.la=M.la:=by rfl)(c:a.n=M.n:=by rfl)(d:a.lc=M.lc:=by rfl)(f:(Value.slice a.aa a.an a.ac).ownBlock=some g:=by rfl):U2 w p M a:=fun k j=>by
 rcases j with h|h|h
 ·exact .inl (.inl h)
 ·rw[h1,c,d]at h; exact .inl (.inr (.inl h))
 ·have e:g=k:=Option.some.inj (f.symm.trans h)
  rcases i with h5|h5
  ·exact .inl (.inr (.inr (e ▸ h5)))
  ·exact .inr (by omega)
theorem nN.mono{w:World}{B p T a:Nat}{M:WM}(h:nN w B p M T)(b:T<=a):nN w B p M a := { h with inv:=fun i c=>(h.inv i c).mono b }
set_option maxRecDepth 20000
set_option linter.unusedVariables false
namespace Rt
def LP:nO:=⟨1,0,0,10,0,0⟩
def E5:nO:=⟨3,Br,0,4,1,0⟩
theorem Gq:uX LP:=⟨⟨by decide,by decide⟩,⟨by decide,by decide⟩,⟨by decide,by decide⟩,⟨by decide,by decide⟩,⟨by decide,by decide⟩,⟨by decide,by decide⟩⟩
theorem NQ:uX E5:=⟨⟨by decide,by decide⟩,⟨by decide,by decide⟩,⟨by decide,by decide⟩,⟨by decide,by decide⟩,⟨by decide,by decide⟩,⟨by decide,by decide⟩⟩
def wA:EvM:=mE (tX 2 0).core.known 1 LP
theorem U3:jc wA:=LJ (fun i _=>⟨Int.le_refl 0,(by decide:(0:Int)<1099511627776)⟩) Gq (by decide)
noncomputable def wL:eB:=gK (tX 2 0).core wA
noncomputable def YV:dz:=iO YO wA
theorem SG:LH YV wL 1:=YP.apply wA
theorem U4:nU (tX 2 0).core 1 LP=0:=by rw[kD (by decide)]; exact YP.err wA (by kernel_rfl)
theorem YW:lU (tX 2 0).core 1 LP=wA:=by unfold lU; rw[if_pos U4]; rfl
theorem ap1:dL (tX 2 0).core wA=0:=YP.err wA (by kernel_rfl)
theorem U5:nU wL 2 E5=11:=by
 rw[kD (by decide),<- SG.s.known]
 exact SG.err (mE YV.known 2 E5) (by kernel_rfl)
theorem YX:lU wL 2 E5=zeroE:=by unfold lU; rw[if_neg (by rw[U5]; decide)]
theorem U6:0<dK wL.t wL.tn Br:=by
 rw[<- (SG.s.T.path SG.t SG.i Br).1,show YV.T.path Br = [Br] by kernel_rfl]
 decide
theorem U7:dW wL (aO wL.t wL.tn 0 Br) 2=0:=SG.loc _ _ (by kernel_rfl)
theorem lkA:zN wL 2 Br 4=Br/\zO wL 2 Br 4=4:=by
 obtain⟨a,b⟩:=xU (k:=0) (fun _ h=>absurd h (Nat.not_lt_zero _)) U6 (show dW wL (aO wL.t wL.tn 0 Br) 2<4 by rw[U7]; decide)
 exact⟨a,by rw[b,U7]; rfl⟩
end Rt
theorem Dn(w:World)(b:gF w 0 0 8 vI) :
 Calls Tryd.prog 8 #[] w fun e w'=>e = .returned (.bool true)/\Below w.heap.size w w':=by
 have f:=b.lt (by omega)
 have d:1<=w.heap.size:=by omega
 refine Kent Tryd.func8 63 ?_
 refine ay<|av aF<|aD<|ay<|jT (UY 2 (by omega) _) ?_
 rintro e9 w1 ⟨lp,m0,y,S,J⟩
 refine⟨_,y,?_⟩
 clear y
 have z:=S.weak (Below.refl w.heap.size w).size
 have l:=aQ J (Below.refl w.heap.size w)
 refine av (.tuple #[(pt lp),au 0])<|av ((pt lp))<|av (au 0)<|av ((pt lp))<|av (au 0)<|aD<|Ws<|ay<|av (au 0)<|Lv aF (qP rfl)<|av aF<|av ((pt lp))<|Lv aF (Fx.jI rfl rfl rfl (by kernel_rfl))<|av aF<|aD<|aN<|Wk<|sN<|ay<|av ((pt lp))<|av (.agg (aC 6 (dn (dn (fun a=>if a<1 then .int .u8 (0)else if a<2 then aA 0 else if a<4 then au 0 else aA 0) 0 1 (fun _ => .int .u8 (1))) 3 1 (fun _=>au 10))))<|eG (LK z d (b.below l f) 1 (x:=LP) Gq (fun j R=>by rcases j with _|_|_|_|_|_|j <;> first|rfl|omega)) (.tuple #[.agg (aC 14 (dJ wA)),au 0]) (by rw[YW,U4]) ?_
 intro w2 K
 have⟨T,m⟩:=fV K z l
 refine av (.tuple #[.agg (aC 14 (dJ wA)),au 0])<|av (.agg (aC 14 (dJ wA)))<|av (au 0)<|oo 14 (fun a=>if a<1 then au 0 else if a<8 then aA 0 else if a<9 then .int .u8 (0)else if a<10 then aA 0 else if a<12 then au 0 else aA 0) fun t w3 H h s3 z1 => ?_
 have⟨m3,n⟩:=fV s3.old T m
 have xW:=iT H m.size
 have yC:=h.lt
 refine gU h 0 (h1:=(pW _)) fun w4 m4 E z2 => ?_
 have B:aK w4 t 14 (dJ wA) 28:=aS m4
 have O:=jw E h.ty
 have i:=vg O m3
 have c:=E.below n n.size (by omega)
 refine av (au 0)<|aD<|ay<|av ((pt lp))<|Lv (.agg (aC 14 (dJ wA))) (kg B.aM 0)<|eG (NC (v:=wA) i U3 d (b.below c f) (fun _ _=>rfl)) (au 0) (by rw[ap1]) ?_
 rintro w5 ⟨A,u⟩
 have Q:=i.q.typed u
 have N:=i.q.LD u c.size
 have o:=YN c N (Nat.le_refl _)
 have C:=B.Mt Q (by decide)
 have lm7:=C.lt
 refine av (au 0)<|aD<|ay<|av ((pt lp))<|av (.agg (aC 6 (dn (dn (dn (dn (fun a=>if a<1 then .int .u8 (0)else if a<2 then aA 0 else if a<4 then au 0 else aA 0) 0 1 (fun _ => .int .u8 (3))) 1 1 (fun _=>aA 1099511627777)) 3 1 (fun _=>au 4)) 4 1 (fun _=>aA 1))))<|eG (LK A d (b.below o f) 2 (x:=E5) NQ (fun j R=>by rcases j with _|_|_|_|_|_|j <;> first|rfl|omega)) (.tuple #[.agg (aC 14 (dJ zeroE)),au 11]) (by rw[(show lU (gK (tX 2 0).core wA) 2 E5=zeroE from YX),(show nU (gK (tX 2 0).core wA) 2 E5=11 from U5)]) ?_
 intro w6 L
 have⟨D,m9,p⟩:=kI L C A o
 refine av (.tuple #[.agg (aC 14 (dJ zeroE)),au 11])<|av (.agg (aC 14 (dJ zeroE)))<|av (au 11)<|oo 14 (fun a=>if a<1 then au 0 else if a<8 then aA 0 else if a<9 then .int .u8 (0)else if a<10 then aA 0 else if a<12 then au 0 else aA 0) fun I w7 s g s6 z3 => ?_
 have⟨U,V,r⟩:=kI s6.old D m9 p
 have Bo:=iT s p.size
 have xI:=bR s D.lt
 have Dy:=g.lt
 refine gU g 0 (h1:=(pW _)) fun w8 W k z4 => ?_
 have m14:aK w8 I 14 (dJ zeroE) 28:=aS W
 have X:=U.dX k (by omega)
 have P:=jw k g.ty
 have Y:=vg P V
 have F:=k.below r r.size (by omega)
 refine av (au 11)<|aD<|ay<|av ((pt lp))<|eG (Sq lp w.heap.size 1 _ wL _ Y 2 Br 4 (by omega) (by omega)) (ax := #[(pt lp),au 2,aA 1099511627777,au 4]) (.tuple #[aA Br,au 4]) (by rw[lkA.1,lkA.2]) ?_
 intro w9 M
 have⟨Z,G⟩:=fV M X F
 refine av (.tuple #[aA Br,au 4])<|av (aA Br)<|av (au 4)<|av (aA Br)<|av (au 4)<|aD<|ay<|av (au 0)<|Lv aI (iV rfl)<|av aI<|av ((pf t 1))<|Lv (aA ((wA:EvM).seq)) (aP Z.aM 1)<|Lv aI (iV rfl)<|av aI<|av aI<|av (au 0)<|Lv aI (iV rfl)<|av aI<|av aI<|av (au 11)<|Lv aI (iV rfl)<|av aI<|av aI<|av (aA Br)<|Lv aI (iV rfl)<|av aI<|av aI ?_
 refine av (au 4)<|Lv aI (iV rfl)<|av aI<|av aI<|aD<|Wr<|aL aI ?_
 exact⟨rfl,G⟩
theorem LQ(i:Int)(x:nO)(w:World)(hi : -9223372036854775808<=i/\i<=9223372036854775807)(l:gF w 0 0 8 vI) :
 Calls Tryd.prog 3 #[au i,.agg (aC 6 (xS x))] w fun e w'=>e = .returned (.bool true)/\Below w.heap.size w w':=by
 have C:=l.lt (by omega)
 refine Kent Tryd.func3 42 ?_
 refine ay<|rR fun k P t b H U => ?_
 have q:=aQ H.old (Below.refl w.heap.size w)
 have K:=gP t
 have N:=b.lt
 refine av aF<|aD<|ay<|av (au i)<|Lv (.agg (aC 6 (xS x))) (kg b.aM 0)<|eG (NM i x _) _ rfl ?_
 intro Q v
 have⟨m,d⟩:=fV v b q
 refine av (.tuple #[.agg (aC 14 (dJ zeroE)),au 2])<|av (.agg (aC 14 (dJ zeroE)))<|av (au 2)<|oo 14 (fun a=>if a<1 then au 0 else if a<8 then aA 0 else if a<9 then .int .u8 (0)else if a<10 then aA 0 else if a<12 then au 0 else aA 0) fun u R h c I V => ?_
 have⟨D,f⟩:=fV I.old m d
 have L:=iT h d.size
 have M:=bR h m.lt
 have O:=c.lt
 refine gU c 0 (h1:=(pW _)) fun J E p W => ?_
 have F:aK J u 14 (dJ zeroE) 28:=aS E
 have A:=jw p c.ty
 have o:=vg A D
 have r:=p.below f f.size (by omega)
 refine av (au 2)<|aD<|ay<|av (au i)<|av ((pf k 1))<|Lv (aA x.node) (aP o.aM 1)<|av ((pf k 3))<|Lv (au x.bI) (aP o.aM 3)<|eG (NP i x.node x.bI _) _ rfl ?_
 intro S y
 have⟨G,g⟩:=fV y F r
 refine av (.tuple #[aA 0,au 0])<|av (aA 0)<|av (au 0)<|av (aA 0)<|av (au 0)<|aD<|ay<|Lv (.agg (aC 14 (dJ zeroE))) (kg G.aM 0)<|av (.agg (aC 14 (fun a=>if a<1 then au 0 else if a<8 then aA 0 else if a<9 then .int .u8 (0)else if a<10 then aA 0 else if a<12 then au 0 else aA 0)))<|Lv aI (Fx.wB (n:=14) (ks := [(some .i64),(some .u64),(some .u64),(some .u64),(some .u64),(some .u64),(some .u64),(some .u64),(some .u8),(some .u64),(some .i64),(some .i64),(some .u64),(some .u64)]) (X:=dJ zeroE) (Y:=fun a=>if a<1 then au 0 else if a<8 then aA 0 else if a<9 then .int .u8 (0)else if a<10 then aA 0 else if a<12 then au 0 else aA 0) 12 true rfl rfl rfl (Fx.Pm (fun j B=>by rcases j with _|_|_|_|_|_|_|_|_|_|_|_|_|_|j <;> first|rfl|omega)) (za Dm) (AP (za Dm) (fun j B=>by rcases j with _|_|_|_|_|_|_|_|_|_|_|_|_|_|j <;> first|rfl|omega)) rfl (by kernel_rfl) (by kernel_rfl) (by kernel_rfl) (by kernel_rfl) (by kernel_rfl))<|av aI<|av (au 2)<|Lv aI (iV rfl)<|av aI<|av aI<|av (aA 0)<|Lv aI (iV rfl)<|av aI<|av aI<|av (au 0)<|Lv aI (iV rfl)<|av aI<|av aI<|eG (Dn _ (l.below g C)) _ rfl ?_
 intro T z
 have s:=aQ z g
 refine av aI<|av aI<|aD<|Wr<|aL aI ?_
 exact⟨rfl,s⟩
end Go.Proofs.YtahbiajdgealnaaDoor
namespace Go.Proofs.YtahbiajdgealnaaDoor
open Go.RowKit Go.WideShapes Go.ChangeShapes Go.Deep Rt
theorem YZ{n:Int}(h:(Lit.int .u64 n).wf=true):iG n:=by have:=R9 h; unfold iG; omega
theorem bdI{n:Int}(h:(Lit.int .i64 n).wf=true):sj n:=by have:=LC h; unfold sj; omega
end Go.Proofs.YtahbiajdgealnaaDoor
namespace Go.Proofs.YtahbiajdgealnaaDoor
open Go.RowKit Go.WideShapes Go.ChangeShapes Go.Deep Rt
def U8:List (Option IntKind) := [some .u8,some .u64,some .i64,some .i64,some .u64,some .u64]
def O1(x:Nat->Value):nO:=⟨numOf (x 0),numOf (x 1),numOf (x 2),numOf (x 3),numOf (x 4),numOf (x 5)⟩
theorem LU{x:Nat->Value}(h : ∀(j:Nat) (k:Option IntKind),U8[j]? = some k->NA k (x j)):(∀ j,j<6->x j=xS (O1 x) j)/\uX (O1 x):=by
 have o : ∀(j:Nat) (k:IntKind),U8[j]? = some (some k)->x j = .int k (numOf (x j))/\(Lit.int k (numOf (x j))).wf=true:=fun j k e=>(h j (some k) e).num
 refine⟨fun j a => ?_,UW (o 0 .u8 rfl).2,YZ (o 1 .u64 rfl).2,bdI (o 2 .i64 rfl).2,bdI (o 3 .i64 rfl).2,YZ (o 4 .u64 rfl).2,YZ (o 5 .u64 rfl).2⟩
 rcases j with _|_|_|_|_|_|j
 ·exact(o 0 .u8 rfl).1
 ·exact(o 1 .u64 rfl).1
 ·exact(o 2 .i64 rfl).1
 ·exact(o 3 .i64 rfl).1
 ·exact(o 4 .u64 rfl).1
 ·exact(o 5 .u64 rfl).1
 omega
theorem H9{P:Program}{l:Array Field}{T:TypeId}{H:Type}{enc:TypeId × Value->H}{w W:World}{r:Reach}{base D:Nat}{v:Value}{d:DataW H}{s:List MemPlace}(p:P.underlying T=some (.struct l))(o:rz P D T=some U8)(f:Value.okWide P W r base T v)(h:DataW.Trod enc P w 0 (fun _=>true) true T v d s) : ∃ V:nO,v = .agg (Fx.aC 6 (xS V))/\uX V:=by
 unfold Value.okWide at f
 rw[p]at f
 obtain⟨a,rfl,_⟩:=f
 obtain⟨t,n⟩:=h
 have g:=uz _ _ _ o _ _ _ n
 have u:a.size=6:=by have:=g.1; simpa [Value.cells,U8] using this
 have q : ∀(j:Nat) (k:Option IntKind),U8[j]? = some k->NA k ((fun j=>a[j]?.getD undef) j):=fun j k e=>by
  obtain⟨v,b,c⟩:=g.2 j k e
  have m:a[j]? = some v:=by simpa [Value.cells] using b
  show NA k (a[j]?.getD undef)
  rw[m]; exact c
 obtain⟨b,c⟩:=LU q
 refine⟨_,congrArg Value.agg ?_,c⟩
 apply Array.ext_getElem?
 intro j
 by_cases i:j<6
 ·rw[Fx.dU _ i,<- b j i]
  show a[j]? = some (a[j]?.getD undef)
  rw[Array.getElem?_eq_getElem (by omega)]; rfl
 rw[Array.getElem?_eq_none (by omega),Array.getElem?_eq_none (by rw[Fx.aW]; omega)]
set_option maxRecDepth 100000 in
theorem LV{H:Type}{enc:TypeId × Value->H}{w W:World}{r:Reach}{base:Nat}{v:Value}{d:DataW H}{b:List MemPlace}(a:Value.okWide Tryd.prog W r base 24 v)(h:DataW.Trod enc Tryd.prog w 0 (fun _=>true) true 24 v d b) : ∃ V:nO,v = .agg (Fx.aC 6 (xS V))/\uX V :=
 H9 (D:=8) Tryd.underlying24 (by kernel_rfl) a h
end Go.Proofs.YtahbiajdgealnaaDoor
namespace Go.Proofs.YtahbiajdgealnaaDoor
open Go Go.RowKit Rt
set_option linter.unusedVariables false
set_option maxRecDepth 100000
theorem kG : Tryd.prog.globalNamed "leat/ledger.kinds" = some 0 := by kernel_rfl
theorem kT:(Tryd.prog.globals[0]?).map (·.type)=some 118:=by kernel_rfl
theorem kC:Tryd.prog.cellsOf 117=1:=by kernel_rfl
theorem kC8:Tryd.prog.cellsOf 118=8:=by kernel_rfl
theorem Dp{H:Type}{enc:TypeId × Value->H}{P:Program}{w:World}{base:Nat}{c:Nat->Bool}{held:Bool}{fuel:Nat}{t:TypeId}{b rs:Array TypeId}{d:Bool}{v:Value}{q:List MemPlace}(a:P.underlying t=some (.func b rs d))(h:DataW.trod enc P w base c held fuel t [v]=some (.nil,q)):v = .nilFunc:=by
 cases fuel with
 | zero=>simp[DataW.trod]at h
 | succ n=>cases v <;> simp[DataW.trod,a]at h <;> rfl
theorem Dq {W : World} (h : laidMetH Tryd.prog [("leat/ledger.kinds", Rows.laid_leat_ledger_kinds)] W) : Fx.gF W 0 0 8 vI := by
 obtain⟨g,t,e,R,p,V,Z,hv,T⟩:=h.funcs (List.mem_singleton.2 rfl)
 obtain rfl:=Option.some.inj (kG.symm.trans V)
 obtain rfl:=Option.some.inj (kT.symm.trans Z)
 have U:DataW.trod (funcToken Tryd.prog) Tryd.prog W 0 (fun _=>true) true R 118 e.toList=some (.agg [.nil,.held [40,42,108,101,97,116,47,108,101,100,103,101,114,46,76,101,100,103,101,114,41,46,109,97,107,101,115],.held [40,42,108,101,97,116,47,108,101,100,103,101,114,46,76,101,100,103,101,114,41,46,114,97,105,115,101,115],.held [40,42,108,101,97,116,47,108,101,100,103,101,114,46,76,101,100,103,101,114,41,46,116,97,107,101,115],.held [40,42,108,101,97,116,47,108,101,100,103,101,114,46,76,101,100,103,101,114,41,46,102,114,101,101,115],.held [40,42,108,101,97,116,47,108,101,100,103,101,114,46,76,101,100,103,101,114,41,46,109,111,118,101,115],.held [40,42,108,101,97,116,47,108,101,100,103,101,114,46,76,101,100,103,101,114,41,46,106,111,105,110,115],.held [40,42,108,101,97,116,47,108,101,100,103,101,114,46,76,101,100,103,101,114,41,46,108,101,97,118,101,115]],p):=T
 obtain⟨k,m,_,Q,Y,hl,l⟩:=DataW.trod_array Tryd.underlying118 U
 have P:k.map (·.1) = [.nil,.held [40,42,108,101,97,116,47,108,101,100,103,101,114,46,76,101,100,103,101,114,41,46,109,97,107,101,115],.held [40,42,108,101,97,116,47,108,101,100,103,101,114,46,76,101,100,103,101,114,41,46,114,97,105,115,101,115],.held [40,42,108,101,97,116,47,108,101,100,103,101,114,46,76,101,100,103,101,114,41,46,116,97,107,101,115],.held [40,42,108,101,97,116,47,108,101,100,103,101,114,46,76,101,100,103,101,114,41,46,102,114,101,101,115],.held [40,42,108,101,97,116,47,108,101,100,103,101,114,46,76,101,100,103,101,114,41,46,109,111,118,101,115],.held [40,42,108,101,97,116,47,108,101,100,103,101,114,46,76,101,100,103,101,114,41,46,106,111,105,110,115],.held [40,42,108,101,97,116,47,108,101,100,103,101,114,46,76,101,100,103,101,114,41,46,108,101,97,118,101,115]]:=by
  have:=congrArg Prod.fst Q
  simp only[DataW.agg.injEq]at this
  exact this.symm
 rw[kC8]at Y
 rw[kC]at l
 have a : ∀ i,i<8 -> ∀ d,(k.map (·.1))[i]? = some d -> ∃ c q,e[i]? = some c/\DataW.trod (funcToken Tryd.prog) Tryd.prog W 0 (fun _=>true) true m 117 [c]=some (d,q):=fun i X d b=>by
  have f:=l i X
  rw[Nat.mul_one]at f
  have S:(e.toList.drop i).take 1 = [e.toList[i]'(by omega)]:=by rw[List.drop_eq_getElem_cons (by omega)]; rfl
  rw[S]at f
  rw[List.getElem?_map]at b
  cases hx:k[i]? with
  | none=>rw[hx]at b; cases b
  | some x =>
    rw[hx]at f b
    simp only[Option.map_some,Option.some.injEq]at b
    refine⟨e.toList[i]'(by omega),x.2,?_,by rw[f,<- b]⟩
    rw[<- Array.getElem?_toList,List.getElem?_eq_getElem (by omega)]
 rw[P]at a
 intro j hj
 rw[Nat.zero_add,World.var?_cell kG hv j]
 obtain⟨c0,q0,n,z⟩:=a 0 (by decide) _ rfl
 have H:=Dp Tryd.underlying117 z
 obtain⟨c1,q1,o,A⟩:=a 1 (by decide) _ rfl
 have I:=func_of_trod (f0:=145) Tryd.underlying117 (by kernel_rfl) A
 obtain⟨c2,q2,r,B⟩:=a 2 (by decide) _ rfl
 have J:=func_of_trod (f0:=146) Tryd.underlying117 (by kernel_rfl) B
 obtain⟨c3,q3,s,C⟩:=a 3 (by decide) _ rfl
 have K:=func_of_trod (f0:=147) Tryd.underlying117 (by kernel_rfl) C
 obtain⟨c4,q4,u,D⟩:=a 4 (by decide) _ rfl
 have L:=func_of_trod (f0:=148) Tryd.underlying117 (by kernel_rfl) D
 obtain⟨c5,q5,v,E⟩:=a 5 (by decide) _ rfl
 have M:=func_of_trod (f0:=149) Tryd.underlying117 (by kernel_rfl) E
 obtain⟨c6,q6,w,F⟩:=a 6 (by decide) _ rfl
 have N:=func_of_trod (f0:=150) Tryd.underlying117 (by kernel_rfl) F
 obtain⟨c7,q7,y,G⟩:=a 7 (by decide) _ rfl
 have O:=func_of_trod (f0:=151) Tryd.underlying117 (by kernel_rfl) G
 rcases j with _|_|_|_|_|_|_|_|j
 ·rw[n,H]; rfl
 ·rw[o,I]; rfl
 ·rw[r,J]; rfl
 ·rw[s,K]; rfl
 ·rw[u,L]; rfl
 ·rw[v,M]; rfl
 ·rw[w,N]; rfl
 ·rw[y,O]; rfl
 omega
theorem LW (os : Os) (args : Array Value) : laidMetH Tryd.prog [("leat/ledger.kinds", Rows.laid_leat_ledger_kinds)] ((World.doorLaid Tryd.prog 600 os).forCall (fun _ _ => 0) ⟨#[], args, []⟩).memory :=
 laidMetH_of_parts3 (fuel:=8) (laidMet_of_run' 8 (by kernel_rfl) (by kernel_rfl)) (by kernel_rfl) (by kernel_rfl)
end Go.Proofs.YtahbiajdgealnaaDoor
