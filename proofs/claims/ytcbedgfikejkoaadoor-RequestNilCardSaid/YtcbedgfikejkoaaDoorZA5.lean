/-
  What the proof of the law rests on, part 5: walks of functions, and plain laws; each says its conditions itself.
-/
import Derived.Shelf.SlSortCmp.NoneTotal
import Derived.Shelf.SlSortCmp.WholeK
import Derived.Lib.SliceRun
import Derived.Ground.SlsfProg
import Derived.Test.YtcbedgfikejkoaaDoorProg
import Derived.Deep.Slices
import Derived.Lib.SmallJoins
import Derived.ChangeArms
import Derived.Test.YtcbedgfikejkoaaDoorZA4
set_option maxHeartbeats 1600000
set_option linter.unusedVariables false
set_option linter.unusedSimpArgs false
namespace Go.Proofs.YtcbedgfikejkoaaDoor
open Go.RowKit Rt
open Fx (eT dI eY bf eX eU eG dM eZ gW dO gX eP gH gY Lv sN Ln Ws Qv Wl Rp Wc Qs Wr Sb Lk Wk rC rV sR Rs Rn Rd Rk Wb Wx Wo yE Wt pJ Ai Qn zQ tL yt zG wT zT zR iB zV jC nY rR zW yu zU yF yx rv aA aL bE aI ev bT Stp bV aO flat fH Mp dK aT fq gF bA down fM iW jk kU bQ bD cells_one jD aX pV unseen jl iQ cu bX dA cZ dh iE iT qL gI)
set_option maxRecDepth 20000
set_option linter.unusedVariables false
namespace Rt
def jO(m:dB)(o r:Int):Bool:=Aj m.ao m.ar m.an o r
def CV(m:dB)(o r:Int):Bool:=Aj (fun i=>m.g i 0) (fun i=>m.g i 1) m.gn o r
def mh(m:dB)(o r:Int):Nat:=Po (fun i=>m.g i 0) (fun i=>m.g i 1) m.gn o r
noncomputable def Nr(m:dB)(v:EvM):dB:=lX m (fun x=>bL x v.o v.bM) (m.T.path v.node)
def jY(m:dB)(v:EvM):Int:=if jO m v.o v.req=true then 14 else if m.T.has v.node=false then 9 else bU m (fun x=>bL x v.o v.bM) (m.T.path v.node)
noncomputable def qI(m:dB)(v:EvM):dB:=Nn m (Nr m v).R v
noncomputable def Ns(m:dB)(v:EvM):dB:=lX m (fun x=>bO x v.o (m.g (mh m v.o v.of) 3)) (m.T.path (m.g (mh m v.o v.of) 2))
def jv(m:dB)(v:EvM):Int:=if jO m v.o v.req=true then 14 else if CV m v.o v.of=false\/m.g (mh m v.o v.of) 4≠0 then 12 else bU m (fun x=>bO x v.o (m.g (mh m v.o v.of) 3)) (m.T.path (m.g (mh m v.o v.of) 2))
noncomputable def oZ(m:dB)(v:EvM):dB:=Ir m (Ns m v).R v (mh m v.o v.of)
def Uz(m:dB):Prop := ∀ i,i<m.gn->jO m (m.g i 0) (m.g i 1)=true
end Rt
theorem Fx.WY{f:Nat->Value}{x1 x2 e g h i:Operand}{v1 v2 a b c d:Value}(h1:ev f x1=v1)(j:ev f x2=v2)(k:ev f e=a)(l:ev f g=b)(m:ev f h=c)(n:ev f i=d) : [x1,x2,e,g,h,i].map (ev f) = [v1,v2,a,b,c,d]:=by rw[List.map_cons,h1,Fx.Vl j k l m n]
theorem Mq.up{w w':World}{B lp a b:Nat}{m d:dB}{c:Value}{cap:Array Value}(h:Mq w B lp m d a c b cap)(e:Below w.heap.size w w'):Mq w' B lp m d a c b cap := { h with s:=fun g f=>h.s g (Di e f) }
instance {w w':World} {B lp a c:Nat} {m e:dB} {d:Value} {cap:Array Value}:Rt.Tr w w' (Mq w B lp m e a d c cap) (Mq w' B lp m e a d c cap):=⟨fun b h=>h.up b⟩
theorem Pt(m:dB)(lp B:Nat)(w:World)(h:iR w B lp m)(v:EvM)(L:bZ v=true)(hwf:jQ v)(hga:Uz m) :
 Calls Tryd.prog 110 #[(pt lp),.agg (aA 14 (dF v))] w fun e w'=>JZ w B lp m (qI m v) (jY m v) e w':=by
 have hC:=h.c
 have hT:=h.t
 have hP:=h.p
 have hR:=h.r
 have hG:=h.g
 have hA:=h.a
 have hN:=h.ne
 have lC:=h.c.lt
 have lT:=h.t.lt
 have lP:=h.p.lt
 have lR:=h.r.lt
 have lG:=h.g.lt
 have lA:=h.a.lt
 obtain⟨a,ha,ho⟩ : ∃ a:Nat,a<6/\v.o=(a:Int)+1:=dV (iI L)
 have hra:bB v=a:=by unfold bB; omega
 have hko:=xY L hwf
 have hvo:1<=v.o/\v.o<=6:=by omega
 refine Kent Tryd.func110 40 ?_
 refine ay<|pQ ((pt lp)) fun A w1 oI M s1 z1 => ?_
 have⟨m2,m3,m4,m5,m6,m7,U⟩:=BO s1.old hC hT hP hR hG hA (Below.refl w.heap.size w)
 have wY:=gK oI
 have⟨mO,qF,uL,uM,uN⟩:=ug oI hC.lt hP.lt hR.lt hG.lt hA.lt
 have xK:=M.lt
 refine rG fun d w2 wM C s2 z2 => ?_
 have⟨m9,m10,m11,m12,m13,m14,m15,V⟩:=zZ s2.old m2 m3 m4 m5 m6 m7 M U
 have zN:=iC wM U.size
 have⟨Ii,CF,CG,zf,zh,vK⟩:=BR wM m2.lt m4.lt m5.lt m6.lt m7.lt M.lt
 have Cg:=C.lt
 refine av (.nilFunc)<|av (au 0)<|aD<|ay<|av ((pt d))<|Lv (au v.o) (aP C.aK 0)<|av ((pf d 12))<|Lv (aC v.req) (aP C.aK 12)<|av (.agg (aA 2 (bE (bE (fun n=>if n<1 then au 0 else aC 0) 0 1 (fun _=>au v.o)) 1 1 (fun _=>aC v.req))))<|ni 2 (fun n=>if n<1 then au 0 else aC 0) fun k w3 Bf N s3 z3 => ?_
 have⟨m17,m18,m19,m20,m21,m22,m23,m24,W⟩:=BP s3.old m9 m10 m11 m12 m13 m14 m15 C V
 have G6:=iC Bf V.size
 have⟨UA,Uq,aak,Nh,Ur,Ni,Nj⟩:=Fu Bf m9.lt m11.lt m12.lt m13.lt m14.lt m15.lt C.lt
 have Ie:=N.lt
 refine fI N 0 (h1:=(aX (aX (fun jq _=>by show((fun n=>if n<1 then au 0 else aC 0:Nat->Value) jq).oneCell'=true; simp only[]; repeat (first|rfl|split)) (fun _ _=>rfl)) (fun _ _=>rfl))) fun w4 sD s4 z4 => ?_
 have rM:aL w4 k 2 (bE (bE (fun n=>if n<1 then au 0 else aC 0) 0 1 (fun _=>au v.o)) 1 1 (fun _=>aC v.req)) 70:=aO sD
 have sQ:aL w4 k 2 (zP v.o v.req) 70:=Ux (Fx.tY (by omega) (Fx.mY (j:=0) (by omega) (by omega) rfl)) (Fx.mY (j:=0) (by omega) (by omega) rfl) rM
 have iD:=iB s4 N.ty
 have⟨uX,tQ,uY,mP,m32,oK,nZ,qP⟩:=Sg iD m17 m18 m19 m20 m21 m22 m23 m24
 have b4:=s4.below W W.size (by omega)
 refine aD<|Ws<|Ws ?_
 -- region 2 draws
 refine jP [0,1,2,3,4,5] [4,0,0,4,4,4] [] fun rZ gy iF => ?_
 have⟨qQ,vG,uo,qR,wC,O,vH,qV,rO,X⟩:=nL gy uX tQ uY mP m32 oK nZ qP sQ b4
 refine Rs ((pt lp)) (aP vH.aK 0) ?_
 refine aW ((pt lp))<|aW ((pf lp 28))<|Rs (.map (some m.ab)) (aP qQ.aK 28) ?_
 refine Rs (.agg (aA 2 (zP v.o v.req))) (jh rO.aK 0) ?_
 rcases Fx.qh m.ao m.ar m.an v.o v.req with ⟨MU,wN,wO,ED⟩|gu
 ·refine Rs aG (Fx.Dx (z := .bool false) rfl rfl ((show ev _ _ = .agg (aA 2 (zP v.o v.req))from rfl).trans (Fx.rY (y:=zP v.o v.req) (a:=v.o) (b:=v.req) rfl rfl)) hko.1 O Tryd.underlying56 Ah (by rfl) wN wO ED rfl) ?_
  refine bG<|aQ<|ay<|av (.nilFunc)<|av (au 14)<|aD<|Wr<|sR<|aM (.tuple #[.nilFunc,au 14]) ?_
  have f:jY m v=14:=by unfold jY; exact if_pos (uS wN wO ED)
  exact⟨⟨.nilFunc,0,#[],by rw[f],rfl,fun u=>absurd (f.symm.trans u) (by first|decide|omega|assumption)⟩,X⟩
 refine Rs aF (Fx.Dw (z := .bool false) rfl rfl ((show ev _ _ = .agg (aA 2 (zP v.o v.req))from rfl).trans (Fx.rY (y:=zP v.o v.req) (a:=v.o) (b:=v.req) rfl rfl)) hko.1 O Tryd.underlying56 Ah (by rfl) gu) ?_
 refine bG<|aN<|Wk<|sN<|Ws<|Ws ?_
 -- region 4 draws
 refine jP [4,0,1,2,3,5,6,7] [4,0,0,4,0,4,3,0] [(6,0,[3,2,1,0]),(6,3,[3]),(6,5,[5]),(7,6,[6])] fun C9 jJ nO => ?_
 have⟨uq,sF,wD,Ac,vI,uw,P,F,vJ,H⟩:=nL jJ qQ vG uo qR wC O vH qV rO X
 refine aW ((pf d 9))<|Rs ((pt lp)) (aP P.aK 0) ?_
 refine aW ((pt lp))<|aW ((pf lp 18))<|Rs ((pt m.tp)) (aP uq.aK 18) ?_
 refine Rs (aC v.node) (aP F.aK 9) ?_
 refine gG ?_
 by_cases q:(cO.has m.T v.node)=true
 ·refine lJ (Q7 v.node sF) aG (by rw[q])<|Ln<|aW aF<|bG<|aN<|Wk<|sN<|ay<|Lv ((pt lp)) (aP P.aK 0)<|av ((pf d 9))<|Lv (aC v.node) (aP F.aK 9)<|Lv (.func (.func 121) #[] #[(pt d)]) (Fx.iV (us := []) (vs := [(pt d)]) rfl rfl rfl)<|ko (Nf m lp B _ (h.up H) v.node v hvo d F) ?_
  rintro e9 G ⟨⟨E,fi1,Jf,he,ho1,hD1⟩,hb1⟩
  refine⟨_,he,?_⟩
  clear he
  have⟨Ad,uy,sG,uZ,zJ,pX,xg,qW,Y⟩:=BP hb1 uq wD Ac vI uw P F vJ H
  have aa:Bw G G:=⟨Below.refl _ _⟩
  refine av (.tuple #[E,au (bU m (fun x=>bL x v.o v.bM) (m.T.path (v.node)))])<|av (E)<|av (au (bU m (fun x=>bL x v.o v.bM) (m.T.path (v.node))))<|ni 1 (fun _ => .nilFunc) fun l w6 J Q s8 z5 => ?_
  have⟨AJ,xq,Ae,yO,Z⟩:=mF s8.old pX xg qW aa Y
  have J2:=iC J Y.size
  have⟨aal,TP,TQ,TR,TS,TT,aam,TU⟩:=Ou J Ad.lt uy.lt sG.lt uZ.lt zJ.lt pX.lt xg.lt qW.lt
  have JG:=Q.lt
  have kg4:G.heap.size<=l:=by rw[J]; exact aa.b.size
  refine nk Q 0 E (h1:=ho1) fun w7 FD S z6 => ?_
  have zL:aL w7 l 1 (fun _=>E) 89:=cu FD
  have mH:=iB S Q.ty
  have⟨Ce,FH,Hl⟩:=Dr mH AJ xq Ae
  have Jh:=(⟨S.below yO.b yO.b.size kg4⟩:Bw G _)
  have I:=S.below Z Z.size (by omega)
  refine av (au (bU m (fun x=>bL x v.o v.bM) (m.T.path (v.node))))<|aD<|Ws<|ay<|av (au (bU m (fun x=>bL x v.o v.bM) (m.T.path (v.node)))) ?_
  by_cases D:(bU m (fun x=>bL x v.o v.bM) (m.T.path (v.node)))=0
  ·refine Lv aF (ng D)<|aD<|aN<|Wk<|sN<|ay<|Lv (.func (.func 123) #[] #[(pt l),(pt A),(pt k),(pt d)]) (Fx.iV (us := []) (vs := [(pt l),(pt A),(pt k),(pt d)]) rfl rfl rfl)<|av (.func (.func 123) #[] #[(pt l),(pt A),(pt k),(pt d)])<|av (au 0)<|aD<|Wr<|aM (.tuple #[.func (.func 123) #[] #[(pt l),(pt A),(pt k),(pt d)],au 0]) ?_
   have hD0:=hD1 D
   have hfe:=hD0.e
   subst hfe
   have b01:w.heap.size<=C9.heap.size:=by omega
   have f:jY m v=0:=by unfold jY; rw[if_neg (show ¬ jO m v.o v.req=true by unfold jO; rw[mW gu]; decide)]; rw[if_neg (by rw[q]; decide)]; exact D
   exact⟨⟨_,123,#[(pt l),(pt A),(pt k),(pt d)],by rw[f],rfl,fun _=>⟨rfl,⟨_,_,Tryd.func123,rfl,rfl⟩,fun w2 s=>(Np m lp B w2 ((h.up I).up s) v L hwf (Nr m v).R C9.heap.size w.heap.size _ (by omega) _ (hD0.up (Di Jh.b s)) _ _ _ _ (zL.eH (Sb s) (Nat.ne_of_lt zL.lt)) (Ce.eH (Sb s) (Nat.ne_of_lt Ce.lt)) (Hl.eH (Sb s) (Nat.ne_of_lt Hl.lt)) (FH.eH (Sb s) (Nat.ne_of_lt FH.lt)) ⟨by omega,by omega,by omega⟩ gu (fun i hi e=>by have q9:=hga i hi; obtain⟨j9,hj9,e9,f9⟩:=lZ.1 q9; exact gu j9 hj9 ⟨e9.trans e.1,f9.trans e.2⟩)).mono fun _ _ K=>⟨K.1,K.2.1,K.2.2.mono fun _ hk=>hk⟩⟩⟩,I⟩
  refine Lv aG (qg D)<|aD<|aQ<|ay<|av (au (bU m (fun x=>bL x v.o v.bM) (m.T.path (v.node))))<|av (.nilFunc)<|av (au (bU m (fun x=>bL x v.o v.bM) (m.T.path (v.node))))<|aD<|Wr<|sR<|aM (.tuple #[.nilFunc,au (bU m (fun x=>bL x v.o v.bM) (m.T.path (v.node)))]) ?_
  have f:jY m v=bU m (fun x=>bL x v.o v.bM) (m.T.path (v.node)):=by unfold jY; rw[if_neg (show ¬ jO m v.o v.req=true by unfold jO; rw[mW gu]; decide)]; rw[if_neg (by rw[q]; decide)]
  exact⟨⟨.nilFunc,0,#[],by rw[f],rfl,fun u=>absurd (f.symm.trans u) (by first|decide|omega|assumption)⟩,I⟩
 rw[Bool.not_eq_true]at q
 refine lJ (Q7 v.node sF) aF (by rw[q])<|Ln<|aW aG<|bG<|aQ<|ay<|av (.nilFunc)<|av (au 9)<|aD<|Wr<|sR<|aM (.tuple #[.nilFunc,au 9]) ?_
 have f:jY m v=9:=by unfold jY; rw[if_neg (show ¬ jO m v.o v.req=true by unfold jO; rw[mW gu]; decide)]; exact if_pos q
 exact⟨⟨.nilFunc,0,#[],by rw[f],rfl,fun u=>absurd (f.symm.trans u) (by first|decide|omega|assumption)⟩,H⟩
theorem Pv(m:dB)(lp B:Nat)(w:World)(h:iR w B lp m)(v:EvM)(hv:bZ v=true)(hwf:jQ v) :
 Calls Tryd.prog 111 #[(pt lp),.agg (aA 14 (dF v))] w fun e w'=>JZ w B lp m (oZ m v) (jv m v) e w':=by
 have hC:=h.c
 have hT:=h.t
 have hP:=h.p
 have hR:=h.r
 have hG:=h.g
 have hA:=h.a
 have hN:=h.ne
 have lC:=h.c.lt
 have lT:=h.t.lt
 have lP:=h.p.lt
 have lR:=h.r.lt
 have lG:=h.g.lt
 have lA:=h.a.lt
 obtain⟨a,ha,ho⟩ : ∃ a:Nat,a<6/\v.o=(a:Int)+1:=dV (iI hv)
 have hra:bB v=a:=by unfold bB; omega
 have aa:=xY hv hwf
 have hvo:1<=v.o/\v.o<=6:=by omega
 refine Kent Tryd.func111 56 ?_
 refine ay<|pQ ((pt lp)) fun J w1 oI m1 s1 z1 => ?_
 have⟨m2,m4,m5,m6,m7,b1⟩:=vv s1.old hC hP hR hG hA (Below.refl w.heap.size w)
 have wY:=gK oI
 have⟨mO,qF,uL,uM,uN⟩:=ug oI hC.lt hP.lt hR.lt hG.lt hA.lt
 have xK:=m1.lt
 refine rG fun n w2 wM D s2 z2 => ?_
 have⟨m9,m11,m12,m13,m14,m15,b2⟩:=BO s2.old m2 m4 m5 m6 m7 m1 b1
 have zN:=iC wM b1.size
 have⟨Ii,CF,CG,zf,zh,vK⟩:=BR wM m2.lt m4.lt m5.lt m6.lt m7.lt m1.lt
 have Cg:=D.lt
 refine av (.nilFunc)<|av (au 0)<|aD<|Ws ?_
 -- region 1 draws
 refine Ai (T1:=70) (T2:=70) (XR:=70) (T2':=70) (a1 := .tmp 6) (v1 := .tmp 16) (a2 := .tmp 7) (v2 := .tmp 21) (m1:=2) (m2:=2) (z1:=fun d=>if d<1 then au 0 else aC 0) (y1:=bE (bE (fun d=>if d<1 then au 0 else aC 0) 0 1 (fun _=>au v.o)) 1 1 (fun _=>aC v.req)) (z2:=fun d=>if d<1 then au 0 else aC 0) (y2:=bE (bE (fun d=>if d<1 then au 0 else aC 0) 0 1 (fun _=>au v.o)) 1 1 (fun _=>aC v.of)) (u1 := .agg (aA 2 (bE (bE (fun d=>if d<1 then au 0 else aC 0) 0 1 (fun _=>au v.o)) 1 1 (fun _=>aC v.req)))) (u2 := .agg (aA 2 (bE (bE (fun d=>if d<1 then au 0 else aC 0) 0 1 (fun _=>au v.o)) 1 1 (fun _=>aC v.of)))) 10 11 12 13 [[],[],[],[],[],[],[],[],[],[],[],[],[(0,[10]),(1,[11])],[(0,[10]),(1,[11]),(2,[12])]] [[(2,[0]),(3,[0])],[(2,[1]),(3,[1])],[(2,[2]),(3,[2])],[(2,[3]),(3,[3])],[(2,[4]),(3,[4])],[(3,[5])],[(3,[6])],[(3,[7])],[(3,[8])],[(3,[9])],[(2,[10]),(3,[10])],[(2,[11]),(3,[11])],[(3,[12])],[]] #[(pt n),au v.o,(pf n 12),aC v.req,.agg (aA 2 (bE (bE (fun d=>if d<1 then au 0 else aC 0) 0 1 (fun _=>au v.o)) 1 1 (fun _=>aC v.req))),(pt n),au v.o,(pf n 13),aC v.of,.agg (aA 2 (bE (bE (fun d=>if d<1 then au 0 else aC 0) 0 1 (fun _=>au v.o)) 1 1 (fun _=>aC v.of))),undef,undef,undef,undef] (by kernel_rfl) (by kernel_rfl) (by kernel_rfl) (by kernel_rfl) (by kernel_rfl) (by kernel_rfl) (by kernel_rfl) (by kernel_rfl) (by kernel_rfl) (by kernel_rfl) rfl rfl (by kernel_rfl) (by kernel_rfl) rfl rfl rfl rfl (by kernel_rfl) (by kernel_rfl) (fun k l=>(show ev _ (.tmp 6)=(pt k)from by kernel_rfl)) (fun k l=>(show ev _ (.tmp 7)=(pt l)from by kernel_rfl)) (fun k l=>(show ev _ (.tmp 16) = .agg (aA 2 (bE (bE (fun d=>if d<1 then au 0 else aC 0) 0 1 (fun _=>au v.o)) 1 1 (fun _=>aC v.req)))from by kernel_rfl)) (fun k l=>(show ev _ (.tmp 21) = .agg (aA 2 (bE (bE (fun d=>if d<1 then au 0 else aC 0) 0 1 (fun _=>au v.o)) 1 1 (fun _=>aC v.of)))from by kernel_rfl)) (bD _ _) (bD _ _) (aX (aX (fun jq _=>by show((fun d=>if d<1 then au 0 else aC 0:Nat->Value) jq).oneCell'=true; simp only[]; repeat (first|rfl|split)) (fun _ _=>rfl)) (fun _ _=>rfl)) (aX (aX (fun jq _=>by show((fun d=>if d<1 then au 0 else aC 0:Nat->Value) jq).oneCell'=true; simp only[]; repeat (first|rfl|split)) (fun _ _=>rfl)) (fun _ _=>rfl)) (fun k l => ?_) ?_
 ·refine⟨?_,?_,?_,?_,?_,?_,?_,?_,?_,?_,?_,?_,?_,?_,trivial⟩
  ·exact .inr Sd
  ·exact .inr (NZ (au v.o) fun F u=>bf (x:=dF v) rfl (show ev _ (.tmp 12)=(pt n)from by kernel_rfl) (by kernel_rfl) (D.aK.below u (by have:=D.lt; omega)) (i:=0) (by omega) (by omega) rfl)
  ·exact .inr Sd
  ·exact .inr (NZ (aC v.req) fun F u=>bf (x:=dF v) rfl (show ev _ (.tmp 14)=(pf n 12)from by kernel_rfl) (by kernel_rfl) (D.aK.below u (by have:=D.lt; omega)) (i:=12) (by omega) (by omega) rfl)
  ·exact .inr (NZ (.agg (aA 2 (bE (bE (fun d=>if d<1 then au 0 else aC 0) 0 1 (fun _=>au v.o)) 1 1 (fun _=>aC v.req)))) fun F u=>eP (vs := [(0,au v.o),(1,aC v.req)]) (places := #[(0,1),(1,1)]) (m:=2) (x:=fun d=>if d<1 then au 0 else aC 0) rfl (Fx.Ko (show ev _ (.tmp 13)=au v.o from by kernel_rfl) (show ev _ (.tmp 15)=aC v.req from by kernel_rfl)) Tryd.underlying70 (by kernel_rfl) (by kernel_rfl) (by rw[bA (off:=0) (s:=1) (y:=fun _=>au v.o) (by kernel_rfl) (cells_one (by rfl)) (by rfl)]; rw[bA (off:=1) (s:=1) (y:=fun _=>aC v.req) (by kernel_rfl) (cells_one (by rfl)) (by rfl)]; rfl))
  ·exact .inr Sd
  ·exact .inr (NZ (au v.o) fun F u=>bf (x:=dF v) rfl (show ev _ (.tmp 17)=(pt n)from by kernel_rfl) (by kernel_rfl) (D.aK.below u (by have:=D.lt; omega)) (i:=0) (by omega) (by omega) rfl)
  ·exact .inr Sd
  ·exact .inr (NZ (aC v.of) fun F u=>bf (x:=dF v) rfl (show ev _ (.tmp 19)=(pf n 13)from by kernel_rfl) (by kernel_rfl) (D.aK.below u (by have:=D.lt; omega)) (i:=13) (by omega) (by omega) rfl)
  ·exact .inr (NZ (.agg (aA 2 (bE (bE (fun d=>if d<1 then au 0 else aC 0) 0 1 (fun _=>au v.o)) 1 1 (fun _=>aC v.of)))) fun F u=>eP (vs := [(0,au v.o),(1,aC v.of)]) (places := #[(0,1),(1,1)]) (m:=2) (x:=fun d=>if d<1 then au 0 else aC 0) rfl (Fx.Ko (show ev _ (.tmp 18)=au v.o from by kernel_rfl) (show ev _ (.tmp 20)=aC v.of from by kernel_rfl)) Tryd.underlying70 (by kernel_rfl) (by kernel_rfl) (by rw[bA (off:=0) (s:=1) (y:=fun _=>au v.o) (by kernel_rfl) (cells_one (by rfl)) (by rfl)]; rw[bA (off:=1) (s:=1) (y:=fun _=>aC v.of) (by kernel_rfl) (cells_one (by rfl)) (by rfl)]; rfl))
  ·exact .inl rfl
  ·exact .inl rfl
  ·exact .inl rfl
  exact .inl rfl
 rintro k l w3 Y P G H ne1 m16 m17 hb1
 have MB:lp≠k:=Nat.ne_of_lt (Nat.lt_of_lt_of_le (m9.lt) G)
 have Nt:m.pb≠k:=Nat.ne_of_lt (Nat.lt_of_lt_of_le (m11.lt) G)
 have UC:m.rb≠k:=Nat.ne_of_lt (Nat.lt_of_lt_of_le (m12.lt) G)
 have UD:m.gb≠k:=Nat.ne_of_lt (Nat.lt_of_lt_of_le (m13.lt) G)
 have UE:m.ab≠k:=Nat.ne_of_lt (Nat.lt_of_lt_of_le (m14.lt) G)
 have UF:J≠k:=Nat.ne_of_lt (Nat.lt_of_lt_of_le (m15.lt) G)
 have Mx:n≠k:=Nat.ne_of_lt (Nat.lt_of_lt_of_le (D.lt) G)
 have adn:lp≠l:=Nat.ne_of_lt (Nat.lt_of_lt_of_le (m9.lt) H)
 have aan:m.pb≠l:=Nat.ne_of_lt (Nat.lt_of_lt_of_le (m11.lt) H)
 have aao:m.rb≠l:=Nat.ne_of_lt (Nat.lt_of_lt_of_le (m12.lt) H)
 have aap:m.gb≠l:=Nat.ne_of_lt (Nat.lt_of_lt_of_le (m13.lt) H)
 have UG:m.ab≠l:=Nat.ne_of_lt (Nat.lt_of_lt_of_le (m14.lt) H)
 have Nu:J≠l:=Nat.ne_of_lt (Nat.lt_of_lt_of_le (m15.lt) H)
 have ado:n≠l:=Nat.ne_of_lt (Nat.lt_of_lt_of_le (D.lt) H)
 have⟨m18,m20,m21,m22,m23,m24,sD,b3⟩:=zZ hb1 m9 m11 m12 m13 m14 m15 D b2
 have G:w.heap.size<=k:=Nat.le_trans b2.size G
 have Ie:=m16.lt
 have H:w.heap.size<=l:=Nat.le_trans b2.size H
 have JG:=m17.lt
 have q1:Y 2=(pt J):=by rw[P]; kernel_rfl
 have q2:Y 3=(pt n):=by rw[P]; kernel_rfl
 have q5:Y 6=(pt k):=by rw[P]; kernel_rfl
 have q6:Y 7=(pt l):=by rw[P]; kernel_rfl
 clear P
 refine sN<|Ws<|Ws ?_
 -- region 2 draws
 refine jP [0,1,2,3,4,5] [4,0,0,4,4,4] [] fun rZ gy iF => ?_
 have⟨rM,uX,tQ,uY,mP,m32,oK,nZ,qP,b4⟩:=nL gy m18 m20 m21 m22 m23 m24 sD m16 m17 b3
 refine Rs ((pt lp)) (aP m32.aK 0 (ha:=q1)) ?_
 refine aW ((pt lp))<|aW ((pf lp 28))<|Rs (.map (some m.ab)) (aP rM.aK 28) ?_
 refine Rs (.agg (aA 2 (bE (bE (fun d=>if d<1 then au 0 else aC 0) 0 1 (fun _=>au v.o)) 1 1 (fun _=>aC v.req)))) (jh nZ.aK 0 (ha:=q5)) ?_
 rcases Fx.qh m.ao m.ar m.an v.o v.req with ⟨MU,wN,wO,ED⟩|gu
 ·refine Rs aG (Fx.Dx (z := .bool false) rfl rfl ((show ev _ _ = .agg (aA 2 (bE (bE (fun d=>if d<1 then au 0 else aC 0) 0 1 (fun _=>au v.o)) 1 1 (fun _=>aC v.req)))from rfl).trans (Fx.rY (y:=bE (bE (fun d=>if d<1 then au 0 else aC 0) 0 1 (fun _=>au v.o)) 1 1 (fun _=>aC v.req)) (a:=v.o) (b:=v.req) (Fx.tY (by omega) (Fx.mY (j:=0) (by omega) (by omega) rfl)) (Fx.mY (j:=0) (by omega) (by omega) rfl))) aa.1 mP Tryd.underlying56 Ah (by rfl) wN wO ED rfl) ?_
  refine bG<|aQ<|ay<|av (.nilFunc)<|av (au 14)<|aD<|Wr<|sR<|aM (.tuple #[.nilFunc,au 14]) ?_
  have A:jv m v=14:=by unfold jv; exact if_pos (uS wN wO ED)
  exact⟨⟨.nilFunc,0,#[],by rw[A],rfl,fun K=>absurd (A.symm.trans K) (by first|decide|omega|assumption)⟩,b4⟩
 refine Rs aF (Fx.Dw (z := .bool false) rfl rfl ((show ev _ _ = .agg (aA 2 (bE (bE (fun d=>if d<1 then au 0 else aC 0) 0 1 (fun _=>au v.o)) 1 1 (fun _=>aC v.req)))from rfl).trans (Fx.rY (y:=bE (bE (fun d=>if d<1 then au 0 else aC 0) 0 1 (fun _=>au v.o)) 1 1 (fun _=>aC v.req)) (a:=v.o) (b:=v.req) (Fx.tY (by omega) (Fx.mY (j:=0) (by omega) (by omega) rfl)) (Fx.mY (j:=0) (by omega) (by omega) rfl))) aa.1 mP Tryd.underlying56 Ah (by rfl) gu) ?_
 refine bG<|aN<|Wk<|sN<|Ws ?_
 -- region 4 draws
 refine jP [0,1,2,3,4,5,6,7,8,9,10,11] [1,0,0,1,1,1,0,0,0,2,3,0] [(10,0,[0]),(10,3,[3]),(10,4,[4]),(10,5,[5]),(10,9,[9]),(11,9,[9]),(11,10,[10])] fun C9 jJ nO => ?_
 have⟨Q,uo,qR,S,qU,U,qV,rO,V,W⟩:=nL jJ rM uX tQ uY mP m32 oK nZ qP b4
 refine Rd (v:=(pt lp)) (by rfl) (by rfl) (nY _) (fun F u=>bf (x:=fun _=>(pt lp)) rfl q1 (by kernel_rfl) (U.aK.below u (by have:=U.lt; omega)) (i:=0) (by omega) (by omega) rfl) ?_
 refine aW ((pt lp))<|aW ((pf lp 27))<|Rd (v := .map (some m.gb)) (by rfl) (by rfl) (nY _) (fun F u=>bf (x:=nW m) rfl rfl (by kernel_rfl) (Q.aK.below u (by have:=Q.lt; omega)) (i:=27) (by omega) (by omega) rfl) ?_
 refine Rd (v := .agg (aA 2 (bE (bE (fun d=>if d<1 then au 0 else aC 0) 0 1 (fun _=>au v.o)) 1 1 (fun _=>aC v.of)))) (by rfl) (by rfl) (nY _) (fun F u=>dO (x:=bE (bE (fun d=>if d<1 then au 0 else aC 0) 0 1 (fun _=>au v.o)) 1 1 (fun _=>aC v.of)) (y:=bE (bE (fun d=>if d<1 then au 0 else aC 0) 0 1 (fun _=>au v.o)) 1 1 (fun _=>aC v.of)) rfl q6 (by kernel_rfl) (by kernel_rfl) (V.aK.below u (by have:=V.lt; omega)) (i:=0) (by omega) (by omega) (fun j _=>by rw[Nat.zero_add])) ?_
 rcases Fx.qh (fun i=>m.g i 0) (fun i=>m.g i 1) m.gn v.o v.of with ⟨f,O,L,M⟩|Ru
 ·refine Rd (v := .tuple #[.agg (aA 5 (jE (m.g f))),.bool true]) (by rfl) (by rfl) (nY _) (fun F u=>Fx.Jc (z := .agg (aA 5 (fun d=>if d<1 then au 0 else if d<3 then aC 0 else if d<4 then au 0 else aC 0))) rfl rfl ((show ev _ _ = .agg (aA 2 (bE (bE (fun d=>if d<1 then au 0 else aC 0) 0 1 (fun _=>au v.o)) 1 1 (fun _=>aC v.of)))from rfl).trans (Fx.rY (y:=bE (bE (fun d=>if d<1 then au 0 else aC 0) 0 1 (fun _=>au v.o)) 1 1 (fun _=>aC v.of)) (a:=v.o) (b:=v.of) (Fx.tY (by omega) (Fx.mY (j:=0) (by omega) (by omega) rfl)) (Fx.mY (j:=0) (by omega) (by omega) rfl))) aa.2 (S.up u) Tryd.underlying55 Ah (by kernel_rfl) O L M rfl) ?_
  refine aW (.tuple #[.agg (aA 5 (jE (m.g f))),.bool true])<|aW (.agg (aA 5 (jE (m.g f))))<|aW aG<|BN<|ni 5 (fun d=>if d<1 then au 0 else if d<3 then aC 0 else if d<4 then au 0 else aC 0) fun C w4 Pw sF s6 z3 => ?_
  have⟨wD,vI,uw,wZ,wE,vJ,Ad,wF,uy,b6⟩:=nL s6.old Q uo qR S qU U qV rO V W
  have UH:=iC Pw W.size
  have⟨aaq,aar,UJ,UK,UL,UM,aas,aat,aau⟩:=Ov Pw Q.lt uo.lt qR.lt S.lt qU.lt U.lt qV.lt rO.lt V.lt
  have WZ:=sF.lt
  refine Ln ⟨s6.old,?_⟩
  refine gG<|fI sF 0 (h1:=(fun j hj=>by rcases j with _|_|_|_|_|_|_|_|_|_|_|_|_|_|j <;> first|rfl|omega)) fun w5 sG s7 z4 => ?_
  have uZ:aL w5 C 5 (jE (m.g f)) 72:=aO sG
  have ac:aL w5 C 5 (jE (m.g f)) 72:=uZ
  have iD:=iB s7 sF.ty
  have⟨pX,qW,zK,m64,Cb,Cc,yN,AB,xk⟩:=Si iD wD vI uw wZ wE vJ Ad wF uy
  have b7:=s7.below b6 b6.size (by omega)
  refine Ln<|aW aG<|bG<|Ws<|ay<|av aG<|av aF<|av aF<|av ((pf C 4))<|Lv (aC ((m.g f) 4)) (aP ac.aK 4) ?_
  by_cases QT:((m.g f) 4)=0
  ·refine Lv aF (ng QT)<|av aF<|aD<|aN<|Wk<|sN<|ay<|Lv ((pt lp)) (aP Cc.aK 0 (ha:=q1))<|av ((pf C 2))<|Lv (aC ((m.g f) 2)) (aP ac.aK 2)<|Lv (.func (.func 124) #[] #[(pt n),(pt C)]) (Fx.iV (us := []) (vs := [(pt n),(pt C)]) rfl rfl (Fx.args2 q2 rfl))<|ko (Nk m lp B _ (h.up b7) ((m.g f) 2) v (m.g f) hvo n C yN ac) ?_
   rintro e9 w6 ⟨⟨Z,fi1,Jf,he,ho1,hD1⟩,E⟩
   refine⟨_,he,?_⟩
   clear he
   have⟨AJ,Ae,yO,FD,zL,DV,FE,EW,Da,Af,b8⟩:=yB E pX qW zK m64 Cb Cc yN AB xk ac b7
   have bw1:Bw w6 w6:=⟨Below.refl _ _⟩
   refine av (.tuple #[Z,au (bU m (fun x=>bO x v.o (m.g f 3)) (m.T.path ((m.g f) 2)))])<|av (Z)<|av (au (bU m (fun x=>bO x v.o (m.g f 3)) (m.T.path ((m.g f) 2))))<|ni 1 (fun _ => .nilFunc) fun N w7 eg6 zM s9 z5 => ?_
   have⟨Ho,Ji,Hq,J4,MW,JJ,b9⟩:=BO s9.old DV FE EW Da Af bw1 b8
   have lg6:=iC eg6 b8.size
   have⟨aaw,aax,aay,aaz,aaA,aaB,aaC,aaD,aaE,aaF⟩:=QI eg6 AJ.lt Ae.lt yO.lt FD.lt zL.lt DV.lt FE.lt EW.lt Da.lt Af.lt
   have tg6:=zM.lt
   have kg6:w6.heap.size<=N:=by rw[eg6]; exact bw1.b.size
   refine nk zM 0 Z (h1:=ho1) fun w8 J5 s10 z6 => ?_
   have Gg:aL w8 N 1 (fun _=>Z) 89:=cu J5
   have mH:=iB s10 zM.ty
   have⟨CK,CO,EA,zm,zn⟩:=Ky mH Ho Ji Hq J4 MW
   have zo:=(⟨s10.below JJ.b JJ.b.size kg6⟩:Bw w6 _)
   have b10:=s10.below b9 b9.size (by omega)
   refine av (au (bU m (fun x=>bO x v.o (m.g f 3)) (m.T.path ((m.g f) 2))))<|aD<|Ws<|ay<|av (au (bU m (fun x=>bO x v.o (m.g f 3)) (m.T.path ((m.g f) 2)))) ?_
   by_cases X:(bU m (fun x=>bO x v.o (m.g f 3)) (m.T.path ((m.g f) 2)))=0
   ·refine Lv aF (ng X)<|aD<|aN<|Wk<|sN<|ay<|Lv (.func (.func 126) #[] #[(pt N),(pt J),(pt k),(pt n),(pt C),(pt l)]) (Fx.iV (us := []) (vs := [(pt N),(pt J),(pt k),(pt n),(pt C),(pt l)]) rfl rfl (Fx.WY rfl q1 q5 q2 rfl q6))<|av (.func (.func 126) #[] #[(pt N),(pt J),(pt k),(pt n),(pt C),(pt l)])<|av (au 0)<|aD<|Wr<|aM (.tuple #[.func (.func 126) #[] #[(pt N),(pt J),(pt k),(pt n),(pt C),(pt l)],au 0]) ?_
    have I:mh m v.o v.of=f:=uT h.g.inj O L M
    have hD0:=hD1 X
    have hfe:=hD0.e
    subst hfe
    have em:oZ m v=Ir m (lX m (fun x=>bO x v.o (m.g f 3)) (m.T.path (m.g f 2))).R v f:=by unfold oZ Ns; rw[I]
    rw[em]
    have A:jv m v=0:=by unfold jv; rw[if_neg (show ¬ jO m v.o v.req=true by unfold jO; rw[mW gu]; decide)]; rw[if_neg (show ¬ (CV m v.o v.of=false\/m.g (mh m v.o v.of) 4≠0) by rw[I,show CV m v.o v.of=true from uS O L M]; rintro (q|q) <;> first|(exact absurd q (by decide))|omega),I]; exact X
    exact⟨⟨_,126,#[(pt N),(pt J),(pt k),(pt n),(pt C),(pt l)],by rw[A],rfl,fun _=>⟨rfl,⟨_,_,Tryd.func126,rfl,rfl⟩,fun w2 E=>(Nq m lp B w2 ((h.up b10).up E) v hv hwf _ w5.heap.size w.heap.size _ (by omega) _ (hD0.up (Di zo.b E)) f _ _ _ _ _ _ (Gg.eH (Sb E) (Nat.ne_of_lt Gg.lt)) (CK.eH (Sb E) (Nat.ne_of_lt CK.lt)) (EA.eH (Sb E) (Nat.ne_of_lt EA.lt)) (CO.eH (Sb E) (Nat.ne_of_lt CO.lt)) (zn.eH (Sb E) (Nat.ne_of_lt zn.lt)) (zm.eH (Sb E) (Nat.ne_of_lt zm.lt)) UH ⟨by omega,by omega,by omega,by omega,by omega⟩ gu O L M).mono fun _ _ hc=>⟨hc.1,hc.2.1,hc.2.2.mono fun _ hk=>hk⟩⟩⟩,b10⟩
   refine Lv aG (qg X)<|aD<|aQ<|ay<|av (au (bU m (fun x=>bO x v.o (m.g f 3)) (m.T.path ((m.g f) 2))))<|av (.nilFunc)<|av (au (bU m (fun x=>bO x v.o (m.g f 3)) (m.T.path ((m.g f) 2))))<|aD<|Wr<|sR<|aM (.tuple #[.nilFunc,au (bU m (fun x=>bO x v.o (m.g f 3)) (m.T.path ((m.g f) 2)))]) ?_
   have I:mh m v.o v.of=f:=uT h.g.inj O L M
   have A:jv m v=bU m (fun x=>bO x v.o (m.g f 3)) (m.T.path ((m.g f) 2)):=by unfold jv; rw[if_neg (show ¬ jO m v.o v.req=true by unfold jO; rw[mW gu]; decide)]; rw[if_neg (show ¬ (CV m v.o v.of=false\/m.g (mh m v.o v.of) 4≠0) by rw[I,show CV m v.o v.of=true from uS O L M]; rintro (q|q) <;> first|(exact absurd q (by decide))|omega),I]
   exact⟨⟨.nilFunc,0,#[],by rw[A],rfl,fun K=>absurd (A.symm.trans K) (by first|decide|omega|assumption)⟩,b10⟩
  refine Lv aG (qg QT)<|av aG<|aD<|aQ<|ay<|av (.nilFunc)<|av (au 12)<|aD<|Wr<|sR<|aM (.tuple #[.nilFunc,au 12]) ?_
  have I:mh m v.o v.of=f:=uT h.g.inj O L M
  have A:jv m v=12:=by unfold jv; rw[if_neg (show ¬ jO m v.o v.req=true by unfold jO; rw[mW gu]; decide)]; exact if_pos (.inr (by rw[I]; omega))
  exact⟨⟨.nilFunc,0,#[],by rw[A],rfl,fun K=>absurd (A.symm.trans K) (by first|decide|omega|assumption)⟩,b7⟩
 refine Rd (v := .tuple #[.agg (aA 5 (fun d=>if d<1 then au 0 else if d<3 then aC 0 else if d<4 then au 0 else aC 0)),.bool false]) (by rfl) (by rfl) (nY _) (fun F u=>Fx.Jb (z := .agg (aA 5 (fun d=>if d<1 then au 0 else if d<3 then aC 0 else if d<4 then au 0 else aC 0))) rfl rfl ((show ev _ _ = .agg (aA 2 (bE (bE (fun d=>if d<1 then au 0 else aC 0) 0 1 (fun _=>au v.o)) 1 1 (fun _=>aC v.of)))from rfl).trans (Fx.rY (y:=bE (bE (fun d=>if d<1 then au 0 else aC 0) 0 1 (fun _=>au v.o)) 1 1 (fun _=>aC v.of)) (a:=v.o) (b:=v.of) (Fx.tY (by omega) (Fx.mY (j:=0) (by omega) (by omega) rfl)) (Fx.mY (j:=0) (by omega) (by omega) rfl))) aa.2 (S.up u) Tryd.underlying55 Ah (by kernel_rfl) Ru) ?_
 refine aW (.tuple #[.agg (aA 5 (fun d=>if d<1 then au 0 else if d<3 then aC 0 else if d<4 then au 0 else aC 0)),.bool false])<|aW (.agg (aA 5 (fun d=>if d<1 then au 0 else if d<3 then aC 0 else if d<4 then au 0 else aC 0)))<|aW aF<|BN<|ni 5 (fun d=>if d<1 then au 0 else if d<3 then aC 0 else if d<4 then au 0 else aC 0) fun g7 w9 eg7 EC s11 z7 => ?_
 have b11:=aR s11.old W
 have lg7:=iC eg7 W.size
 have⟨XT,XU,XV,XW,XY,XZ,X0,X3,X4⟩:=Ov eg7 Q.lt uo.lt qR.lt S.lt qU.lt U.lt qV.lt rO.lt V.lt
 have tg7:=EC.lt
 refine Ln ⟨s11.old,?_⟩
 refine gG<|fI EC 0 (h1:=(fun j hj=>by rcases j with _|_|_|_|_|_|_|_|_|_|_|_|_|_|j <;> first|rfl|omega)) fun zI CS s12 z8 => ?_
 have M8:aL zI g7 5 (fun d=>if d<1 then au 0 else if d<3 then aC 0 else if d<4 then au 0 else aC 0) 72:=aO CS
 have b12:=s12.below b11 b11.size (by omega)
 refine Ln<|aW aF<|bG<|Ws<|ay<|av aF<|av aG<|av aG<|dL<|dL<|dL<|av aG<|aD<|aQ<|ay<|av (.nilFunc)<|av (au 12)<|aD<|Wr<|sR<|aM (.tuple #[.nilFunc,au 12]) ?_
 have A:jv m v=12:=by unfold jv; rw[if_neg (show ¬ jO m v.o v.req=true by unfold jO; rw[mW gu]; decide)]; exact if_pos (.inl (mW Ru))
 exact⟨⟨.nilFunc,0,#[],by rw[A],rfl,fun K=>absurd (A.symm.trans K) (by first|decide|omega|assumption)⟩,b12⟩
set_option maxRecDepth 20000
set_option linter.unusedVariables false
namespace Rt
noncomputable def gP(m:dB)(v:EvM):dB:=if v.kind=1 then Bl m v else if v.kind=2 then tu m v else if v.kind=3 then qI m v else if v.kind=4 then oZ m v else if v.kind=5 then Ep m v else if v.kind=6 then Er m v else ze m v
def fB(m:dB)(v:EvM):Int:=if v.kind=1 then jN m v else if v.kind=2 then jM m v else if v.kind=3 then jY m v else if v.kind=4 then jv m v else if v.kind=5 then jX m v else if v.kind=6 then 0 else 0
def bF(m:dB)(v:EvM):Int:=if bZ v=false then 1 else if wH m.known v=true then 14 else if gN m.known v=false then 13 else if m.inn (bB v)=false\/m.left (bB v)=true then 10 else fB m v
structure W9(m:dB):Prop where
 own : ∀ a,a<6->0<=m.own a/\m.own a<=1000
 row : ∀ i,i<m.T.n -> ∀ p,p<54->0<=m.R i p/\m.R i p<=1125899906842624
 ga:Uz m
 kn:FK m.known
def Xa(k:Nat):Nat:=if k=1 then 108 else if k=2 then 109 else if k=3 then 110 else if k=4 then 111 else if k=5 then 112 else if k=6 then 113 else 114
def vX:Nat->Value:=fun p=>if p=0 then .nilFunc else .func (.func (Xa p)) #[] #[]
theorem Px{p:Nat}(h:1<=p):vX p = .func (.func (Xa p)) #[] #[]:=if_neg (by omega)
end Rt
theorem Xb {k : Nat} (h1 : 1 ≤ k) (b : k ≤ 7) : ∃ a c, Tryd.prog.funcs[Xa k]? = some a ∧ (a.name == "runtime.NumGoroutine") = false ∧ a.body = some c := by
 rcases(show k=1\/k=2\/k=3\/k=4\/k=5\/k=6\/k=7 by omega)with rfl|rfl|rfl|rfl|rfl|rfl|rfl
 ·exact⟨_,_,Tryd.func108,rfl,rfl⟩
 ·exact⟨_,_,Tryd.func109,rfl,rfl⟩
 ·exact⟨_,_,Tryd.func110,rfl,rfl⟩
 ·exact⟨_,_,Tryd.func111,rfl,rfl⟩
 ·exact⟨_,_,Tryd.func112,rfl,rfl⟩
 ·exact⟨_,_,Tryd.func113,rfl,rfl⟩
 exact⟨_,_,Tryd.func114,rfl,rfl⟩
theorem Mq.low{w:World}{B lp b c d:Nat}{m f:dB}{e:Value}{cap:Array Value}(h:Mq w B lp m f b e d cap)(g:c<=b):Mq w B lp m f c e d cap := { h with s:=fun l i=>(h.s l i).mono fun _ _ a=>⟨a.1,a.2.1,a.2.2.mono fun k j=>j.imp id (Nat.le_trans g)⟩ }
theorem Py(m:dB)(lp B:Nat)(w:World)(h:iR w B lp m)(v:EvM)(c:bZ v=true)(e:jQ v)(d:W9 m)(k:Nat)(j:v.kind=(k:Int))(i:1<=k/\k<=7) :
 Calls Tryd.prog (Xa k) #[(pt lp),.agg (aA 14 (dF v))] w (JZ w B lp m (gP m v) (fB m v)):=by
 rcases(show k=1\/k=2\/k=3\/k=4\/k=5\/k=6\/k=7 by omega)with rfl|rfl|rfl|rfl|rfl|rfl|rfl
 ·have a:v.kind=1:=by omega
  rw[show gP m v=Bl m v by unfold gP; rw[if_pos (by omega)],show fB m v=jN m v by unfold fB; rw[if_pos (by omega)]]
  exact Pn m lp B w h v c d.own
 ·have a:v.kind=2:=by omega
  rw[show gP m v=tu m v by unfold gP; rw[if_neg (by omega),if_pos (by omega)],show fB m v=jM m v by unfold fB; rw[if_neg (by omega),if_pos (by omega)]]
  exact MH m lp B w h v c a d.row
 ·have a:v.kind=3:=by omega
  rw[show gP m v=qI m v by unfold gP; rw[if_neg (by omega),if_neg (by omega),if_pos (by omega)],show fB m v=jY m v by unfold fB; rw[if_neg (by omega),if_neg (by omega),if_pos (by omega)]]
  exact Pt m lp B w h v c e d.ga
 ·have a:v.kind=4:=by omega
  rw[show gP m v=oZ m v by unfold gP; rw[if_neg (by omega),if_neg (by omega),if_neg (by omega),if_pos (by omega)],show fB m v=jv m v by unfold fB; rw[if_neg (by omega),if_neg (by omega),if_neg (by omega),if_pos (by omega)]]
  exact Pv m lp B w h v c e
 ·have a:v.kind=5:=by omega
  rw[show gP m v=Ep m v by unfold gP; rw[if_neg (by omega),if_neg (by omega),if_neg (by omega),if_neg (by omega),if_pos (by omega)],show fB m v=jX m v by unfold fB; rw[if_neg (by omega),if_neg (by omega),if_neg (by omega),if_neg (by omega),if_pos (by omega)]]
  exact OZ m lp B w h v c a
 ·have a:v.kind=6:=by omega
  rw[show gP m v=Er m v by unfold gP; rw[if_neg (by omega),if_neg (by omega),if_neg (by omega),if_neg (by omega),if_neg (by omega),if_pos (by omega)],show fB m v=0 by unfold fB; rw[if_neg (by omega),if_neg (by omega),if_neg (by omega),if_neg (by omega),if_neg (by omega),if_pos (by omega)]]
  obtain⟨b,f,g⟩:=Jv c a
  exact O1 m lp B w h v c b f g
 have a:v.kind=7:=by omega
 rw[show gP m v=ze m v by unfold gP; rw[if_neg (by omega),if_neg (by omega),if_neg (by omega),if_neg (by omega),if_neg (by omega),if_neg (by omega)],show fB m v=0 by unfold fB; rw[if_neg (by omega),if_neg (by omega),if_neg (by omega),if_neg (by omega),if_neg (by omega),if_neg (by omega)]]
 exact MK m lp B w h v c
theorem Iu(m:dB)(lp B:Nat)(w:World)(h:iR w B lp m)(v:EvM)(l:jQ v)(Q:W9 m)(hB:1<=B)(M:gF w 0 0 8 vX) :
 Calls Tryd.prog 30 #[(pt lp),.agg (aA 14 (dF v))] w fun e w'=>JZ w B lp m (gP m v) (bF m v) e w':=by
 have L:=h.c
 have hT:=h.t
 have hP:=h.p
 have hR:=h.r
 have hG:=h.g
 have hA:=h.a
 have hN:=h.ne
 have lC:=h.c.lt
 have lT:=h.t.lt
 have lP:=h.p.lt
 have lR:=h.r.lt
 have lG:=h.g.lt
 have lA:=h.a.lt
 obtain⟨q,P⟩ : ∃ q:Nat,v.kind=(q:Int):=⟨v.kind.toNat,by have:=l.kind; omega⟩
 have N:Kr m.known:=fun i hi=>by have:=Q.kn i hi; exact⟨by omega,by omega⟩
 refine Kent Tryd.func30 55 ?_
 refine ay<|rG fun x w1 z E s1 z1 => ?_
 have⟨m2,m8,G⟩:=kM s1.old L M (Below.refl w.heap.size w)
 have wY:=gK z
 have⟨mO,qF,uL,uM,uN⟩:=ug z L.lt hP.lt hR.lt hG.lt hA.lt
 have Ng:0≠x:=by rw[z]; exact Nat.ne_of_lt (M.lt (by omega))
 have xK:=E.lt
 refine av (.nilFunc)<|av (au 0)<|aD<|Ws<|Wb<|ay<|av ((pt lp))<|Lv aF (Fx.jF rfl rfl rfl (by kernel_rfl))<|av aF<|aD<|aN<|ay<|Lv (.agg (aA 14 (dF v))) (jh E.aK 0) ?_
 by_cases f:(bZ v)=true
 ·have C:bZ v=true:=f
  obtain⟨a,ha,ho⟩ : ∃ a:Nat,a<6/\v.o=(a:Int)+1:=dV (iI C)
  have D:bB v=a:=by unfold bB; omega
  have hkr:=mV C
  refine fC (Bc v _ l) aG (by rw[f]) ?_
  intro w2 hb1
  have⟨m9,m15,m16,b2⟩:=jH hb1 m2 m8 E G
  refine av aF<|av aF<|aD<|aN<|Ws ?_
  -- region 5 draws
  refine jP [0,1,2,3,4,5,6] [0,0,0,4,4,3,0] [(5,3,[3]),(5,4,[4]),(6,5,[5])] fun rZ gy iF => ?_
  have⟨R,m23,S,H⟩:=jH gy m9 m15 m16 b2
  refine aW ((pt lp))<|aW ((pt lp))<|aW ((pf lp 12))<|Rs (.agg (aA 6 (rv .u64 m.known))) (jh R.aK 12 (fun j hj=>kZ (p:=j) (by omega) (by omega))) ?_
  refine Rs (.agg (aA 14 (dF v))) (jh S.aK 0) ?_
  refine gG ?_
  by_cases k:(wH m.known v)=true
  ·refine fC (ME m.known v _ l) aG (by rw[k]) ?_
   intro w3 hb2
   have b4:=aR hb2 H
   refine Ln<|aW aG<|bG<|aQ<|ay<|av (.nilFunc)<|av (au 14)<|aD<|Wr<|bX<|sR<|aM (.tuple #[.nilFunc,au 14]) ?_
   have b:bF m v=14:=by unfold bF; rw[if_neg (by rw[f]; decide)]; exact if_pos k
   exact⟨⟨.nilFunc,0,#[],by rw[b],rfl,fun d=>absurd (b.symm.trans d) (by first|decide|omega|assumption)⟩,b4⟩
  rw[Bool.not_eq_true]at k
  refine fC (ME m.known v _ l) aF (by rw[k]) ?_
  intro w4 hb3
  have⟨oK,qR,wC,b5⟩:=jH hb3 R m23 S H
  refine Ln<|aW aF<|bG<|aN<|Ws ?_
  -- region 7 draws
  refine jP [0,1,2,3,4,5,6,7] [0,0,0,4,4,3,0,0] [(5,3,[3]),(5,4,[4]),(6,5,[5]),(7,5,[5])] fun C9 jJ nO => ?_
  have⟨T,wD,U,I⟩:=jH jJ oK qR wC b5
  refine aW ((pt lp))<|aW ((pt lp))<|aW ((pf lp 12))<|Rs (.agg (aA 6 (rv .u64 m.known))) (jh T.aK 12 (fun j hj=>kZ (p:=j) (by omega) (by omega))) ?_
  refine Rs (.agg (aA 14 (dF v))) (jh U.aK 0) ?_
  refine gG ?_
  by_cases n:(gN m.known v)=true
  ·refine fC (Ig m.known v _ l N) aG (by rw[n]) ?_
   intro w5 hb4
   have⟨vI,wF,uy,b7⟩:=jH hb4 T wD U I
   refine Ln<|aW aF<|aW aF<|bG<|aN<|Ws<|Ws ?_
   -- region 9 draws
   refine jP [0,1,4,5,2,3,6,7,8,9] [0,0,4,0,0,0,0,4,0,0] [] fun VL yM G7 => ?_
   have⟨F,zK,V,J⟩:=jH yM vI wF uy b7
   refine aW ((pt lp))<|aW ((pt x))<|aW ((pt lp))<|aW ((pt lp))<|Rs (au v.o) (aP V.aK 0) ?_
   refine Rp (au a) (fun _=>jc)<|Rp ((pf lp a)) (fun _=>xH 6 1) ?_
   by_cases s:(m.inn a)=true
   ·refine Rs aG (aP F.aK a ((vS (by omega)).trans (congrArg Value.bool s))) ?_
    refine aW aF<|aW aF<|bG<|aN ?_
    -- region 10 draws
    refine jP [0,1,4,5,2,3,6,7,8] [0,0,4,0,0,0,0,4,0] [] fun YR Hf QU => ?_
    have⟨W,xq,X,K⟩:=jH Hf F zK V J
    refine aW ((pt lp))<|aW ((pt x))<|aW ((pt lp))<|aW ((pf lp 6))<|Rs (au v.o) (aP X.aK 0) ?_
    refine Rp (au a) (fun _=>jc)<|Rp ((pf lp (a+6))) (fun _=>xH 6 1) ?_
    by_cases u:(m.left a)=true
    ·refine Rs aG (aP W.aK (a+6) ((uI (p:=a) (by omega) (by omega)).trans (congrArg Value.bool u))) ?_
     refine aW aG<|bG<|aQ<|ay<|av (.nilFunc)<|av (au 10)<|aD<|Wr<|bX<|sR<|aM (.tuple #[.nilFunc,au 10]) ?_
     have b:bF m v=10:=by unfold bF; rw[if_neg (by rw[f]; decide)]; rw[if_neg (by rw[k]; decide)]; rw[if_neg (by rw[n]; decide)]; exact if_pos (.inr (by rw[D]; exact u))
     exact⟨⟨.nilFunc,0,#[],by rw[b],rfl,fun d=>absurd (b.symm.trans d) (by first|decide|omega|assumption)⟩,K⟩
    rw[Bool.not_eq_true]at u
    refine Rs aF (aP W.aK (a+6) ((uI (p:=a) (by omega) (by omega)).trans (congrArg Value.bool u))) ?_
    refine aW aF<|bG<|aN<|Wk<|dA<|sN<|Ws ?_
    -- region 12 draws
    refine jP [0,4,1,2,3,5,6,7,8,9,10] [0,4,0,4,0,4,3,0,0,0,0] [(6,1,[3,2,1]),(6,3,[3]),(6,5,[5]),(7,6,[6]),(8,6,[6]),(9,6,[6]),(10,6,[6])] fun wt5 Hg VX => ?_
    have⟨Da,Y,y⟩:=kM Hg xq X K
    refine aW ((pf x 8))<|aW ((pt lp))<|Rs (.int .u8 ((q:Int))) (aP Y.aK 8 (congrArg (Value.int IntKind.u8) P)) ?_
    refine Rp ((pf 0 q)) (fun _=>xH 8 1)<|Rs (.func (.func (Xa q)) #[] #[]) (aP Da q (Px (by omega))) ?_
    refine Rs (.agg (aA 14 (dF v))) (jh Y.aK 0) ?_
    refine gG<|tL (by rfl) (Fx.H9 (args := [(pt lp),.agg (aA 14 (dF v))]) rfl rfl rfl (by rfl) (Xb (by omega) (by omega))) rfl<|(Py m lp B _ (h.up y) v C l Q q P (by omega)).mono ?_
    rintro e9 w6 ⟨⟨A,fi1,Jf,O,ho1,hD1⟩,hb5⟩
    refine⟨_,O,?_⟩
    clear O
    have Z:=aR hb5 y
    refine Ln<|aW (A)<|aW (au (fB m v))<|aW (A)<|aW (au (fB m v))<|bG<|Wr<|aM (.tuple #[A,au (fB m v)]) ?_
    have b:bF m v=fB m v:=by unfold bF; rw[if_neg (by rw[f]; decide)]; rw[if_neg (by rw[k]; decide)]; rw[if_neg (by rw[n]; decide)]; exact if_neg (by rw[D,s,u]; decide)
    exact⟨⟨_,_,_,by rw[b],ho1,fun d=>(hD1 (b.symm.trans d)).low y.size⟩,Z⟩
   rw[Bool.not_eq_true]at s
   refine Rs aF (aP F.aK a ((vS (by omega)).trans (congrArg Value.bool s))) ?_
   refine aW aG<|aW aG<|bG<|aQ<|Wk<|sN<|aQ<|ay<|av (.nilFunc)<|av (au 10)<|aD<|Wr<|bX<|sR<|aM (.tuple #[.nilFunc,au 10]) ?_
   have b:bF m v=10:=by unfold bF; rw[if_neg (by rw[f]; decide)]; rw[if_neg (by rw[k]; decide)]; rw[if_neg (by rw[n]; decide)]; exact if_pos (.inl (by rw[D]; exact s))
   exact⟨⟨.nilFunc,0,#[],by rw[b],rfl,fun d=>absurd (b.symm.trans d) (by first|decide|omega|assumption)⟩,J⟩
  rw[Bool.not_eq_true]at n
  refine fC (Ig m.known v _ l N) aF (by rw[n]) ?_
  intro w7 hb6
  have aa:=aR hb6 I
  refine Ln<|aW aG<|aW aG<|bG<|aQ<|ay<|av (.nilFunc)<|av (au 13)<|aD<|Wr<|bX<|sR<|aM (.tuple #[.nilFunc,au 13]) ?_
  have b:bF m v=13:=by unfold bF; rw[if_neg (by rw[f]; decide)]; rw[if_neg (by rw[k]; decide)]; exact if_pos n
  exact⟨⟨.nilFunc,0,#[],by rw[b],rfl,fun d=>absurd (b.symm.trans d) (by first|decide|omega|assumption)⟩,aa⟩
 rw[Bool.not_eq_true]at f
 refine fC (Bc v _ l) aF (by rw[f]) ?_
 intro w8 Y8
 have ab:=aR Y8 G
 refine av aG<|av aG<|aD<|aQ<|ay<|av (.nilFunc)<|av (au 1)<|aD<|Wr<|bX<|sR<|aM (.tuple #[.nilFunc,au 1]) ?_
 have b:bF m v=1:=by unfold bF; exact if_pos f
 exact⟨⟨.nilFunc,0,#[],by rw[b],rfl,fun d=>absurd (b.symm.trans d) (by first|decide|omega|assumption)⟩,ab⟩
set_option maxRecDepth 20000
set_option linter.unusedVariables false
namespace Rt
noncomputable def iN(m:dB)(v:EvM):dB:=if bF m v=0 then { gP m v with known:=aY (gP m v).known (bB v) ((gP m v).known (bB v)+1) } else m
theorem EF(m:dB)(v:EvM):(gP m v).known=m.known:=by
 unfold gP
 repeat (first|rfl|split)
def Iw:Nat->Int:=fun _=>0
def kF(m:dB)(k:Int):Nat->Int:=if m.T.has k=true then wP m k else Iw
end Rt
theorem iR.known{w w':World}{B lp:Nat}{m:dB}{K:Nat->Int}(h:iR w B lp m)(e:Stp lp w w')(d:aL w' lp 29 (nW { m with known:=K }) 59):iR w' B lp { m with known:=K }:=by
 have b:=iB e h.c.ty
 exact { c:=d,t:=h.t.nH b (by decide),p:=h.p.nH b trivial,r:=h.r.nH b trivial,g:=h.g.nH b trivial,a:=h.a.nH b trivial,ne:=⟨h.ne.mp,h.ne.mr,h.ne.mg,h.ne.ma,h.ne.pr,h.ne.pg,h.ne.pa,h.ne.rg,h.ne.ra,h.ne.ga⟩,lB:=h.lB,pB:=h.pB,rB:=h.rB,gB:=h.gB,aB:=h.aB }
theorem qJ{m:dB}{v:EvM}(h:bF m v=0):bZ v=true:=by
 cases hc:bZ v with
 | true=>rfl
 | false=>unfold bF at h; rw[if_pos hc]at h; cases h
theorem wR{m:dB}{v:EvM}(h:bF m v=0):v.seq=m.known (bB v)+1/\fB m v=0/\m.inn (bB v)=true/\m.left (bB v)=false:=by
 have d:=qJ h
 unfold bF at h
 rw[if_neg (by rw[d]; decide)]at h
 by_cases c:wH m.known v=true
 ·rw[if_pos c]at h; cases h
 rw[if_neg c]at h
 by_cases a:gN m.known v=false
 ·rw[if_pos a]at h; cases h
 rw[if_neg a]at h
 by_cases b:m.inn (bB v)=false\/m.left (bB v)=true
 ·rw[if_pos b]at h; cases h
 rw[if_neg b]at h
 refine⟨?_,h,?_,?_⟩
 ·have a:gN m.known v=true:=by cases e:gN m.known v with|true=>rfl|false=>exact absurd e a
  unfold gN at a
  simp only[Bool.and_eq_true,decide_eq_true_iff]at a
  exact a.1.2
 ·cases e:m.inn (bB v)with|true=>rfl|false=>exact absurd (.inl e) b
 cases e:m.left (bB v)with|false=>rfl|true=>exact absurd (.inr e) b
theorem aaG(m:dB)(lp B:Nat)(w:World)(h:iR w B lp m)(v:EvM)(C:jQ v)(A:W9 m)(q:1<=B)(i:gF w 0 0 8 vX) :
 Calls Tryd.prog 29 #[(pt lp),.agg (aA 14 (dF v))] w fun e w'=>e = .returned (au (bF m v))/\Below w.heap.size w w':=by
 have s:=h.c
 have K:=h.t
 have x:=h.p
 have y:=h.r
 have u:=h.g
 have o:=h.a
 have J:=h.ne
 have N:=h.c.lt
 have R:=h.t.lt
 have P:=h.p.lt
 have Q:=h.r.lt
 have O:=h.g.lt
 have M:=h.a.lt
 refine Kent Tryd.func29 14 ?_
 refine ay<|rG fun n w1 b k E z1 => ?_
 have⟨D,f⟩:=gU E.old i (Below.refl w.heap.size w)
 have S:=gK b
 have⟨T,U,V,W,X⟩:=ug b s.lt x.lt y.lt u.lt o.lt
 have Y:0≠n:=by rw[b]; exact Nat.ne_of_lt (i.lt (by omega))
 have Z:=k.lt
 refine av (au 0)<|aD<|ay<|av ((pt lp))<|Lv (.agg (aA 14 (dF v))) (jh k.aK 0)<|ko (Iu m lp B _ (h.up f) v C A q D) ?_
 rintro G w2 ⟨⟨d,H,F,j,L,I⟩,z⟩
 refine⟨_,j,?_⟩
 clear j
 have l:=aR z f
 refine av (.tuple #[d,au (bF m v)])<|av (d)<|av (au (bF m v))<|av (d)<|av (au (bF m v))<|aD<|ay<|av (au (bF m v))<|av (au (bF m v))<|aD<|Wr<|aM (au (bF m v)) ?_
 exact⟨rfl,l⟩
theorem Pz(m:dB)(lp B:Nat)(w:World)(h:iR w B lp m)(v:EvM)(hwf:jQ v)(L:W9 m)(Y:1<=B)(H:gF w 0 0 8 vX) :
 Calls Tryd.prog 15 #[(pt lp),.agg (aA 14 (dF v))] w fun e w'=>e = .returned (au (bF m v))/\iR w' B lp (iN m v)/\iW (JD m lp w.heap.size) w w':=by
 have E:=h.c
 have hT:=h.t
 have hP:=h.p
 have hR:=h.r
 have hG:=h.g
 have X:=h.a
 have hN:=h.ne
 have lC:=h.c.lt
 have lT:=h.t.lt
 have lP:=h.p.lt
 have lR:=h.r.lt
 have lG:=h.g.lt
 have lA:=h.a.lt
 refine Kent Tryd.func15 30 ?_
 refine ay<|rG fun D w1 u C s1 z1 => ?_
 have⟨b,m8,j⟩:=kM s1.old E H (Below.refl w.heap.size w)
 have wY:=gK u
 have⟨mO,qF,uL,uM,uN⟩:=ug u E.lt hP.lt hR.lt hG.lt X.lt
 have Ng:0≠D:=by rw[u]; exact Nat.ne_of_lt (H.lt (by omega))
 have xK:=C.lt
 refine av (au 0)<|aD<|ay<|av ((pt lp))<|Lv (.agg (aA 14 (dF v))) (jh C.aK 0)<|ko (Iu m lp B _ (h.up j) v hwf L Y m8) ?_
 rintro U w2 ⟨⟨y,W,T,i,ho1,Z⟩,hb1⟩
 refine⟨_,i,?_⟩
 clear i
 have⟨N,l⟩:=gU hb1 C j
 refine av (.tuple #[y,au (bF m v)])<|av (y)<|av (au (bF m v))<|av (y)<|av (au (bF m v))<|aD<|Ws<|ay<|av (au (bF m v)) ?_
 by_cases d:(bF m v)=0
 ·refine Lv aF (ng d)<|aD<|aN<|Wk<|sN<|Ws ?_
  have z:=Z d
  have hfe:=z.e
  subst hfe
  refine Wl<|av (.func (.func W) #[] T)<|tL (by rfl) (Fx.H9 (args := []) rfl rfl rfl (by simp) z.f) rfl<|(z.s _ (Below.refl _ _)).mono ?_
  rintro U n ⟨i,A,F⟩
  refine⟨_,i,?_⟩
  clear i
  have I:iW (JD m lp w.heap.size) w n:=(Fx.iW.of_below l) |> fun q=>Fx.iW.trans _ _ _ q (F.mono fun k hk=>hk.imp id (Nat.le_trans j.size))
  obtain⟨b,x⟩ : ∃ q,q=gP m v:=⟨_,rfl⟩
  rw[<- x]at A
  have V:b.known=m.known:=by rw[x,EF]
  have G:=A.c
  have lC2:=G.lt
  have hkb:=(wR d).1
  have M:=qJ d
  obtain⟨a,J,ho⟩ : ∃ a:Nat,a<6/\v.o=(a:Int)+1:=dV (iI M)
  have hra:bB v=a:=by unfold bB; omega
  have hbd:=lW M
  have hka:=L.kn a J
  have O:=(h.up l).Cw (w':=n) (N) (by decide) F (by have:=N.lt; have:=j.size; omega)
  have agN:=O.lt
  refine aD<|Ws ?_
  -- region 5 draws
  refine jP [0,1,4,5,9,10,2,3,6,7,8,11,12] [0,0,4,0,0,0,0,4,0,0,0,0,3] [(12,2,[2]),(12,7,[7])] fun rZ K iF => ?_
  have s3:Stp n.heap.size n rZ:=Sb K
  have⟨P,m19,m20⟩:=kM K G A O
  have R:=I.then s3 (.inr I.size)
  refine aW ((pt lp))<|aW ((pt D))<|aW ((pt lp))<|aW ((pf lp 12))<|aW ((pt lp))<|aW ((pf lp 12))<|Rs (au v.o) (aP m20.aK 0) ?_
  refine Rp (au a) (fun _=>jc)<|Rp ((pf lp (a+12))) (fun _=>xH 6 1)<|Rs (aC (b.known a)) (aP P.aK (a+12) (kZ (p:=a) (by omega) (by omega))) ?_
  refine Rp (aC (b.known a+1)) (fun v1=>Fx.Qu rfl rfl rfl (jl (by rw[V]; omega) rfl))<|Rp ((pf lp (a+12))) (fun _=>xH 6 1)<|gG<|nk P (a+12) (aC (b.known a+1)) fun w4 m21 Q z2 => ?_
  have m22:aL w4 lp 29 (nW { b with known:=aY b.known a (b.known a+1) }) 59:=m21.to (JC J (by omega) _)
  have S:=R.then Q (.inl (.inl (.inl rfl)))
  refine Ln (bG (ay (av (au 0) (aD (Wr (aM (au 0) (⟨by rw[d],?_,S⟩)))))))
  rw[show iN m v = { b with known:=aY b.known a (b.known a+1) } by unfold iN; rw[if_pos d,<- x,hra]]
  exact m19.known Q m22
 refine Lv aG (qg d) (aD (aQ (ay (av (au (bF m v)) (av (au (bF m v)) (aD (Wr (sR (aM (au (bF m v)) (⟨rfl,?_,Fx.iW.of_below l⟩))))))))))
 rw[show iN m v=m by unfold iN; exact if_neg d]; exact h.up l
set_option maxRecDepth 20000
set_option linter.unusedVariables false
namespace Rt
def tH(k f c d e b a:Nat):dB := { inn:=fun i=>decide (i<k),left:=fun _=>false,known:=fun _=>0,own:=fun _=>0,T:=cO.zero,R:=fun _ _=>0,gn:=0,g:=fun _ _=>0,an:=0,ao:=fun _=>0,ar:=fun _=>0,tp:=f,mb:=c,pb:=d,rb:=e,gb:=b,ab:=a }
end Rt
theorem Nv(k g c d f b a:Nat)(h:k<6):fH (nW (tH k g c d f b a)) k (.bool true)=nW (tH (k+1) g c d f b a):=by
 rw[Mj h]
 have:aY (tH k g c d f b a).inn k true=(tH (k+1) g c d f b a).inn:=by
  funext i
  show(if i=k then true else decide (i<k))=decide (i<k+1)
  by_cases e:i=k
  ·subst e; rw[if_pos rfl]; exact(decide_eq_true (by omega)).symm
  ·rw[if_neg e]; exact decide_eq_decide.2 (by omega)
 show nW { tH k g c d f b a with inn:=_ }=_
 rw[this]; rfl
theorem PD(m:dB)(lp B:Nat)(w:World)(h:iR w B lp m) :
 Calls Tryd.prog 25 #[(pt lp)] w fun e w'=>e = .returned (.agg (aA 6 (rv .u64 m.known)))/\Below w.heap.size w w':=by
 have f:=h.c
 have E:=h.t
 have q:=h.p
 have s:=h.r
 have o:=h.g
 have n:=h.a
 have D:=h.ne
 have H:=h.c.lt
 have L:=h.t.lt
 have J:=h.p.lt
 have K:=h.r.lt
 have I:=h.g.lt
 have G:=h.a.lt
 refine Kent Tryd.func25 10 ?_
 refine ay<|wT (m:=6) (y:=rv .u64 (fun _=>0)) (by rfl) rfl (by kernel_rfl) rfl fun l T d i z U => ?_
 have⟨u,b⟩:=gU z.old f (Below.refl w.heap.size w)
 have M:=gK d
 have⟨N,O,P,Q,R⟩:=ug d f.lt q.lt s.lt o.lt n.lt
 have S:=i.lt
 refine aD<|Ws<|ay<|av ((pt lp))<|Lv aF (Fx.jF rfl rfl rfl (by kernel_rfl))<|aD<|aN<|Wk<|sN<|ay<|av ((pt lp))<|av ((pt lp))<|av ((pf lp 12))<|Lv (.agg (aA 6 (rv .u64 m.known))) (jh u.aK 12 (fun j F=>kZ (p:=j) (by omega) (by omega)))<|fI i 0 fun C v A V => ?_
 have x:aL C l 6 (rv .u64 m.known) 31:=aO v
 have k:=A.below b b.size (by omega)
 refine aD (Wr (⟨.agg (aA 6 (rv .u64 m.known)),rV Tryd.results25 ⟨_,rfl,aT x.aK (by kernel_rfl) (by kernel_rfl)⟩,?_⟩))
 exact⟨rfl,k⟩
theorem PE(m:dB)(lp B:Nat)(w:World)(h:iR w B lp m)(i b:Int)(hi : -9223372036854775808<=i/\i<=9223372036854775807) :
 Calls Tryd.prog 12 #[(pt lp),au i,aC b] w fun e w'=>e = .returned (au (dQ (kF m b) i))/\Below w.heap.size w w':=by
 have u:=h.c
 have F:=h.t
 have E:=h.p
 have l:=h.r
 have C:=h.g
 have A:=h.a
 have D:=h.ne
 have H:=h.c.lt
 have L:=h.t.lt
 have J:=h.p.lt
 have K:=h.r.lt
 have I:=h.g.lt
 have G:=h.a.lt
 refine Kent Tryd.func12 17 ?_
 refine ay<|av (au 0)<|aD<|Ws<|ay<|av ((pt lp))<|Lv aF (Fx.jF rfl rfl rfl (by kernel_rfl))<|aD<|aN<|Wk<|sN<|ay<|av ((pt lp))<|av ((pt lp))<|av ((pf lp 20))<|Lv (.map (some m.rb)) (aP u.aK 20)<|av (aC b) ?_
 rcases Fx.lM m.T.x m.T.n b with ⟨d,k,f⟩|gu
 ·refine Lv (.agg (aA 54 (rv .i64 (m.R d)))) (Fx.oD (z := .agg (aA 54 (rv .i64 (fun _=>0)))) rfl rfl rfl l Tryd.underlying54 Tryd.underlying29 (by kernel_rfl) k f rfl)<|av (au i)<|fC (oM (m.R d) i _ hi) _ rfl ?_
  intro M v
  have o:=aR v (Below.refl w.heap.size w)
  refine av (au (dQ (m.R d) i))<|aD<|Wr<|aM (au (dQ (m.R d) i)) ?_
  have j:kF m b=m.R d:=by unfold kF wP; rw[if_pos (show m.T.has b=true from gL k f),show m.idx b=d from ji h.t.inv.inj k f]
  exact⟨congrArg (fun q=>Ending.returned (Value.int .i64 (dQ q i))) j.symm,o⟩
 refine Lv (.agg (aA 54 (rv .i64 (fun _=>0)))) (Fx.GY (z := .agg (aA 54 (rv .i64 (fun _=>0)))) rfl rfl rfl l Tryd.underlying54 Tryd.underlying29 (by kernel_rfl) gu)<|av (au i)<|fC (oM (fun _=>0) i _ hi) _ rfl ?_
 intro N y
 have s:=aR y (Below.refl w.heap.size w)
 refine av (au (dQ (fun _=>0) i))<|aD<|Wr<|aM (au (dQ (fun _=>0) i)) ?_
 have j:kF m b=Iw:=by unfold kF; exact if_neg (by rw[show m.T.has b=false from qM gu]; decide)
 exact⟨congrArg (fun q=>Ending.returned (Value.int .i64 (dQ q i))) j.symm,s⟩
-- (*ledger.Ledger).Path is not in this seat
-- (*ledger.Ledger).Path is not in this seat
theorem Xc(k:Nat)(hk:1<=k/\k<=6)(w:World) :
 Calls Tryd.prog 6 #[au ((k:Int))] w fun e w' => ∃ lp m,e = .returned (.tuple #[(pt lp),au 0])/\(∃ tp mb pb rb gb ab,m=tH k tp mb pb rb gb ab)/\iR w' w.heap.size lp m/\Below w.heap.size w w':=by
 refine Kent Tryd.func6 30 ?_
 refine ay<|av (.pointer none)<|av (au 0)<|aD<|Ws<|ay<|av (au k)<|Lv aF Dp<|av aF<|av (au k)<|Lv aF rU<|av aF<|aD<|aN<|Wk<|sN<|ay<|ko (Q6 _) ?_
 rintro e9 w1 ⟨n,x,V,hg1,W,hb1⟩
 refine⟨_,V,?_⟩
 clear V
 have J:=aR hb1 (Below.refl w.heap.size w)
 have m2:lQ w1 (w.heap.size) n x cO.zero:=W.weak (Below.refl w.heap.size w).size
 clear W hg1
 refine Fx.L.Dt (by rfl) rfl rfl fun o w2 Q G s2 z1 => ?_
 have⟨m4,K⟩:=gU s2.old m2 J
 have wY:=iC Q J.size
 have UN:=bS Q m2.lt
 have xK:=G.lt
 refine Fx.L.Dt (by rfl) rfl rfl fun q w3 R H s3 z2 => ?_
 have⟨m6,m7,M⟩:=kM s3.old m4 G K
 have zN:=iC R K.size
 have⟨UO,Rf⟩:=rH R m4.lt G.lt
 have Cg:=H.lt
 refine Fx.L.KE (by rfl) rfl rfl fun s w4 S I s4 z3 => ?_
 have⟨m9,X,Y,N⟩:=jH s4.old m6 m7 H M
 have G6:=iC S M.size
 have⟨UQ,aaH,Nt⟩:=BQ S m6.lt m7.lt H.lt
 have Ie:=I.lt
 refine Fx.L.KE (by rfl) rfl rfl fun u w5 T E s5 z4 => ?_
 have⟨m13,Z,aa,ac,O⟩:=mF s5.old m9 X Y I N
 have J2:=iC T N.size
 have⟨UR,UG,Nu,Gp⟩:=I8 T m9.lt X.lt Y.lt I.lt
 have JG:=E.lt
 refine av (.agg (aA 29 (bE (bE (bE (bE (bE (fun d=>if d<12 then .bool false else if d<18 then aC 0 else if d<19 then .pointer none else if d<21 then .map none else if d<27 then au 0 else .map none) 18 1 (fun _=>(pt n))) 19 1 (fun _ => .map (some o))) 20 1 (fun _ => .map (some q))) 27 1 (fun _ => .map (some s))) 28 1 (fun _ => .map (some u)))))<|zT (m:=29) (y:=bE (bE (bE (bE (bE (fun d=>if d<12 then .bool false else if d<18 then aC 0 else if d<19 then .pointer none else if d<21 then .map none else if d<27 then au 0 else .map none) 18 1 (fun _=>(pt n))) 19 1 (fun _ => .map (some o))) 20 1 (fun _ => .map (some q))) 27 1 (fun _ => .map (some s))) 28 1 (fun _ => .map (some u))) (by rfl) rfl rfl (bD _ _) rfl fun b w6 U ad s6 z5 => ?_
 have⟨m18,m19,m20,m21,m22,b6⟩:=vv s6.old m13 Z aa ac E O
 have UH:=iC U O.size
 have⟨aaI,aaJ,aaK,aaL⟩:=I8 U Z.lt aa.lt ac.lt E.lt
 have WZ:=ad.lt
 have l:QlN (tH 0 n x o q s u):=⟨UN,UO,UQ,UR,by assumption,by assumption,by assumption,by assumption,by assumption,by assumption⟩
 have m23:aL w6 b 29 (nW (tH 0 n x o q s u)) 59:=ad.congr (fun j hj=>match j,hj with|0,_=>rfl|1,_=>rfl|2,_=>rfl|3,_=>rfl|4,_=>rfl|5,_=>rfl|6,_=>rfl|7,_=>rfl|8,_=>rfl|9,_=>rfl|10,_=>rfl|11,_=>rfl|12,_=>rfl|13,_=>rfl|14,_=>rfl|15,_=>rfl|16,_=>rfl|17,_=>rfl|18,_=>rfl|19,_=>rfl|20,_=>rfl|21,_=>rfl|22,_=>rfl|23,_=>rfl|24,_=>rfl|25,_=>rfl|26,_=>rfl|27,_=>rfl|28,_=>rfl|j+29,h=>absurd h (by omega))
 refine av ((pt b))<|aD<|Ws<|ay<|av (au k)<|av (au 0)<|aD<|Wb<|Wo (fun f z => ∃ i:Nat,i<=k/\f 4=(pt b)/\f 19=au ((k:Int))/\f 20=au ((i:Int))/\lQ z (w.heap.size) n x cO.zero/\Mp z o 0 (fun _=>0) (fun _ => .pointer none)/\Mp z q 0 (fun _=>0) (fun _ => .pointer none)/\fq z s 0 (fun _=>0) (fun _=>0) (fun _ => .pointer none)/\fq z u 0 (fun _=>0) (fun _=>0) (fun _ => .pointer none)/\aL z b 29 (nW (tH i n x o q s u)) 59/\Below w.heap.size w z) (fun f _=>((k:Int)-intOf (f 20)).toNat) ⟨0,(by omega),(by rfl),Fx.ic,Fx.ic,m18,m19,m20,m21,m22,m23,b6⟩ ?_
 rintro f1 w7 ⟨i,v,C,D,A,m24,sD,rM,sQ,uX,F,B⟩
 refine ay ?_
 by_cases P:(i:Int)<(k:Int)
 ·refine Lv aG (mD P (hx:=A) (hy:=D))<|aD<|Ws<|aQ<|Wk<|sN<|Ws<|Wb<|ay<|aZ A<|av (au i)<|aD<|Wl<|aZ C<|av (au i)<|av ((pt b))<|av ((pt b))<|Lv ((pf b i)) (xH 6 1)<|nk F i aG fun w8 uY s7 z6 => ?_
  have mP:aL w8 b 29 (nW (tH (i+1) n x o q s u)) 59:=uY.to (Nv i _ _ _ _ _ _ (by omega))
  have iD:=iB s7 F.ty
  have⟨m32,oK,nZ,qP,qQ⟩:=Ky iD m24 sD rM sQ uX
  have b8:=s7.below B B.size (by omega)
  refine Ln<|dA<|sN<|Wl<|Lv (au ((i:Int)+1)) (gV (hx:=A))<|av (au ((i:Int)+1))<|Ln<|iT ⟨i+1,(by omega),C,(D.trans Fx.ic),Fx.ic,m32,oK,nZ,qP,qQ,mP,b8⟩ ?_
  show((k:Int)-intOf ((au ((i:Int)+1)))).toNat<_
  simp only[A,intOf]; omega
 refine Lv aF (mE P (hx:=A) (hy:=D))<|aD<|Ws<|aN<|Wx<|cZ<|iE<|dh<|sN<|ay<|aZ C<|av ((pt b))<|av (au 0)<|aD<|Wr<|aM (.tuple #[(pt b),au 0]) ?_
 have eik:i=k:=by omega
 subst eik
 exact⟨b,tH i n x o q s u,rfl,⟨_,_,_,_,_,_,rfl⟩,{ c:=F,t:=m24,p:=sD.nM fun i v=>absurd v (Nat.not_lt_zero _),r:=rM.nM fun i v=>absurd v (Nat.not_lt_zero _),g:=sQ.nM fun i v=>absurd v (Nat.not_lt_zero _),a:=uX.nM fun i v=>absurd v (Nat.not_lt_zero _),ne:=⟨l.mp,l.mr,l.mg,l.ma,l.pr,l.pg,l.pa,l.rg,l.ra,l.ga⟩,lB:=UH,pB:=wY,rB:=zN,gB:=G6,aB:=J2 },B⟩
end Go.Proofs.YtcbedgfikejkoaaDoor
namespace Go.Proofs.YtcbedgfikejkoaaDoor.Fx
open Go.RowKit Go.Shelf Go.Sort Go.Lib
def iJ(a b:Int):Int:=if a<b then -1 else if b<a then 1 else 0
theorem Iy(a b:Int):iJ a b<0<->a<b:=by
 unfold iJ
 split
 ·simp_all
 split <;> simp_all
theorem PG{c:Type}(ky:c->Int):SWO (ltOf fun x y=>iJ (ky x) (ky y)):=by
 have e : ∀ x y,(ltOf fun x y=>iJ (ky x) (ky y)) x y=decide (ky x<ky y):=fun x y=>by
  unfold ltOf
  exact decide_eq_decide.2 (Iy _ _)
 refine⟨fun x => ?_,fun x y z a b => ?_,fun x y z a b => ?_⟩ <;> simp only[e,decide_eq_true_eq,decide_eq_false_iff_not]at * <;> omega
end Go.Proofs.YtcbedgfikejkoaaDoor.Fx
namespace Go.Proofs.YtcbedgfikejkoaaDoor.Fx
open Go.RowKit Go.Shelf Go.Sort Go.Lib
theorem EG{w:World}{B g cap m N s:Nat}{E:TypeId}(a:Array Value)(os:Array Obj){x:Nat->Value}(h:Own w B E s (.slice (some ⟨g,0,none⟩) m cap) m x)(f:a.size=m*s) :
 Own (sortWorld id w g 0 N a os) B E s (.slice (some ⟨g,0,none⟩) m cap) m (fun q=>a[q]!)/\Stp g w (sortWorld id w g 0 N a os):=by
 rcases h.2 with ⟨b,_⟩|⟨g',cap',cur,b,hB,hg,hn,hm,hs,ht⟩
 ·cases b
 simp only[Value.slice.injEq,Option.some.injEq,Addr.mk.injEq]at b
 obtain⟨⟨rfl,_⟩,_,rfl⟩:=b
 have n:g<w.heap.size:=(Array.getElem?_eq_some_iff.1 hg).1
 have d:(sortWorld id w g 0 N a os).heap=(w.heap.modify g (onCells (putCells id 0 a)))++os:=rfl
 have e : ∀ k,k<w.heap.size->(sortWorld id w g 0 N a os).heap[k]? = (w.heap.modify g (onCells (putCells id 0 a)))[k]? := fun k c=>by
  rw[d,Array.getElem?_append_left (by simpa using c)]
 have p:m*s<=cap*s:=Nat.mul_le_mul_right s hn
 refine⟨⟨by simp,.inr ⟨g,cap,putCells id 0 a cur,rfl,hB,?_,hn,hm,?_,?_⟩⟩,⟨rfl,rfl,rfl,by rw[d]; simp,fun k c o => ?_⟩⟩
 ·rw[e g n,Array.getElem?_modify,if_pos rfl,hg]; rfl
 ·simp[putCells,hs]
 ·apply List.ext_getElem?
  intro i
  by_cases j:i<m*s
  ·have l:i<cur.size:=by omega
   rw[List.getElem?_take_of_lt (by omega),Array.getElem?_toList]
   unfold putCells
   rw[Array.getElem?_mapIdx,Array.getElem?_eq_getElem l]
   simp[j,f]
  rw[List.getElem?_eq_none (by simp; omega),List.getElem?_eq_none (by simp; omega)]
 rw[e k c,Array.getElem?_modify,if_neg (Ne.symm o)]
theorem Gq{w:World}{B g cap m s:Nat}{E:TypeId}(d:Array Value){x:Nat->Value}(h:Own w B E s (.slice (some ⟨g,0,none⟩) m cap) m x)(n:d.size=m*s)(hx : ∀ q,q<m*s->x q=d[q]!)(i:0<m) :
 Holds id w g 0 d/\g<w.heap.size:=by
 obtain⟨l,k,e,_,f,_,c⟩:=h.form i
 rcases h.2 with ⟨a,_⟩|⟨g2,cap2,cur,a,hB,hg,hn,hm,hs,ht⟩
 ·cases a
 simp only[Value.slice.injEq,Option.some.injEq,Addr.mk.injEq]at a e
 obtain⟨⟨rfl,_⟩,_,rfl⟩:=a
 obtain⟨⟨rfl,_⟩,_,rfl⟩:=e
 refine⟨fun j o=>⟨?_,?_⟩,f⟩
 ·have b:=c j (by omega)
  rw[b,hx j (by omega)]; rfl
 simp[World.frozen?,hg]
theorem Bq{a:Type} [Inhabited a]{s:Nat}{enc:a->Nat->Value}{e0:a}{l:List a}(f:0<s) : ∀ q,q<l.length*s->flat s (fun k=>enc (l.getD k e0)) q=(Go.Sort.flatK (fun x=>(List.range s).map (enc x)) s l.toArray)[q]! := fun q b=>by
 have d:q / s<l.length:=Nat.div_lt_of_lt_mul (by rw[Nat.mul_comm]; exact b)
 have e:q % s<s:=Nat.mod_lt _ f
 rw[Go.Sort.get_flatK _ _ _ q (by simpa using b)]
 unfold flat
 have c:l.toArray[q / s]! = l.getD (q / s) e0:=by simp[d]
 rw[c]
 simp[e]
theorem Nw{P:Program}{ρ:Ren}(H:SlLaysF0.n6 P ρ){o:Nat}(T : ∀ I w,(callFunc o I).run P w = .ok (.enter o I) w){w:World}{B cap s:Nat}{a:Option Addr}{E:TypeId}(K:0<s)
 (R : ∀ w,(isAgg (ρ.t 24)).run P w = .ok true w) (zE : ∀ w,(Go.sizeOf (ρ.t 24)).run P w = .ok s w) {n:Type} [Inhabited n] {enc:n->Nat->Value} {e0:n} (h1 : ∀ x j,j<s->(enc x j).oneCell'=true) {ky:n->Int} {l:List n}
 (h:Own w B E s (.slice a l.length cap) l.length (flat s fun q=>enc (l.getD q e0)))
 (X : ∀ M x y,Calls P o #[.agg (aA s (enc x)),.agg (aA s (enc y))] M fun e w'=>e = .returned (.int .i64 (iJ (ky x) (ky y))) /\ ∃ q os',w'=grow (M.drewN q) os') (hm:l.length<4611686018427387904) :
 Calls P (ρ.f 6) #[.slice a l.length cap,.func (.func o) #[] #[]] w fun e w'=>e = .returned (.tuple #[]) /\ ∃ G:List n,G.Perm l/\G.Pairwise (fun x y=>ky x<=ky y)/\Own w' B E s (.slice a l.length cap) l.length (flat s fun q=>enc (G.getD q e0))/\(∀ k,k<w.heap.size->(Value.slice a l.length cap).ownBlock≠some k->w'.heap[k]? = w.heap[k]?)/\jD [E] w w'/\Below B w w':=by
 by_cases U:l.length=0
 ·have D:l = []:=List.length_eq_zero_iff.1 U
  subst D
  refine(AnyF.slices_SortFunc_none H a cap _ w).mono ?_
  rintro e w' ⟨C,rfl⟩
  exact⟨C,[],List.Perm.refl _,List.Pairwise.nil,h,fun _ _ _=>rfl,zW _,Below.refl _ _⟩
 obtain⟨g,c2,r,hB,hg,hmc,_⟩:=h.form (by omega)
 simp only[Value.slice.injEq]at r
 obtain⟨rfl,_,rfl⟩:=r
 have z : ∀ x,((fun x=>(List.range s).map (enc x)) x).length=s:=fun x=>by simp
 have hsz:(Go.Sort.flatK (fun x=>(List.range s).map (enc x)) s l.toArray).size=l.length*s:=by simp
 obtain⟨W,D⟩:=Gq _ h hsz (Bq K) (by omega)
 have hty:Ty w g E:=h.ty rfl
 have A : ∀ x,((List.range s).map (enc x)).toArray=aA s (enc x):=fun x=>by
  apply Array.ext
  ·simp[aV]
  ·intro i h1 V
   have d:i<s:=by simpa using h1
   have:=dP (enc x) d
   rw[Array.getElem?_eq_getElem V]at this
   rw[Option.some.inj this]; simp
 have J:=AnyQ.slices_SortFunc H s R zE (fun x=>(List.range s).map (enc x)) z (fun x v A=>by
  obtain⟨j,u,rfl⟩:=List.mem_map.1 A
  exact h1 x j (List.mem_range.1 u)) (fun x y=>iJ (ky x) (ky y)) (PG _) o #[] g 0 cap l.toArray w T
  (fun N p dk hdk x y=>by rw[A,A]; exact X _ x y) W D (by simpa using hm)
 rw[show l.toArray.size=l.length by simp]at J
 refine J.mono ?_
 rintro e w' ⟨C,b,N,p,⟨m,_,L⟩,hso,rfl⟩
 have m:b.size=l.length:=by simpa using m
 have hw:sortWorldK (fun x=>(List.range s).map (enc x)) s w g 0 N b p=sortWorld id w g 0 N (Go.Sort.flatK (fun x=>(List.range s).map (enc x)) s b) p:=rfl
 rw[hw]
 obtain⟨o1,c⟩:=EG (N:=N) (Go.Sort.flatK (fun x=>(List.range s).map (enc x)) s b) p h (by simp[m])
 have r:(b.extract 0 l.length).toList=b.toList:=by
  rw[<- m]; simp
 have S:(l.toArray.extract 0 l.length).toList=l:=by simp
 rw[r,S]at L
 refine⟨C,b.toList,L,?_,?_,fun k z hne=>c.block k z (fun e=>hne (by rw[e]; rfl)),iB c hty,⟨c.os,c.tape,c.output,c.size,fun k z=>c.block k (by omega) (by omega)⟩⟩
 ·rw[List.pairwise_iff_getElem]
  intro i j Y u Z
  have d:=hso i j (Nat.zero_le _) Z (by rw[<- m]; simpa using u)
  unfold ltOf at d
  rw[decide_eq_false_iff_not,Iy]at d
  have O:b[i]! = b.toList[i]:=by rw[getElem!_pos b i (by simpa using Y)]; simp
  have Q:b[j]! = b.toList[j]:=by rw[getElem!_pos b j (by simpa using u)]; simp
  rw[O,Q]at d
  exact Int.not_lt.1 d
 have:=fun q (F:q<l.length*s)=>Bq (enc:=enc) (e0:=e0) (l:=b.toList) K q (by simpa [m] using F)
 have o3:Own (sortWorld id w g 0 N (Go.Sort.flatK (fun x=>(List.range s).map (enc x)) s b) p) B E s (.slice (some ⟨g,0,none⟩) l.length cap) l.length (flat s fun q=>enc (b.toList.getD q e0)):=o1.congr fun q F=>by
  have:=this q F
  simp only[Array.toArray_toList]at this
  exact this.symm
 exact o3
end Go.Proofs.YtcbedgfikejkoaaDoor.Fx
namespace Go.Proofs.YtcbedgfikejkoaaDoor
open Go.Shelf
def JO:Go.Shelf.Ren:=⟨fun|6=>17|15=>34|14=>33|28=>53|29=>54|20=>45|21=>46|22=>47|23=>48|24=>49|25=>50|26=>51|27=>52|46=>62|47=>63|48=>64|49=>65|50=>66|57=>81|n=>n,fun|22=>41|24=>72|25=>77|3=>3|39=>96|0=>0|53=>117|55=>29|4=>4|46=>110|45=>109|50=>114|5=>5|9=>9|66=>128|70=>132|76=>142|77=>143|n=>n,fun|n=>n⟩
theorem Xd:Go.Proofs.SlLaysF0.n6 Tryd.prog JO := {
 mixed:=by kernel_rfl
 f6:=⟨Tryd.f17.name,by decide,Tryd.func17.trans (congrArg some (by kernel_rfl))⟩
 f14:=⟨Tryd.f33.name,by decide,Tryd.func33.trans (congrArg some (by kernel_rfl))⟩
 f15:=Tryd.func34.trans (congrArg some (by kernel_rfl))
 f20:=⟨Tryd.f45.name,by decide,Tryd.func45.trans (congrArg some (by kernel_rfl))⟩
 f21:=⟨Tryd.f46.name,by decide,Tryd.func46.trans (congrArg some (by kernel_rfl))⟩
 f22:=⟨Tryd.f47.name,by decide,Tryd.func47.trans (congrArg some (by kernel_rfl))⟩
 f23:=⟨Tryd.f48.name,by decide,Tryd.func48.trans (congrArg some (by kernel_rfl))⟩
 f24:=⟨Tryd.f49.name,by decide,Tryd.func49.trans (congrArg some (by kernel_rfl))⟩
 f25:=⟨Tryd.f50.name,by decide,Tryd.func50.trans (congrArg some (by kernel_rfl))⟩
 f26:=⟨Tryd.f51.name,by decide,Tryd.func51.trans (congrArg some (by kernel_rfl))⟩
 f27:=⟨Tryd.f52.name,by decide,Tryd.func52.trans (congrArg some (by kernel_rfl))⟩
 f28:=Tryd.func53.trans (congrArg some (by kernel_rfl))
 f29:=Tryd.func54.trans (congrArg some (by kernel_rfl))
 f46:=⟨Tryd.f62.name,by decide,Tryd.func62.trans (congrArg some (by kernel_rfl))⟩
 f47:=Tryd.func63.trans (congrArg some (by kernel_rfl))
 f48:=Tryd.func64.trans (congrArg some (by kernel_rfl))
 f49:=⟨Tryd.f65.name,by decide,Tryd.func65.trans (congrArg some (by kernel_rfl))⟩
 f50:=⟨Tryd.f66.name,by decide,Tryd.func66.trans (congrArg some (by kernel_rfl))⟩
 f57:=⟨Tryd.f81.name,by decide,Tryd.func81.trans (congrArg some (by kernel_rfl))⟩
 t0:=Tryd.underlying0
 a0:=Tryd.isAgg0
 z0:=Tryd.sizeOf0
 v0:=Tryd.zeroValue0
 t3:=Tryd.underlying3
 a3:=Tryd.isAgg3
 z3:=Tryd.sizeOf3
 v3:=Tryd.zeroValue3
 t4:=Tryd.underlying4
 a4:=Tryd.isAgg4
 z4:=Tryd.sizeOf4
 v4:=Tryd.zeroValue4
 t5:=Tryd.underlying5
 a5:=Tryd.isAgg5
 z5:=Tryd.sizeOf5
 v5:=Tryd.zeroValue5
 t9:=Tryd.underlying9
 a9:=Tryd.isAgg9
 z9:=Tryd.sizeOf9
 v9:=Tryd.zeroValue9
 t22:=Tryd.underlying41
 a22:=Tryd.isAgg41
 z22:=Tryd.sizeOf41
 v22:=Tryd.zeroValue41
 t25:=Tryd.underlying77
 a25:=Tryd.isAgg77
 z25:=Tryd.sizeOf77
 v25:=Tryd.zeroValue77
 t39:=Tryd.underlying96
 a39:=Tryd.isAgg96
 z39:=Tryd.sizeOf96
 v39:=Tryd.zeroValue96
 t45:=Tryd.underlying109
 a45:=Tryd.isAgg109
 z45:=Tryd.sizeOf109
 v45:=Tryd.zeroValue109
 t46:=Tryd.underlying110
 a46:=Tryd.isAgg110
 z46:=Tryd.sizeOf110
 v46:=Tryd.zeroValue110
 t50:=Tryd.underlying114
 a50:=Tryd.isAgg114
 z50:=Tryd.sizeOf114
 v50:=Tryd.zeroValue114
 t53:=Tryd.underlying117
 a53:=Tryd.isAgg117
 z53:=Tryd.sizeOf117
 v53:=Tryd.zeroValue117
 t55:=Tryd.underlying29
 a55:=Tryd.isAgg29
 z55:=Tryd.sizeOf29
 v55:=Tryd.zeroValue29
 t66:=Tryd.underlying128
 a66:=Tryd.isAgg128
 z66:=Tryd.sizeOf128
 v66:=Tryd.zeroValue128
 t70:=Tryd.underlying132
 a70:=Tryd.isAgg132
 z70:=Tryd.sizeOf132
 v70:=Tryd.zeroValue132
 t76:=Tryd.underlying142
 a76:=Tryd.isAgg142
 z76:=Tryd.sizeOf142
 v76:=Tryd.zeroValue142
 t77:=Tryd.underlying143
 a77:=Tryd.isAgg143
 z77:=Tryd.sizeOf143
 v77:=Tryd.zeroValue143 }
end Go.Proofs.YtcbedgfikejkoaaDoor
namespace Go.Proofs.YtcbedgfikejkoaaDoor
open Go.RowKit Go.Sort Rt
set_option linter.unusedVariables false
set_option maxRecDepth 20000
namespace Fx
def PK(w w':World):Prop := ∃ q a,w'=grow (w.drewN q) a
theorem PK.refl(w:World):PK w w:=⟨0,#[],by rw[grow_empty]; rfl⟩
theorem PK.alloc{w a b:World}(h:PK w a)(z : ∃ o,b=a.alloc o):PK w b:=by
 obtain⟨q,c,rfl⟩:=h
 obtain⟨o,rfl⟩:=z
 exact⟨q,c ++ #[o],by rw[alloc_eq_grow,grow_grow]⟩
theorem PK.drew{w a b:World}(h:PK w a)(z:b=a.drew):PK w b:=by
 obtain⟨q,c,rfl⟩:=h
 subst z
 exact⟨q+1,c,rfl⟩
section
variable {P:Program} {n:Nat} {Q:Post} {f:Nat->Value} {w:World} {ops:Array Oper} {rest:List Oper} {o:Oper}
theorem L.Xe{T:TypeId}{x:Operand}{v:Value}{m:Nat}{y:Nat->Value}(e:Region.wanted o (yf ops f)=true)(c:o.op = .box T x)(hx:ev f x=v)(a:v.cells=aA m y)(b:inn n o.dst=true)
 (h : ∀ g w',g=w.heap.size->aL w' g m y T->Stp w.heap.size w w'->(∃ o,w'=w.alloc o)->L P n ops Q rest (put f o.dst (.pointer (some ⟨g,0,none⟩))) w'):L P n ops Q (o::rest) f w:=by
 have d:(execOp (ev f) o).run P w = .ok (.value (.pointer (some ⟨w.heap.size,0,none⟩))) (w.alloc (.cells v.cells T)):=by
  unfold execOp
  simp[c,hx,Instr.box,newVar,newRow]
 refine L.val e d b (h _ _ rfl ?_ (Stp.alloc _ _) ⟨_,rfl⟩)
 show(w.alloc _).heap[w.heap.size]? = _
 rw[alloc_at,if_pos rfl,a]
theorem L.PL{T E:TypeId}{len s:Nat}{k:List (Nat × Operand)}{vs:List (Nat × Value)}{zc y:Nat->Value}(H:Region.wanted o (yf ops f)=true)(A:o.op = .buildSlice T len k.toArray)(B:k.map (fun p=>(p.1,ev f p.2))=vs)(G:P.underlying T=some (.slice E))(d:(P.info? E).map (·.size)=some s)
 (m:Nat.ble (len*s) 16777216=true) (c:Nat.beq (len*s) 0=false) (I:((P.info? E).bind (·.zero)).map (·.cells)=some (aA s zc)) (t:Instr.fill (fun i=>some (i*s,s)) (aA (len*s) (fun j=>zc (j % s))) vs=some (aA (len*s) y)) (r:inn n o.dst=true)
 (h : ∀ g w',g=w.heap.size->aL w' g (len*s) y E->Stp w.heap.size w w'->(∃ o,w'=w.alloc o)->L P n ops Q rest (put f o.dst (.slice (some ⟨g,0,none⟩) len len)) w'):L P n ops Q (o::rest) f w:=by
 obtain⟨z,J,K⟩:=Option.map_eq_some_iff.1 I
 obtain⟨i,b,M⟩:=Option.bind_eq_some_iff.1 J
 have F:i.size=s:=by rw[b]at d; simpa using d
 have N : ¬ len*s>2^24:=by have:=Nat.le_of_ble_eq_true m; omega
 have a:len*s≠0:=fun e=>by rw[e]at c; exact absurd c (by decide)
 have D:0<s:=Nat.pos_of_ne_zero fun e=>a (by rw[e,Nat.mul_zero])
 have q:(Array.range (len*s)).map (fun j=>z.cells[j % z.cells.size]!)=aA (len*s) (fun j=>zc (j % s)):=by
  refine nJ (by simp) fun j v => ?_
  have x:j % s<s:=Nat.mod_lt _ D
  have u:=dP zc x
  rw[K]
  simp[v,aV]
  rw[getElem!_def,u]
 have C:(execOp (ev f) o).run P w = .ok (.value (.slice (some ⟨w.heap.size,0,none⟩) len len)) (w.alloc (.cells (aA (len*s) y) E)):=by
  unfold execOp
  simp only[A,List.map_toArray,B]
  unfold Instr.buildSlice
  have l : ¬ 16777216<len*s:=by omega
  simp[underlying,sizeOf,typeInfo,zeroValue,G,b,F,M,l]
  simp[a,q,t,newRow]
 refine L.val H C r (h _ _ rfl ?_ (Stp.alloc _ _) ⟨_,rfl⟩)
 show(w.alloc _).heap[w.heap.size]? = _
 rw[alloc_at,if_pos rfl]
end
section
variable {P:Program} {n:Nat} {ops:List Oper} {Q:Post}
theorem W.UU{f:Nat->Value}{w:World}{id:Nat}(l:List Nat)(cs:List Nat)(S:World->World->Prop)(j : ∀ w,S w w)(m : ∀ a b c,S a b->S b c->S a c)(dY:List (Nat × Nat × List Nat))(t:P.follows .mixedOrders=true)(u:iU n ops=true)(x:Region.noSelect ops.toArray=true)(e:sP ops l=true)(v:oq ops cs dY l=true)
 (h : ∀ g,Below w.heap.size w g->g=w.drew->R P n ops cs S Q l f g):W P n (.region id ops.toArray true) Q f w:=fun a o=>by
 refine wp_region_any t ?_
 unfold sP at e
 rw[Bool.and_eq_true,Bool.and_eq_true,Bool.and_eq_true,List.all_eq_true,List.all_eq_true]at e
 obtain⟨⟨⟨y,z⟩,p3⟩,p4⟩:=e
 have s:=Nat.eq_of_beq_eq_true y
 have A:l.Nodup:=of_decide_eq_true p3
 have:=R.any (P:=P) (Q:=Q) (dY:=dY) u x j m ops.length l (Array.replicate ops.length false) a f w.drew s (by simp) (CZ.start _ _ _) (fun i=>by
  have p : ∀ i,(Array.replicate ops.length false).getD i false=false:=fun i=>getD_replicate_false _ _
  constructor
  ·intro d; exact⟨by simpa [Nat.blt_eq] using z i d,p i⟩
  ·intro d
   obtain⟨k,q,r⟩:=List.any_eq_true.1 (p4 i (by simpa using d.1))
   rw[Nat.eq_of_beq_eq_true r]; exact q) A (ou v) o (h w.drew (Below.refl _ _).drew rfl)
 simpa using this
end
end Fx
namespace Rt
structure CW where
 x:Nat->Int
 h:0<=x 1/\x 1<=18446744073709551615
def g0:CW:=⟨fun _=>0,by decide⟩
instance:Inhabited CW:=⟨g0⟩
def Dh(x:Nat->Int):CW:=if h:0<=x 1/\x 1<=18446744073709551615 then⟨x,h⟩else g0
def EH(x:CW):Int:=x.x 0*18446744073709551616+x.x 1
theorem Rv{x:Nat->Int}(h:0<=x 1/\x 1<=18446744073709551615):(Dh x).x=x:=by unfold Dh; rw[dif_pos h]
def J7(a b:Int):Int:=if a=0 then b else a
def Gr(a b:Int)(i:Nat):Int:=if i=0 then a else b
def X5(a b:Int):Nat->Value:=fun j => .int .i64 (Gr a b j)
section
variable {a b:Int} {i:Nat}
theorem aaM(d:i=0\/a=0)(c:Gr a b i=0):i+1=0\/a=0:=by
 unfold Gr at c
 rcases d with rfl|e
 ·exact .inr (by simpa using c)
 exact .inr e
theorem aaN(d:i=0\/a=0)(c:Gr a b i=0):i+1<2\/J7 a b=0:=by
 unfold Gr at c
 by_cases e:i=0
 ·exact .inl (by omega)
 rw[if_neg e]at c
 rcases d with h|h
 ·exact absurd h e
 exact .inr (by unfold J7; rw[if_pos h]; exact c)
theorem aaO(d:i=0\/a=0)(c : ¬ Gr a b i=0):J7 a b=Gr a b i:=by
 unfold Gr at c ⊢
 unfold J7
 by_cases e:i=0
 ·rw[if_pos e]at c ⊢; rw[if_neg c]
 rw[if_neg e]
 rcases d with h|h
 ·exact absurd h e
 rw[if_pos h]
theorem aaP(h:i<2\/J7 a b=0)(c : ¬ (i:Int)<2):J7 a b=0:=by
 rcases h with h|h
 ·omega
 exact h
end
theorem UW(x y:CW):J7 (Fx.iJ (x.x 0) (y.x 0)) (Fx.iJ (x.x 1) (y.x 1))=Fx.iJ (EH x) (EH y):=by
 have a:=x.h
 have b:=y.h
 unfold J7 Fx.iJ EH
 repeat' split
 all_goals first|rfl|omega
structure JQ(n:Nat)(S:Nat->Bool)(il:List Nat):Prop where
 nd:il.Nodup
 mem : ∀ i,i∈il<->(i<n/\S i=true)
theorem JQ.start(n:Nat):JQ n (fun _=>false) []:=⟨List.nodup_nil,fun i=>⟨fun h=>(nomatch h),fun h=>(nomatch h.2)⟩⟩
theorem JQ.step{n i:Nat}{S:Nat->Bool}{c:List Nat}(h:JQ n S c)(hi:i<n)(l:S i=false):JQ n (Fx.aI S i true) (c ++ [i]):=by
 have k:i ∉ c:=fun g=>by have:=((h.mem i).1 g).2; rw[l]at this; cases this
 refine⟨List.nodup_append.2 ⟨h.nd,by simp,fun a f b d e => ?_⟩,fun j => ?_⟩
 ·rw[List.mem_singleton]at d; subst d; subst e; exact k f
 rw[List.mem_append,List.mem_singleton,h.mem]
 show _<->(j<n/\(if j=i then true else S j)=true)
 by_cases e:j=i
 ·subst e; rw[if_pos rfl]; exact⟨fun _=>⟨hi,rfl⟩,fun _ => .inr rfl⟩
 rw[if_neg e]; exact⟨fun h=>h.elim id fun h=>absurd h e,fun h => .inl h⟩
theorem JQ.len{n:Nat}{S:Nat->Bool}{c:List Nat}(h:JQ n S c):c.length<=n :=
 vT n c.length (fun q=>c.getD q 0) (fun q d=>by
  have:c.getD q 0∈c:=by rw[List.getD_eq_getElem?_getD,List.getElem?_eq_getElem d]; exact List.getElem_mem d
  exact((h.mem _).1 this).1) fun a b f g e=>by
  have e:c.getD a 0=c.getD b 0:=e
  rw[List.getD_eq_getElem?_getD,List.getD_eq_getElem?_getD,List.getElem?_eq_getElem f,List.getElem?_eq_getElem g]at e
  exact(List.getElem_inj h.nd).1 e
structure Xf(m:dB)(l:List CW):Prop where
 mem : ∀ x,x∈l -> ∃ i,i<m.gn/\x.x=m.g i
 all : ∀ i,i<m.gn -> ∃ x,x∈l/\x.x=m.g i
 up:l.Pairwise fun x y=>EH x<EH y
theorem Xf.of{m:dB}{w:World}{b:Nat}{t:List Nat}{l:List CW}{S:Nat->Bool}(o:Fx.fq w b m.gn (fun i=>m.g i 0) (fun i=>m.g i 1) (nC m.g))(hi:JQ m.gn S t)(z : ∀ i,i<m.gn->S i=true)(r:l.Perm (t.map fun i=>Dh (m.g i)))(B:l.Pairwise fun x y=>EH x<=EH y):Xf m l:=by
 have k : ∀ i,i<m.gn->(Dh (m.g i)).x=m.g i:=fun i hi=>Rv (o.ok hi).b
 have f : ∀ i,i∈t<->i<m.gn:=fun i=>by rw[hi.mem]; exact⟨fun h=>h.1,fun h=>⟨h,z i h⟩⟩
 have p : ∀ x,x∈l -> ∃ i,i<m.gn/\x=Dh (m.g i):=fun x s=>by
  obtain⟨i,c,d⟩:=List.mem_map.1 (r.mem_iff.1 s)
  exact⟨i,(f i).1 c,d.symm⟩
 have A:l.Nodup:=by
  rw[r.nodup_iff,List.nodup_iff_pairwise_ne,List.pairwise_map]
  refine(List.nodup_iff_pairwise_ne.1 hi.nd).imp_of_mem fun {a b} ha hb q e=>q ?_
  have c:=congrArg CW.x e
  rw[k a ((f a).1 ha),k b ((f b).1 hb)]at c
  exact o.inj a b ((f a).1 ha) ((f b).1 hb) (by show m.g a 0=m.g b 0; rw[c]) (by show m.g a 1=m.g b 1; rw[c])
 refine⟨fun x s => ?_,fun i c => ?_,?_⟩
 ·obtain⟨i,c,d⟩:=p x s
  exact⟨i,c,by rw[d,k i c]⟩
 ·exact⟨Dh (m.g i),r.mem_iff.2 (List.mem_map.2 ⟨i,(f i).2 c,rfl⟩),k i c⟩
 refine(B.and (List.nodup_iff_pairwise_ne.1 A)).imp_of_mem fun {a b} ha hb h => ?_
 obtain⟨i,c,u⟩:=p a ha
 obtain⟨j,d,v⟩:=p b hb
 have q:=h.2
 rcases Int.lt_or_eq_of_le h.1 with h3|h3
 ·exact h3
 exfalso
 have C:=a.h
 have D:=b.h
 unfold EH at h3
 refine q ?_
 have n:a.x 0=b.x 0/\a.x 1=b.x 1:=by omega
 rw[u,v,k i c,k j d]at n
 have:=o.inj i j c d n.1 n.2
 rw[u,v,this]
def Ny(m:dB)(l:List Int)(k:Nat):Nat->Value:=Ra (l.getD k 0) (m.T.par (l.getD k 0)) (wP m (l.getD k 0))
def Oc(l:List CW)(k:Nat):Nat->Value:=jE (l.getD k g0).x
theorem EI{id a:Int}{R:Nat->Int}{z:Nat->Value} : ∀ j,j<56->Fx.bE (Fx.bE (Fx.bE z 0 1 (fun _ => .int .u64 id)) 1 1 (fun _ => .int .u64 a)) 2 54 (Fx.rv .i64 R) j=Ra id a R j:=fun j b=>by
 unfold Fx.bE Ra
 rcases(show j=0\/j=1\/2<=j by omega)with rfl|rfl|h
 ·rfl
 ·rfl
 ·rw[if_pos (by omega),if_neg (by omega),if_neg (by omega)]; rfl
theorem PN{m:dB}{l:List Int}{n:Nat}{id b:Int}{R:Nat->Int}{z z2:Nat->Value}(c:l.getD n 0=id)(d:m.T.par id=b)(f:wP m id=R) : ∀ j,j<(n+1)*56->Fx.iQ (Fx.flat 56 (Ny m l)) (n*56) (Fx.bE z (0*56) 56 (Fx.bE (Fx.bE (Fx.bE z2 0 1 (fun _ => .int .u64 id)) 1 1 (fun _ => .int .u64 b)) 2 54 (Fx.rv .i64 R))) j=Fx.flat 56 (Ny m l) j:=fun j a =>
 (Fx.Dn j a).trans (Fx.bQ (fun k _ q g=>by
  unfold Fx.Kt
  by_cases e:k=n
  ·subst e; rw[if_pos rfl,EI q g]; unfold Ny; rw[c,d,f]
  ·rw[if_neg e]) j a)
theorem PO{g:Nat->Nat->Int}{a:List Nat}{i:Nat}{z:Nat->Value} : ∀ j,j<(a.length+1)*5->Fx.iQ (Fx.flat 5 fun k=>jE (g (a.getD k 0))) (a.length*5) (Fx.bE z (0*5) 5 (jE (g i))) j=Fx.flat 5 (fun k=>jE (g ((a ++ [i]).getD k 0))) j:=fun j b =>
 (Fx.Dn j b).trans (Fx.bQ (fun k c q _=>by
  unfold Fx.Kt
  by_cases e:k=a.length
  ·subst e; rw[if_pos rfl]; simp[List.getD_eq_getElem?_getD]
  ·rw[if_neg e]; show jE (g (a.getD k 0)) q=_; rw[List.getD_eq_getElem?_getD,List.getD_eq_getElem?_getD,List.getElem?_append_left (by omega)]) j b)
theorem PS{m:dB}{a:List Nat}{S:Nat->Bool}{w:World}{b:Nat}(d:Fx.fq w b m.gn (fun i=>m.g i 0) (fun i=>m.g i 1) (nC m.g))(hi:JQ m.gn S a) : ∀ j,j<(a.map fun i=>Dh (m.g i)).length*5->Fx.flat 5 (fun k=>jE (m.g (a.getD k 0))) j=Fx.flat 5 (Oc (a.map fun i=>Dh (m.g i))) j:=fun j f =>
 Fx.bQ (n:=(a.map fun i=>Dh (m.g i)).length) (fun k c q _=>by
  rw[List.length_map]at c
  unfold Oc
  have h:a.getD k 0∈a:=by rw[List.getD_eq_getElem?_getD,List.getElem?_eq_getElem c]; exact List.getElem_mem c
  have e:((a.map fun i=>Dh (m.g i)).getD k g0)=Dh (m.g (a.getD k 0)):=by
   rw[List.getD_eq_getElem?_getD,List.getD_eq_getElem?_getD,List.getElem?_eq_getElem (by rw[List.length_map]; exact c),List.getElem?_eq_getElem c,List.getElem_map]; rfl
  rw[e,Rv (d.ok ((hi.mem _).1 h).1).b]) j f
theorem JR(s:AX)(a:Option Addr)(n c:Nat):Fx.fH (wI s) 18 (.slice a n c)=wI { s with na:=a,nn:=n,nc:=c }:=by
 funext p
 unfold Fx.fH wI
 by_cases e:p=18
 ·subst e; rw[if_pos rfl,if_neg (by omega),if_neg (by omega),if_neg (by omega),if_pos rfl]
 rw[if_neg e]
 repeat' split
 all_goals first|rfl|omega
theorem Gs(s:AX)(a:Option Addr)(n c:Nat) : ∀ p,p<20->Fx.fH (wI s) 19 (.slice a n c) p=wI { s with ga:=a,gn:=n,gc:=c } p:=fun p b=>by
 unfold Fx.fH wI
 by_cases e:p=19
 ·subst e; rw[if_pos rfl,if_neg (by omega),if_neg (by omega),if_neg (by omega),if_neg (by omega)]
 ·rw[if_neg e]
  repeat' split
  all_goals first|rfl|omega
def Nz(m:dB)(d:Option Addr)(f e:Nat)(a:Option Addr)(c b:Nat):AX:=⟨m.inn,m.left,m.known,d,f,e,a,c,b⟩
theorem PU{id a:Int}{R:Nat->Int}{z z2:Nat->Value} : ∀ j,j<1*56->(Fx.bE z (0*56) 56 (Fx.bE (Fx.bE (Fx.bE z2 0 1 (fun _ => .int .u64 id)) 1 1 (fun _ => .int .u64 a)) 2 54 (Fx.rv .i64 R)) j).oneCell'=true:=fun j b=>by
 rw[show Fx.bE z (0*56) 56 (Fx.bE (Fx.bE (Fx.bE z2 0 1 (fun _ => .int .u64 id)) 1 1 (fun _ => .int .u64 a)) 2 54 (Fx.rv .i64 R)) j=Fx.bE (Fx.bE (Fx.bE z2 0 1 (fun _ => .int .u64 id)) 1 1 (fun _ => .int .u64 a)) 2 54 (Fx.rv .i64 R) (j-0*56) by unfold Fx.bE; rw[if_pos (by omega)],EI _ (by omega)]
 exact L8 _ _ _ _
theorem PV{x:Nat->Int}{z:Nat->Value} : ∀ j,j<1*5->(Fx.bE z (0*5) 5 (jE x) j).oneCell'=true:=fun j a=>by
 unfold Fx.bE; rw[if_pos (by omega)]; exact xP x _
theorem UY{m:dB}{c:List Nat}{S:Nat->Bool}{w f:World}{b B cap d:Nat}{a:Option Addr}{T:TypeId}(l:Fx.fq w b m.gn (fun i=>m.g i 0) (fun i=>m.g i 1) (nC m.g))(hi:JQ m.gn S c)(e:d=c.length)(n:Fx.Own f B T 5 (.slice a d cap) d (Fx.flat 5 fun k=>jE (m.g (c.getD k 0)))) :
 Fx.Own f B T 5 (.slice a (c.map fun i=>Dh (m.g i)).length cap) (c.map fun i=>Dh (m.g i)).length (Fx.flat 5 (Oc (c.map fun i=>Dh (m.g i)))):=by
 have h:=n.congr (y:=Fx.flat 5 (Oc (c.map fun i=>Dh (m.g i)))) (fun j o=>PS l hi j (by rw[List.length_map,<- e]; exact o))
 rw[List.length_map,<- e]; exact h
theorem NA(m:dB){z:Nat->Value}(e : ∀ j,18<=j->z j = .slice none 0 0){x1 x2:Nat->Value}(h1 : ∀ j,j<6->x1 j = .bool (m.inn j))(d : ∀ j,j<6->x2 j = .bool (m.left j)) : ∀ j,j<20->Fx.bE (Fx.bE (Fx.bE z 0 6 x1) 6 6 x2) 12 6 (Fx.rv .u64 m.known) j=wI (Nz m none 0 0 none 0 0) j:=fun j f=>by
 unfold Fx.bE wI
 by_cases a:j<6
 ·rw[if_neg (by omega),if_neg (by omega),if_pos (by omega),if_pos a]; exact h1 _ (by omega)
 ·by_cases b:j<12
  ·rw[if_neg (by omega),if_pos (by omega),if_neg a,if_pos b]; exact d _ (by omega)
  ·by_cases c:j<18
   ·rw[if_pos (by omega),if_neg a,if_neg b,if_pos c]; rfl
   ·rw[if_neg (by omega),if_neg (by omega),if_neg (by omega),if_neg a,if_neg b,if_neg c,e j (by omega)]
    split <;> rfl
end Rt
structure StQ(w:World)(B:Nat)(m:dB)(s:AX)(l:List Int)(gl:List CW):Prop where
 inn:s.inn=m.inn
 left:s.left=m.left
 known:s.known=m.known
 nn:s.nn=l.length
 gn:s.gn=gl.length
 ls:l.Pairwise (· < ·) /\ ∀ k,k∈l<->m.T.has k=true
 len:l.length<=32
 gs:Xf m gl
 glb:gl.length<=m.gn
 n:Fx.Own w B 68 56 (.slice s.na s.nn s.nc) s.nn (Fx.flat 56 (Ny m l))
 g:Fx.Own w B 72 5 (.slice s.ga s.gn s.gc) s.gn (Fx.flat 5 (Oc gl))
end Go.Proofs.YtcbedgfikejkoaaDoor
namespace Go.Proofs.YtcbedgfikejkoaaDoor
open Go.RowKit Rt
open Fx (eT dI eY bf eX eU eG dM eZ gW dO gX eP gH gY Lv sN Ln Ws Qv Wl Rp Wc Qs Wr Sb Lk Wk rC rV sR Rs Rn Rd Rk Wb Wx Wo yE Wt pJ Ai Qn zQ tL yt zG wT zT zR iB zV jC nY rR zW yu zU yF yx rv aA aL bE aI ev bT Stp bV aO flat fH Mp dK aT fq gF bA down fM iW iJ jk kU bQ bD cells_one jD aX pV unseen jl iQ cu bX dA cZ dh iE iT qL gI)
set_option maxRecDepth 20000
set_option linter.unusedVariables false
theorem Iz(n:Int)(w:World) :
 Calls Tryd.prog 35 #[au n] w fun e w'=>e = .returned (.bool false)/\w'=w:=by
 refine Kent Tryd.func35 6 ?_
 refine ay<|av aF<|aD<|ay<|av (au n)<|av (au n)<|Lv aF (ng rfl)<|av aF<|aD<|Wr<|aM aF ?_
 exact⟨rfl,rfl⟩
theorem PW(a b:Int)(w:World) :
 Calls Tryd.prog 20 #[au a,au b] w fun e w'=>e = .returned (au (iJ a b))/\w'=w:=by
 refine Kent Tryd.func20 20 ?_
 refine ay<|av (au 0)<|aD<|ay<|av (au a)<|lJ (Iz a _) _ rfl<|av aF<|aD<|ay<|av (au b)<|lJ (Iz b _) _ rfl<|av aF<|aD<|Ws<|ay<|av aF<|aD<|aN<|Wk<|sN<|Ws<|ay<|av aF<|aD<|aN<|Wk<|sN<|Ws<|ay<|av (au a)<|av (au b) ?_
 by_cases c:a<b
 ·refine Lv aG (mD c)<|aD<|aQ<|ay<|av (au (-1))<|aD<|Wr<|sR<|aM (au (-1)) ?_
  exact⟨by unfold iJ; simp[c],rfl⟩
 refine Lv aF (mE c)<|aD<|aN<|Wk<|sN<|Ws<|ay<|av (au a)<|av (au b) ?_
 by_cases d:b<a
 ·refine Lv aG (zX d)<|aD<|aQ<|ay<|av (au 1)<|aD<|Wr<|sR<|aM (au 1) ?_
  exact⟨by unfold iJ; simp[c,d],rfl⟩
 refine Lv aF (zY d)<|aD<|aN<|Wk<|sN<|ay<|av (au 0)<|aD<|Wr<|aM (au 0) ?_
 exact⟨by unfold iJ; simp[c,d],rfl⟩
theorem IB(n:Int)(w:World) :
 Calls Tryd.prog 36 #[aC n] w fun e w'=>e = .returned (.bool false)/\w'=w:=by
 refine Kent Tryd.func36 6 ?_
 refine ay<|av aF<|aD<|ay<|av (aC n)<|av (aC n)<|Lv aF (ng rfl)<|av aF<|aD<|Wr<|aM aF ?_
 exact⟨rfl,rfl⟩
theorem PX(a b:Int)(w:World) :
 Calls Tryd.prog 21 #[aC a,aC b] w fun e w'=>e = .returned (au (iJ a b))/\w'=w:=by
 refine Kent Tryd.func21 20 ?_
 refine ay<|av (au 0)<|aD<|ay<|av (aC a)<|lJ (IB a _) _ rfl<|av aF<|aD<|ay<|av (aC b)<|lJ (IB b _) _ rfl<|av aF<|aD<|Ws<|ay<|av aF<|aD<|aN<|Wk<|sN<|Ws<|ay<|av aF<|aD<|aN<|Wk<|sN<|Ws<|ay<|av (aC a)<|av (aC b) ?_
 by_cases c:a<b
 ·refine Lv aG (mD c)<|aD<|aQ<|ay<|av (au (-1))<|aD<|Wr<|sR<|aM (au (-1)) ?_
  exact⟨by unfold iJ; simp[c],rfl⟩
 refine Lv aF (mE c)<|aD<|aN<|Wk<|sN<|Ws<|ay<|av (aC a)<|av (aC b) ?_
 by_cases d:b<a
 ·refine Lv aG (zX d)<|aD<|aQ<|ay<|av (au 1)<|aD<|Wr<|sR<|aM (au 1) ?_
  exact⟨by unfold iJ; simp[c,d],rfl⟩
 refine Lv aF (zY d)<|aD<|aN<|Wk<|sN<|ay<|av (au 0)<|aD<|Wr<|aM (au 0) ?_
 exact⟨by unfold iJ; simp[c,d],rfl⟩
theorem aaQ(a b:Int)(c:Nat)(w:World)(q:gF w c 0 2 (X5 a b)) :
 Calls Tryd.prog 19 #[bJ c 2 2] w fun e w'=>e = .returned (au (J7 a b))/\w'=w:=by
 refine Kent Tryd.func19 18 ?_
 refine ay<|av (au 0)<|aD<|ay<|av (au 0)<|aD<|Ws<|ay<|av (bJ c 2 2)<|av (au 2)<|av (au 0)<|aD<|Wb<|Wo (fun f p => ∃ i:Nat,i<=2/\((i=0\/a=0))/\((i<2\/J7 a b=0))/\p=w/\f 3=au 0/\f 6=bJ c 2 2/\f 7=au 2/\f 8=au ((i:Int))/\gF p c 0 2 (X5 a b)) (fun f _=>(2-intOf (f 8)).toNat) ⟨0,(by omega),(.inl rfl),(.inl (by decide)),rfl,Fx.ic,(by rfl),Fx.ic,Fx.ic,q⟩ ?_
 rintro s u ⟨i,t,m,r,l,j,n,k,g,o⟩
 refine ay ?_
 by_cases h:(i:Int)<2
 ·refine Lv aG (mD h (hx:=g) (hy:=k))<|aD<|Ws<|aQ<|Wk<|sN<|Ws<|Wb<|ay<|Lv ((pf c i)) (dz 1 (hx:=n) (hi:=g))<|Lv (au (Gr a b i)) (aP o i)<|av (au (Gr a b i))<|aD<|ay<|av (au (Gr a b i))<|aZ j ?_
  by_cases d:(Gr a b i)=0
  ·refine Lv aF (ng d)<|aD<|aN<|Wk<|dA<|sN<|Wl<|Lv (au ((i:Int)+1)) (gV (hx:=g))<|av (au ((i:Int)+1))<|Ln<|iT ⟨i+1,(by omega),(aaM m d),(aaN m d),l,(j.trans Fx.ic),n,(k.trans Fx.ic),Fx.ic,o⟩ ?_
   show(2-intOf ((au ((i:Int)+1)))).toNat<_
   simp only[g,intOf]; omega
  refine Lv aG (qg d)<|aD<|aQ<|ay<|av (au (Gr a b i))<|av (au (Gr a b i))<|aD<|Wr<|bX<|sR<|qL<|bX<|sR<|aM (au (Gr a b i)) ?_
  exact⟨by rw[aaO m d],l⟩
 refine Lv aF (mE h (hx:=g) (hy:=k))<|aD<|Ws<|aN<|Wx<|cZ<|iE<|dh<|sN<|ay<|aZ j<|av (au 0)<|aD<|Wr<|aM (au 0) ?_
 exact⟨by rw[aaP r h],l⟩
set_option maxRecDepth 20000
set_option linter.unusedVariables false
theorem Rt.UZ{w:World}{g:Nat}{a b:Int}{z:Nat->Value}{T:TypeId}(h:aL w g 2 (bE (bE z (0*1) 1 (fun _=>au a)) (1*1) 1 (fun _=>au b)) T):gF w g 0 2 (X5 a b):=(h.congr (y:=X5 a b) fun j c=>by
 rcases(show j=0\/j=1 by omega)with rfl|rfl <;> rfl).aK
theorem U0(x y:CW)(w:World) :
 Calls Tryd.prog 18 #[.agg (aA 5 (jE x.x)),.agg (aA 5 (jE y.x))] w fun e w'=>e = .returned (au (iJ (EH x) (EH y))) /\ ∃ q C,w'=Go.Sort.grow (w.drewN q) C:=by
 refine Kent Tryd.func18 17 ?_
 refine ay<|Fx.L.Xe (m:=5) (y:=jE x.x) (by rfl) rfl rfl (bD _ _) rfl fun k U t d D H => ?_
 have f:=aR D.old (Below.refl w.heap.size w)
 have K:=gK t
 have R:=d.lt
 refine Fx.L.Xe (m:=5) (y:=jE y.x) (by rfl) rfl rfl (bD _ _) rfl fun l V g n E I => ?_
 have⟨B,p⟩:=gU E.old d f
 have M:=iC g f.size
 have O:=bS g d.lt
 have S:=n.lt
 refine av (au 0)<|aD<|Ws ?_
 -- region 1 draws
 refine Fx.W.UU [0,2,5,7,1,3,6,8,4,9,10,11,12] [0,4,0,4,2,0,1,0,1,2,2,3,0] Fx.Mk nY Fx.Mk.trans (dY := [(4,1,[1]),(9,1,[4,1]),(10,1,[4,1]),(11,1,[10,4,1]),(4,3,[3]),(9,3,[4,3]),(10,3,[4,3]),(11,3,[10,4,3]),(11,6,[9,6]),(11,8,[9,8]),(9,4,[4]),(10,4,[4]),(11,4,[10,4]),(12,4,[4]),(10,9,[9]),(11,9,[9]),(12,9,[9]),(11,10,[10]),(12,10,[10]),(12,11,[11])]) (by kernel_rfl) (by kernel_rfl) (by kernel_rfl) (by kernel_rfl) (by kernel_rfl) fun Y z A => ?_
 have⟨a,b,r⟩:=kM z B n p
 refine aW ((pt k))<|aW ((pt l))<|aW ((pf k 1))<|aW ((pf l 1))<|Rs (au (x.x 0)) (aP a.aK 0) ?_
 refine Rs (au (y.x 0)) (aP b.aK 0) ?_
 refine Rd (v:=aC (x.x 1)) (by rfl) (by rfl) (nY _) (fun G c=>bf (x:=jE x.x) rfl rfl (by kernel_rfl) (a.aK.below c (by have:=a.lt; omega)) (i:=1) (by omega) (by omega) rfl) ?_
 refine Rd (v:=aC (y.x 1)) (by rfl) (by rfl) (nY _) (fun G c=>bf (x:=jE y.x) rfl rfl (by kernel_rfl) (b.aK.below c (by have:=b.lt; omega)) (i:=1) (by omega) (by omega) rfl) ?_
 refine BN (lJ (PW (x.x 0) (y.x 0) _) _ rfl (Ln ⟨Below.refl _ _,?_⟩))
 refine BN (lJ (PX (x.x 1) (y.x 1) _) _ rfl (Ln ⟨Below.refl _ _,?_⟩))
 refine BN<|Fx.L.PL (vs := [(0,au (iJ (x.x 0) (y.x 0))),(1,au (iJ (x.x 1) (y.x 1)))]) (s:=1) (zc:=rv .i64 (fun _=>0)) (y:=bE (bE (fun j=>(rv .i64 (fun _=>0)) (j % 1)) (0*1) 1 (fun _=>au (iJ (x.x 0) (y.x 0)))) (1*1) 1 (fun _=>au (iJ (x.x 1) (y.x 1)))) (by rfl) rfl rfl Tryd.underlying97 (by kernel_rfl) (by rfl) (by rfl) (by kernel_rfl) (by rw[bA (off:=0*1) (s:=1) (y:=fun _=>au (iJ (x.x 0) (y.x 0))) rfl (cells_one (by rfl)) (by rfl)]; rw[bA (off:=1*1) (s:=1) (y:=fun _=>au (iJ (x.x 1) (y.x 1))) rfl (cells_one (by rfl)) (by rfl)]; rfl) rfl fun u X h o F J => ?_
 have N:=iC h r.size
 have⟨P,Q⟩:=rH h a.lt b.lt
 have T:=o.lt
 refine Ln ⟨F.old,?_⟩
 refine gG<|lJ (aaQ (iJ (x.x 0) (y.x 0)) (iJ (x.x 1) (y.x 1)) u _ (UZ o)) _ rfl<|Ln<|aW (au (J7 (iJ (x.x 0) (y.x 0)) (iJ (x.x 1) (y.x 1))))<|bG<|Wr<|aM (au (J7 (iJ (x.x 0) (y.x 0)) (iJ (x.x 1) (y.x 1)))) ?_
 exact⟨by rw[<- UW],(((((Fx.PK.refl w).alloc H).alloc I).drew A).alloc J)⟩
theorem U1{w:World}{B cap:Nat}{a:Option Addr}{l:List CW}(h:Fx.Own w B 72 5 (.slice a l.length cap) l.length (flat 5 (Oc l)))(g:l.length<=1000000) :
 Calls Tryd.prog 17 #[.slice a l.length cap,.func (.func 18) #[] #[]] w fun e w'=>e = .returned (.tuple #[]) /\ ∃ b:List CW,b.Perm l/\b.Pairwise (fun x y=>EH x<=EH y)/\Fx.Own w' B 72 5 (.slice a l.length cap) l.length (flat 5 (Oc b))/\(∀ k,k<w.heap.size->(Value.slice a l.length cap).ownBlock≠some k->w'.heap[k]? = w.heap[k]?)/\jD [72] w w'/\Below B w w':=by
 have d:Fx.Own w B 72 5 (.slice a l.length cap) l.length (flat 5 fun q=>(fun x:CW=>jE x.x) (l.getD q g0)):=h
 have:=Fx.Nw Xd (fun c w=>enters_of Tryd.func18 (by kernel_rfl) rfl c w) (by decide) Tryd.isAgg72 Tryd.sizeOf72 (enc:=fun x:CW=>jE x.x) (e0:=g0) (ky:=EH) (fun x j _=>xP x.x j) d
  (by intro f x y; refine(U0 x y f).mono fun e w' h => ?_; exact h) (by omega)
 exact this
theorem PY{m:dB}{d:List Nat}{S:Nat->Bool}{o w:World}{b B cap c:Nat}{a:Option Addr}(l:fq o b m.gn (fun i=>m.g i 0) (fun i=>m.g i 1) (nC m.g))(hi:JQ m.gn S d)(e:c=d.length)(n:Fx.Own w B 72 5 (.slice a c cap) c (flat 5 fun k=>jE (m.g (d.getD k 0))))(p:c<=1000000) :
 Calls Tryd.prog 17 #[.slice a c cap,.func (.func 18) #[] #[]] w fun e w'=>e = .returned (.tuple #[]) /\ ∃ f:List CW,f.Perm (d.map fun i=>Dh (m.g i))/\f.Pairwise (fun x y=>EH x<=EH y)/\Fx.Own w' B 72 5 (.slice a c cap) c (flat 5 (Oc f))/\(∀ k,k<w.heap.size->(Value.slice a c cap).ownBlock≠some k->w'.heap[k]? = w.heap[k]?)/\jD [72] w w'/\Below B w w':=by
 have h:(d.map fun i=>Dh (m.g i)).length=c:=by rw[List.length_map]; exact e.symm
 have j:=U1 (UY l hi e n) (by rw[h]; omega)
 rw[h]at j
 exact j
set_option maxRecDepth 20000
set_option linter.unusedVariables false
set_option maxHeartbeats 1000000 in
theorem PZ(m:dB)(lp B:Nat)(w:World)(h:iR w B lp m)(hgn:m.gn<=900000) :
 Calls Tryd.prog 9 #[(pt lp)] w fun e w' => ∃ s l gl,e = .returned (.agg (aA 20 (wI s)))/\StQ w' w.heap.size m s l gl/\Below w.heap.size w w':=by
 have hC:=h.c
 have hT:=h.t
 have hP:=h.p
 have hR:=h.r
 have hG:=h.g
 have hA:=h.a
 have hN:=h.ne
 have lC:=h.c.lt
 have lT:=h.t.lt
 have lP:=h.p.lt
 have lR:=h.r.lt
 have lG:=h.g.lt
 have lA:=h.a.lt
 refine Kent Tryd.func9 72 ?_
 refine ay<|wT (m:=20) (y:=fun d=>if d<12 then .bool false else if d<18 then aC 0 else .slice none 0 0) (by rfl) rfl (by kernel_rfl) rfl fun C w1 oI m1 s1 z1 => ?_
 have⟨m2,m3,m4,m5,m6,m7,b1⟩:=BO s1.old hC hT hP hR hG hA (Below.refl w.heap.size w)
 have wY:=gK oI
 have⟨mO,qF,uL,uM,uN⟩:=ug oI hC.lt hP.lt hR.lt hG.lt hA.lt
 have xK:=m1.lt
 refine aD<|Ws<|ay<|av ((pt lp))<|Lv aF (Fx.jF rfl rfl rfl (by kernel_rfl))<|aD<|aN<|Wk<|sN<|Ws ?_
 -- region 3 draws
 refine Wt 13 (by kernel_rfl) (by kernel_rfl) fun rZ gy iF => ?_
 have⟨m8,m9,m10,m11,m12,m13,m14,b2⟩:=zZ gy m2 m3 m4 m5 m6 m7 m1 b1
 refine NY ((pt lp))<|NY ((pt lp))<|NY ((pt lp))<|zR (.agg (aA 6 (fun j => .bool (m.inn j)))) (jh m8.aK 0 (fun j I=>by rw[Nat.zero_add]; exact vS I))<|NY ((pt lp))<|NY ((pt lp))<|NY ((pf lp 6))<|zR (.agg (aA 6 (fun j => .bool (m.left j)))) (jh m8.aK 6 (fun j I=>uI (p:=j) I (by omega)))<|NY ((pt lp))<|NY ((pt lp))<|NY ((pf lp 12))<|zR (.agg (aA 6 (rv .u64 m.known))) (jh m8.aK 12 (fun j I=>kZ (p:=j) (by omega) (by omega)))<|NY (.agg (aA 20 (bE (bE (bE (fun d=>if d<12 then .bool false else if d<18 then aC 0 else .slice none 0 0) 0 6 (fun j => .bool (m.inn j))) 6 6 (fun j => .bool (m.left j))) 12 6 (rv .u64 m.known))))<|Fx.St.nil ?_
 refine fI m14 0 (h1:=(aX (aX (aX (fun jq _=>by show((fun d=>if d<12 then .bool false else if d<18 then aC 0 else .slice none 0 0:Nat->Value) jq).oneCell'=true; simp only[]; repeat (first|rfl|split)) (fun _ _=>rfl)) (fun _ _=>rfl)) (fun _ _=>rfl))) fun U m15 s3 z2 => ?_
 have m16:aL U C 20 (bE (bE (bE (fun d=>if d<12 then .bool false else if d<18 then aC 0 else .slice none 0 0) 0 6 (fun j => .bool (m.inn j))) 6 6 (fun j => .bool (m.left j))) 12 6 (rv .u64 m.known)) 43:=aO m15
 have m17:aL U C 20 (wI (Nz m none 0 0 none 0 0)) 43:=m16.congr (NA m (fun j I=>by show(if j<12 then _ else if j<18 then _ else _)=_; rw[if_neg (by omega),if_neg (by omega)]) (fun _ _=>rfl) (fun _ _=>rfl))
 have iD:=iB s3 m14.ty
 have⟨m18,m19,m20,m21,m22,m23⟩:=Yy iD m8 m9 m10 m11 m12 m13
 have b3:=s3.below b2 b2.size (by omega)
 refine aD<|Ws<|ay<|av ((pt lp))<|av ((pt lp))<|av ((pf lp 18))<|Lv ((pt m.tp)) (aP m18.aK 18)<|ko (LC m19) ?_
 rintro e9 w3 ⟨Rq,M,b,he,m24,hq1,WR,hb1⟩
 refine⟨_,he,?_⟩
 clear he
 have⟨sD,rM,sQ,uX,tQ,uY,mP,b4⟩:=zZ hb1 m18 m19 m20 m21 m22 m23 m17 b3
 refine av (au b.length)<|av (au 0)<|aD<|Wb ?_
 have m32:Fx.Own w3 w.heap.size 68 56 (.slice none 0 0) 0 (flat 56 (Ny m b)):=yu _ _ _ _ _
 have kll:=WR
 refine Wo (fun f u => ∃ i:Nat,∃ D:Option Addr,∃ E:Nat,i<=b.length/\f 0=(pt lp)/\f 2=(pt C)/\f 27 = .slice Rq (b.length) (M)/\f 28=au ((b.length:Int))/\f 29=au ((i:Int))/\aL u lp 29 (nW m) 59/\lQ u B m.tp m.mb m.T/\Mp u m.pb m.T.n m.T.x (xw m.T)/\Mp u m.rb m.T.n m.T.x (oQ m.R)/\fq u m.gb m.gn (fun i=>m.g i 0) (fun i=>m.g i 1) (nC m.g)/\fq u m.ab m.an m.ao m.ar xA/\Fx.Own u U.heap.size 29 1 (.slice Rq (b.length) (M)) b.length (pW b)/\aL u C 20 (wI (Nz m D i E none 0 0)) 43/\Fx.Own u w.heap.size 68 56 (.slice D (i) (E)) i (flat 56 (Ny m b))/\Below w.heap.size w u) (fun f _=>((b.length:Int)-intOf (f 29)).toNat) ⟨0,none,0,(by omega),(by rfl),(by rfl),(by rfl),Fx.ic,Fx.ic,sD,rM,sQ,uX,tQ,uY,m24,mP,m32,b4⟩ ?_
 rintro f1 w4 ⟨i,D,E,hi,O,h2,h3,h4,P,oK,nZ,qP,qQ,vG,uo,qR,wC,qU,b5⟩
 refine ay ?_
 by_cases c30:(i:Int)<(b.length:Int)
 ·refine Lv aG (mD c30 (hx:=P) (hy:=h4))<|aD<|Ws<|aQ<|Wk<|sN<|Ws<|Wb<|ay ?_
  obtain⟨MV,eq1⟩:=qR.addr (by omega)
  have vH:Fx.Own w4 U.heap.size 29 1 (bJ MV b.length M) b.length (pW b):=qR.qc (congrArg (fun q=>Value.slice q b.length M) eq1)
  refine Lv ((pf MV i)) (dz 1 (hx:=(h3.trans (congrArg (fun q=>Value.slice q (b.length) (M)) eq1))) (hi:=P))<|Lv (aC (b.getD i 0)) (aP vH.aK i)<|av (aC (b.getD i 0))<|aD ?_
  obtain⟨H,hjz,Z⟩:=eF ((hq1.2 _).1 (nN (show i<b.length by omega) rfl))
  have Z0:wP m (b.getD i 0)=m.R H:=by unfold wP dB.idx; rw[ji h.t.inv.inj hjz Z]
  have ejp:m.T.par (b.getD i 0)=m.T.p H:=uh h.t.inv.inj hjz Z
  -- region 7 draws
  refine yx [0,2,3,4,5,7,9,10,11,13,1,6,8,12,14,15,16,17,18,19] [0,1,0,0,0,0,4,0,4,0,0,0,4,0,4,0,2,2,0,3] (jD [68]) zW Fx.jD.trans (dY := [(19,1,[1]),(16,6,[15,8,6]),(17,6,[16,15,8,6]),(19,6,[6]),(16,8,[15,8]),(17,8,[16,15,8]),(19,8,[8]),(16,12,[15,14,12]),(17,12,[16,15,14,12]),(19,12,[12]),(16,14,[15,14]),(17,14,[16,15,14]),(19,14,[14]),(17,16,[16]),(18,16,[16]),(19,16,[16]),(18,17,[17]),(19,17,[17])]) (by kernel_rfl) (by kernel_rfl) (by kernel_rfl) (by kernel_rfl) (by kernel_rfl) fun C9 jJ nO => ?_
  have⟨qV,rO,uq,sF,wD,Ac,vI,uw,wZ,b6⟩:=nL jJ oK nZ qP qQ vG uo wC qU vH b5
  refine Rp ((pf C 18)) (fun _=>C8 h2 18)<|aW (aC (b.getD i 0))<|bK O<|aW ((pt lp))<|aW ((pf lp 19))<|aW (aC (b.getD i 0))<|bK O<|aW ((pt lp))<|aW ((pf lp 20))<|aW (aC (b.getD i 0))<|Rd (v := .slice D (i) (E)) (by rfl) (by rfl) (zW _) (fun v1 hv1=>bf (x:=wI (Nz m D i E none 0 0)) rfl rfl (by kernel_rfl) (vI.nH hv1 (by decide)).aK (i:=18) (by omega) (by omega) rfl) ?_
  refine Rs (.map (some m.pb)) (aP qV.aK 19) ?_
  refine Rs (aC (m.T.p H)) (Fx.oD (z:=aC 0) rfl rfl rfl uq Tryd.underlying53 Tryd.underlying29 (by rfl) hjz Z rfl) ?_
  refine Rs (.map (some m.rb)) (aP qV.aK 20) ?_
  refine Rs (.agg (aA 54 (rv .i64 (m.R H)))) (Fx.oD (z := .agg (aA 54 (rv .i64 (fun _=>0)))) rfl rfl rfl sF Tryd.underlying54 Tryd.underlying29 (by kernel_rfl) hjz Z rfl) ?_
  refine aW (.agg (aA 56 (bE (bE (bE (fun d=>if d<2 then aC 0 else au 0) 0 1 (fun _=>aC (b.getD i 0))) 1 1 (fun _=>aC (m.T.p H))) 2 54 (rv .i64 (m.R H)))))<|BN<|yt (vs := [(0,.agg (aA 56 (bE (bE (bE (fun d=>if d<2 then aC 0 else au 0) 0 1 (fun _=>aC (b.getD i 0))) 1 1 (fun _=>aC (m.T.p H))) 2 54 (rv .i64 (m.R H)))))]) (s:=56) (zc:=fun d=>if d<2 then aC 0 else au 0) (y:=bE (fun j=>(fun d=>if d<2 then aC 0 else au 0) (j % 56)) (0*56) 56 (bE (bE (bE (fun d=>if d<2 then aC 0 else au 0) 0 1 (fun _=>aC (b.getD i 0))) 1 1 (fun _=>aC (m.T.p H))) 2 54 (rv .i64 (m.R H)))) (by rfl) rfl rfl Tryd.underlying40 (by kernel_rfl) (by rfl) (by rfl) (by kernel_rfl) (by rw[bA (off:=0*56) (s:=56) (y:=bE (bE (bE (fun d=>if d<2 then aC 0 else au 0) 0 1 (fun _=>aC (b.getD i 0))) 1 1 (fun _=>aC (m.T.p H))) 2 54 (rv .i64 (m.R H))) rfl (bD _ _) (by rfl)]; rfl) rfl fun g2 w5 X wE s6 z3 => ?_
  have⟨vJ,Ad,wF,uy,sG,uZ,zJ,pX,xg,b7⟩:=nL s6.old qV rO uq sF wD Ac vI uw wZ b6
  have zN:=iC X b6.size
  have⟨aaR,aaS,aaT,aaU,aaV,aaW⟩:=BR X qV.lt uq.lt sF.lt wD.lt Ac.lt vI.lt
  have aaX:(.slice D (i) (E):Value).ownBlock≠some g2:=by rw[X]; exact uw.BH (Nat.le_refl _)
  have aaY:=bS X wZ.lt
  have Cg:=wE.lt
  refine Ln ⟨Fx.jD.of_below s6.old,?_⟩
  refine BN<|zG (B:=w.heap.size) (s:=56) (bytes:=448) (k:=i) (m:=1) (v := .slice D (i) (E)) (x:=flat 56 (Ny m b)) (by rfl) rfl rfl rfl Tryd.underlying40 (by kernel_rfl) (by kernel_rfl) rfl rfl pX wE.aK PU (by omega) (by omega) (by omega) b7.size fun g3 V w6 ho1 hg1 Sr hlt1 => ?_
  have mH:=zV hg1 pX
  have⟨zK,m64,Cb,Cc,yN,AB,xk,AJ⟩:=Sg mH vJ Ad wF uy sG uZ zJ xg
  have qW:Fx.Own w6 w.heap.size 68 56 (bJ g3 (i+1) V) (i+1) (flat 56 (Ny m b)):=(ho1.congr (fun j I=>PN rfl ejp Z0 j I))
  have b8:Below w.heap.size w w6:=zU b7 hg1 b7.size (fun q hq=>(pX.ge hq).1)
  refine Ln ⟨mH,?_⟩
  refine Rp ((pf C 18)) (fun _=>C8 h2 18)<|gG<|nk xk 18 (bJ g3 (i+1) V) fun w7 xq s7 z4 => ?_
  have Ae:aL w7 C 20 (wI (Nz m (some ⟨g3,0,none⟩) (i+1) V none 0 0)) 43:=xq.to (JR _ _ _ _)
  have yJ:=iB s7 xk.ty
  have⟨yO,FD,zL,DV,FE,EW,Da,Af⟩:=Sg yJ zK m64 Cb Cc yN AB AJ qW
  have b9:=s7.below b8 b8.size (by omega)
  refine Ln<|Rn<|dA<|sN<|Wl<|Lv (au ((i:Int)+1)) (gV (hx:=P))<|av (au ((i:Int)+1))<|Ln ?_
  have zM:Fx.Own w7 U.heap.size 29 1 (.slice Rq (b.length) (M)) b.length (pW b):=Da.qc (congrArg (fun q=>Value.slice q b.length M) eq1.symm)
  skip
  refine iT ⟨i+1,(some ⟨g3,0,none⟩),V,(by omega),O,h2,h3,(h4.trans Fx.ic),Fx.ic,yO,FD,zL,DV,FE,EW,zM,Ae,Af,b9⟩ ?_
  show((b.length:Int)-intOf ((au ((i:Int)+1)))).toNat<_
  simp only[P,intOf]; omega
 refine Lv aF (mE c30 (hx:=P) (hy:=h4))<|aD<|Ws<|aN<|Wx<|cZ<|iE<|dh<|sN<|Ws<|ay<|aZ O<|av ((pt lp))<|av ((pf lp 27))<|Lv (.map (some m.gb)) (aP oK.aK 27)<|Fx.L.Sm (by rfl) rfl rfl rfl vG Tryd.underlying55 fun g4 w8 DC Ce s8 z5 => ?_
 have⟨EX,Hq,J4,b10⟩:=jH s8.old vG wC qU b5
 have J2:=iC DC b5.size
 have JG:=Ce.lt
 refine aD<|Wb ?_
 have MW:Fx.Own w8 w.heap.size 72 5 (.slice none 0 0) 0 (flat 5 (fun k=>jE (m.g (([]:List Nat).getD k 0)))):=yu _ _ _ _ _
 refine yE (fun kE f u => ∃ S:Nat->Bool,∃ kk:Nat,∃ J:List Nat,∃ o:Nat,∃ F:Option Addr,∃ G:Nat,kk=unseen S m.gn/\kk=kE/\JQ m.gn S J/\o=J.length/\f 2=(pt C)/\f 57=(pt g4)/\fq u m.gb m.gn (fun i=>m.g i 0) (fun i=>m.g i 1) (nC m.g)/\Fx.Own u w.heap.size 68 56 (.slice D (i) (E)) i (flat 56 (Ny m b))/\aL u C 20 (wI (Nz m D i E F o G)) 43/\Fx.Own u w.heap.size 72 5 (.slice F (o) (G)) o (flat 5 (fun k=>jE (m.g (J.getD k 0))))/\Fx.It u g4 m.gb m.gn S/\Below w.heap.size w u) (unseen (fun _=>false) m.gn) ⟨(fun _=>false),(unseen (fun _=>false) m.gn),[],0,none,0,rfl,rfl,(JQ.start _),rfl,h2,(by rfl),EX,J4,Hq,MW,Ce,b10⟩ ?_
 rintro kE f2 w9 ⟨S,kk,J,o,F,G,hkk,hkE,Q,hgl,K,h7,JJ,J5,Gg,MX,J6,b11⟩
 refine ay<|Fx.L.Vu (by rfl) rfl rfl h7 JJ J6 (fun DW => ?_)<|fun A zI hi1 hS1 Pf Vf s9 z6 => ?_
 ·skip
  refine av aF<|aD<|Ws<|aN<|Wx<|cZ<|iE<|dh<|sN<|Ws ?_
  have eL:(J.map fun i=>Dh (m.g i)).length=o:=by rw[List.length_map]; exact hgl.symm
  have aaZ:=Q.len
  refine Wl<|Lv ((pf C 19)) (C8 K 19)<|Lv (.slice F (o) (G)) (aP Gg.aK 19)<|fC (PY h.g Q hgl MX (by omega)) _ rfl ?_
  rintro N7 ⟨gl,hpm,hup,Ob,_,DL,hb2⟩
  have b12:=b11.trans hb2
  have⟨Ew,zk⟩:=Dq DL J5 Gg
  have adv:=zk.lt
  refine aD<|ay<|Lv (.agg (aA 20 (wI (Nz m D i E F o G)))) (jh zk.aK 0 (ha:=K))<|fI zk 0 (ha:=K) (h1:=(fun j _=>OM _ j)) fun N8 CK s10 z7 => ?_
  have CO:aL N8 C 20 (wI (Nz m D i E F o G)) 43:=aO CK
  have KX:=iB s10 zk.ty
  have⟨zm,zn⟩:=Dq KX Ew Ob
  have b13:=s10.below b12 b12.size (by omega)
  refine aD (Wr (⟨.agg (aA 20 (wI (Nz m D i E F o G))),rV Tryd.results9 ⟨_,K,aT CO.aK (by kernel_rfl) (by kernel_rfl)⟩,?_⟩))
  have eil:i=b.length:=by omega
  have egl:o=gl.length:=by rw[hpm.length_eq,eL]
  exact⟨Nz m D i E F o G,b,gl,rfl,{ inn:=rfl,left:=rfl,known:=rfl,nn:=eil,gn:=egl,ls:=hq1,len:=kll,gs:=Xf.of h.g Q DW hpm hup,glb:=by omega,n:=zm,g:=zn },b13⟩
 skip
 have hcm1:=J6.wB s9
 have zo:=JJ.cB hcm1 (J6.rb.symm)
 have EC:=J5.cB hcm1
 have JN:=Gg.cB hcm1
 have Gl:=MX.cB hcm1
 have b14:=s9.below b11 b11.size (by omega)
 refine av aG<|aD<|Ws<|aQ<|Wk<|sN<|Wb<|ay<|Lv (.tuple #[Fx.kS (m.g A 0) (m.g A 1),.agg (aA 5 (jE (m.g A)))]) (Fx.KF (k1:=fun i=>m.g i 0) (k2:=fun i=>m.g i 1) (val:=nC m.g) (i:=A) rfl h7 zo Vf hi1)<|av (.agg (aA 5 (jE (m.g A))))<|ni 5 (fun d=>if d<1 then au 0 else if d<3 then aC 0 else if d<4 then au 0 else aC 0) fun g5 SX Pw CQ s11 z8 => ?_
 have⟨Gm,Pj,Pk,Pm,M6,b15⟩:=vv s11.old zo EC JN Gl Pf b14
 have UH:=iC Pw b14.size
 have⟨X6,X7⟩:=rH Pw zo.lt JN.lt
 have IC:(.slice F (o) (G):Value).ownBlock≠some g5:=by rw[Pw]; exact Gl.BH (Nat.le_refl _)
 have WZ:=CQ.lt
 refine fI CQ 0 (h1:=(fun j _=>xP _ j)) fun Vd M7 s12 z9 => ?_
 have CS:aL Vd g5 5 (jE (m.g A)) 72:=aO M7
 have Jg:=iB s12 CQ.ty
 have⟨M8,M9,Nl⟩:=Dr Jg Gm Pj Pk
 have Xg:=Pm.eH s12 IC
 have abb:=oC Jg M6
 have b16:=s12.below b15 b15.size (by omega)
 refine aD ?_
 have aaZ:=Q.len
 have hgn1:o<=m.gn:=by omega
 refine Wl<|Lv ((pf C 19)) (C8 K 19)<|Lv (.slice F (o) (G)) (aP Nl.aK 19)<|Lv (.agg (aA 5 (jE (m.g A)))) (jh CS.aK 0)<|yt (vs := [(0,.agg (aA 5 (jE (m.g A))))]) (s:=5) (zc:=fun d=>if d<1 then au 0 else if d<3 then aC 0 else if d<4 then au 0 else aC 0) (y:=bE (fun j=>(fun d=>if d<1 then au 0 else if d<3 then aC 0 else if d<4 then au 0 else aC 0) (j % 5)) (0*5) 5 (jE (m.g A))) (by rfl) rfl rfl Tryd.underlying41 (by kernel_rfl) (by rfl) (by rfl) (by kernel_rfl) (by rw[bA (off:=0*5) (s:=5) (y:=jE (m.g A)) rfl (bD _ _) (by rfl)]; rfl) rfl fun g6 VY Y Xh s13 YT => ?_
 have⟨abd,abe,abf,U2,abg,abh,b17⟩:=BO s13.old M8 M9 Nl Xg abb CS b16
 have lg6:=iC Y b16.size
 have⟨X8,X9⟩:=rH Y M8.lt Nl.lt
 have Ya:(.slice F (o) (G):Value).ownBlock≠some g6:=by rw[Y]; exact Xg.BH (Nat.le_refl _)
 have Yb:=bS Y CS.lt
 have tg6:=Xh.lt
 refine zG (B:=w.heap.size) (s:=5) (bytes:=40) (k:=o) (m:=1) (v := .slice F (o) (G)) (x:=flat 5 (fun k=>jE (m.g (J.getD k 0)))) (by rfl) rfl rfl rfl Tryd.underlying41 (by kernel_rfl) (by kernel_rfl) rfl rfl U2 Xh.aK PV (by omega) (by omega) (by omega) b17.size fun N W w16 ho2 hg2 abj hlt2 => ?_
 have abk:=zV hg2 U2
 have⟨abl,abm,Xi,abn⟩:=Kw abk abd abe abf abg
 have Yc:g5≠N:=fun e=>abj.elim (fun e2=>IC (by rw[e]; exact e2)) (fun e2=>by have:=abh.lt; omega)
 have abo:Fx.Own w16 w.heap.size 72 5 (bJ N (o+1) W) (o+1) (flat 5 (fun k=>jE (m.g ((J ++ [A]).getD k 0)))):=(ho2.congr (fun j I=>by rw[hgl]at I ⊢; exact PO j I))
 have b18:Below w.heap.size w w16:=zU b17 hg2 b17.size (fun q hq=>(U2.ge hq).1)
 refine Lv ((pf C 19)) (C8 K 19)<|nk Xi 19 (bJ N (o+1) W) fun XI abp SV YU => ?_
 have abq:aL XI C 20 (wI (Nz m D i E (some ⟨N,0,none⟩) (o+1) W)) 43:=abp.congr (Gs _ _ _ _)
 have abr:=iB SV Xi.ty
 have⟨abt,abu,abv,abw⟩:=Kw abr abl abm abn abo
 have b19:=SV.below b18 b18.size (by omega)
 refine Ln<|dA ?_
 skip
 refine iT ⟨unseen (aI S A true) m.gn,(by have O:=Fx.jV hS1 m.gn hi1; omega),(aI S A true),(unseen (aI S A true) m.gn),(J ++ [A]),o+1,(some ⟨N,0,none⟩),W,rfl,rfl,(Q.step hi1 hS1),(by rw[List.length_append,<- hgl]; rfl),K,h7,abt,abu,abq,abw,abv,b19⟩ (by decide)
end Go.Proofs.YtcbedgfikejkoaaDoor
namespace Go.Proofs.YtcbedgfikejkoaaDoor
open Go.RowKit Go
set_option linter.unusedVariables false
namespace Rt
section
variable {f:(Nat->Int)->(Nat->Int) × Int} {idx:Nat->Nat} {R:Nat->Nat->Int} {r r':Nat->Nat->Int} {n K k:Nat}
theorem wS : ∀ {n:Nat},(∀ i,i<n->r i=r' i)->iZ f r n=iZ f r' n
 | 0,_=>rfl
 | n+1,h=>by unfold iZ; rw[wS (n:=n) fun i a=>h i (by omega),h n (by omega)]
theorem zw : ∀ {K:Nat},(∀ i j,i<K->j<K->idx i=idx j->i=j)->(dH f idx R K).2=iZ f (fun i=>R (idx i)) K/\((dH f idx R K).2=0 -> ∀ k,(dH f idx R K).1 k=R k/\(∀ i,i<K->idx i≠k)\/(dH f idx R K).1 k=(f (R k)).1 /\ ∃ i,i<K/\idx i=k)
 | 0,_=>⟨rfl,fun _ k => .inl ⟨rfl,fun _ h=>absurd h (Nat.not_lt_zero _)⟩⟩
 | K+1,hi=>by
   obtain⟨q,r⟩:=zw (K:=K) fun i j a b=>hi i j (by omega) (by omega)
   unfold iZ
   rw[<- q]
   by_cases c:(dH f idx R K).2=0
   ·have n:=r c
    have p:(dH f idx R K).1 (idx K)=R (idx K):=by
     rcases n (idx K)with h|⟨_,i,d,g⟩
     ·exact h.1
     ·have:=hi i K (by omega) (by omega) g; omega
    rw[if_pos c]
    have e:dH f idx R (K+1)=(if(f ((dH f idx R K).1 (idx K))).2=0 then(aY (dH f idx R K).1 (idx K) (f ((dH f idx R K).1 (idx K))).1,0)else((dH f idx R K).1,(f ((dH f idx R K).1 (idx K))).2)):=by show(if _ then _ else _)=_; rw[if_pos c]
    rw[e,p]
    by_cases l:(f (R (idx K))).2=0
    ·rw[if_pos l]
     refine⟨l.symm,fun _ k => ?_⟩
     show aY (dH f idx R K).1 (idx K) _ k=R k/\_\/aY (dH f idx R K).1 (idx K) _ k=(f (R k)).1/\_
     unfold aY
     by_cases e:k=idx K
     ·subst e; rw[if_pos rfl]; exact .inr ⟨rfl,K,by omega,rfl⟩
     ·rw[if_neg e]
      rcases n k with ⟨d,g⟩|⟨d,i,g,h5⟩
      ·refine .inl ⟨d,fun i s m => ?_⟩
       by_cases o:i=K
       ·subst o; exact e m.symm
       ·exact g i (by omega) m
      ·exact .inr ⟨d,i,by omega,h5⟩
    ·rw[if_neg l]; exact⟨rfl,fun h=>absurd h l⟩
   ·rw[if_neg c]
    have e:dH f idx R (K+1)=dH f idx R K:=by show(if _ then _ else _)=_; rw[if_neg c]
    rw[e]
    exact⟨rfl,fun h=>absurd h c⟩
end
structure vY(T:cO)(L:dU):Prop where
 has : ∀ k,T.has k=true <-> ∃ i,i<L.nn/\L.id i=k
 n:T.n=L.nn
 par : ∀ i,i<L.nn->T.par (L.id i)=L.par i
section
variable {T:cO} {L:dU} {N:Nat} {x:Int}
theorem vY.find(h:vY T L)(b:Inv0 L N)(x:Int):T.has x=true<->0<=aS L.t L.tn x:=by
 rw[h.has,fD,b.vP]
 constructor
 ·rintro ⟨i,a,e⟩; exact⟨i,a,by rw[(b.tid i a).1]; exact e⟩
 rintro ⟨i,a,e⟩; exact⟨i,a,by rw[<- (b.tid i a).1]; exact e⟩
theorem vY.findF(h:vY T L)(a:Inv0 L N)(x:Int):T.has x=false<->aS L.t L.tn x<0:=by
 have:=h.find a x
 cases e:T.has x with
 | false=>rw[e]at this; exact⟨fun _=>by rcases Rb (aS L.t L.tn x)with h1|h1; exact h1; exact absurd (this.2 h1) (by decide),fun _=>rfl⟩
 | true=>rw[e]at this; have:=this.1 rfl; exact⟨fun h=>(nomatch h),fun h=>by omega⟩
theorem Inv0.at(c:Inv0 L N){i:Nat}(hi:i<L.nn):L.node (L.id i)=(i:Int):=by
 rw[c.node,<- (c.tid i hi).1]
 exact nU (fun a b d f e=>c.Wm a b d f e) (by rw[c.vP]; exact hi)
theorem vY.next(h:vY T L)(a:Inv0 L N)(hx:T.has x=true):T.par x=L.t (aS L.t L.tn x).toNat 1:=by
 obtain⟨i,b,rfl⟩:=(h.has x).1 hx
 have e:=a.at b
 rw[a.node]at e
 rw[e,h.par i b]
 exact((a.tid i b).2).symm
theorem vY.path(h:vY T L)(f:T.ok)(a:Inv0 L N)(x:Int):(T.path x).length=fK L.t L.tn x /\ ∀ q,q<(T.path x).length->(T.path x).getD q 0=bI L.t L.tn q x:=by
 have g : ∀ q,q<(T.path x).length->T.has ((T.path x).getD q 0)=true/\(q+1<(T.path x).length->(T.path x).getD (q+1) 0=T.par ((T.path x).getD q 0))/\(q+1=(T.path x).length->T.has (T.par ((T.path x).getD q 0))=false):=lu (f.stop x)
 have j : ∀ q,q<(T.path x).length->(T.path x).getD q 0=bI L.t L.tn q x:=by
  intro q
  induction q with
  | zero =>
    intro b
    cases hx:T.has x with
    | false=>rw[show T.path x = []from iX hx]at b; exact absurd b (Nat.not_lt_zero _)
    | true=>rw[cO.step f hx]; rfl
  | succ q ih =>
    intro b
    have l:=ih (by omega)
    have c:=(g q (by show q<(T.path x).length; omega))
    have e:=c.2.1 b
    show(T.path x).getD (q+1) 0=L.t (aS L.t L.tn (bI L.t L.tn q x)).toNat 1
    rw[<- l,<- h.next a c.1]
    exact e
 refine⟨?_,j⟩
 obtain⟨D,n,m⟩:=a.dep x
 refine uG (D:=D) (fun i k => ?_) ?_ m (by omega)
 ·rw[<- j i k,<- h.find a]; exact(g i k).1
 by_cases d:(T.path x).length=0
 ·rw[d]
  show aS L.t L.tn x<0
  rw[<- h.findF a]
  cases hx:T.has x with
  | false=>rfl
  | true=>rw[cO.step f hx]at d; simp at d
 obtain⟨q,b⟩ : ∃ q,(T.path x).length=q+1:=⟨(T.path x).length-1,by omega⟩
 have c:=g q (by show q<(T.path x).length; omega)
 have e:=c.2.2 (by show q+1=(T.path x).length; omega)
 rw[b]
 show aS L.t L.tn (L.t (aS L.t L.tn (bI L.t L.tn q x)).toNat 1)<0
 rw[<- j q (by omega),<- h.next a c.1,<- h.findF a]
 exact e
theorem P5(d:Inv0 L N)(x:Int):aS L.t L.tn (bI L.t L.tn (fK L.t L.tn x) x)<0:=by
 obtain⟨D,e,b⟩:=d.dep x
 obtain⟨K,f,a,c⟩:=nV D b
 rw[<- uG c a b (by omega)]; exact a
theorem vY.mem(h:vY T L)(f:T.ok)(d:Inv0 L N)(x y:Int):y∈T.path x <-> ∃ i,i<fK L.t L.tn x/\bI L.t L.tn i x=y:=by
 obtain⟨c,b⟩:=h.path f d x
 rw[<- c]
 constructor
 ·intro g
  obtain⟨i,a,e⟩:=List.getElem_of_mem g
  refine⟨i,a,?_⟩
  rw[<- b i a,List.getD_eq_getElem?_getD,List.getElem?_eq_getElem a]; exact e
 rintro ⟨i,a,rfl⟩
 rw[<- b i a,List.getD_eq_getElem?_getD,List.getElem?_eq_getElem a]; exact List.getElem_mem a
theorem vY.err(h:vY T L)(l:T.ok)(a:Inv0 L N)(id pa:Int):T.err id pa=L6 L.t L.tn id pa:=by
 unfold cO.err mG L6
 by_cases c:id=0
 ·rw[if_pos c,if_pos c]
 rw[if_neg c,if_neg c]
 by_cases d:dn T.x T.n id=true
 ·rw[if_pos d,if_pos ((h.find a id).1 d)]
 rw[if_neg d,if_neg (fun e=>d ((h.find a id).2 e))]
 have j:(¬ pa=0/\dn T.x T.n pa=false)<->(pa≠0/\aS L.t L.tn pa<0):=by
  rw[<- h.findF a]; exact Iff.rfl
 by_cases f : ¬ pa=0/\dn T.x T.n pa=false
 ·rw[if_pos f,if_pos (j.1 f)]
 rw[if_neg f,if_neg (fun e=>f (j.2 e))]
 have k:(32<=T.n\/4<=(gM T.x T.p T.n 4 pa).length)<->(32<=L.tn\/AY L.t L.tn pa):=by
  obtain⟨q,r⟩:=h.path l a pa
  have v:(T.path pa).length<=4:=cO.uP
  have:4<=(T.path pa).length<->AY L.t L.tn pa:=by
   constructor
   ·intro s i u
    have b:=(lu (l.stop pa)) i (by show i<(T.path pa).length; omega)
    rw[<- r i (by omega),<- h.find a]; exact b.1
   ·intro o
    rcases Nat.lt_or_ge (T.path pa).length 4 with b|b
    ·exfalso
     have m:=o _ b
     rw[q]at m
     have:=P5 a pa
     omega
    ·exact b
  show(32<=T.n\/4<=(T.path pa).length)<->_
  rw[this,h.n,a.vP]
 by_cases g:32<=T.n\/4<=(gM T.x T.p T.n 4 pa).length
 ·rw[if_pos g,if_pos (k.1 g)]
 rw[if_neg g,if_neg (fun e=>g (k.2 e))]
end
end Rt
end Go.Proofs.YtcbedgfikejkoaaDoor
namespace Go.Proofs.YtcbedgfikejkoaaDoor
open Go.RowKit Go
set_option linter.unusedVariables false
set_option maxRecDepth 20000
namespace Rt
section
variable {m:dB} {k:Int} {i:Nat}
theorem dB.IE(b:m.T.ok)(c:m.T.has k=true):m.idx k<m.T.n/\m.T.x (m.idx k)=k:=by
 obtain⟨j,a,e⟩:=eF c
 have:m.idx k=j:=ji b.inj a e
 rw[this]; exact⟨a,e⟩
theorem NC(x:Nat->Int)(id:Int) : ∀ n,(∀ i,i<n->x i≠id)->uJ (Fx.aI x n id) (n+1) id=n:=fun n _=>by
 unfold uJ
 rw[if_pos]
 unfold Fx.aI
 rw[if_pos rfl]
theorem Br{x y:Nat->Int}{k:Int} : ∀ {n:Nat},(∀ i,i<n->x i=y i)->uJ x n k=uJ y n k
 | 0,_=>rfl
 | n+1,h=>by unfold uJ; rw[h n (by omega),Br (n:=n) fun i a=>h i (by omega)]
theorem ND(x:Nat->Int){id k:Int}(n:Nat)(b:id≠k):uJ (Fx.aI x n id) (n+1) k=uJ x n k:=by
 have a:Fx.aI x n id n=id:=by unfold Fx.aI; rw[if_pos rfl]
 show(if Fx.aI x n id n=k then n else uJ (Fx.aI x n id) n k)=_
 rw[a,if_neg b]
 exact Br fun i c=>by unfold Fx.aI; rw[if_neg (by omega)]
theorem Bt{f g:Nat->Int}{o:Int} : ∀ {n:Nat},(∀ i,i<n->f i=g i)->qw f o n=qw g o n
 | 0,_=>rfl
 | n+1,h=>by unfold qw; rw[Bt (n:=n) fun i a=>h i (by omega),h n (by omega)]
theorem EJ{f:Nat->Int}{o v:Int}{k:Nat} : ∀ n,k<=n->qw (Fx.bT f k v) o (n+1)=qw f o n+if v / 1099511627776=o then 1 else 0
 | 0,h=>by
   obtain rfl:k=0:=by omega
   show 0+(if Fx.bT f 0 v 0 / 1099511627776=o then 1 else 0)=0+_
   rw[bH]
 | n+1,h=>by
   by_cases e:k=n+1
   ·subst e
    show qw (Fx.bT f (n+1) v) o (n+1)+(if Fx.bT f (n+1) v (n+1) / 1099511627776=o then 1 else 0)=_
    rw[bH,Bt (g:=f) fun i a=>xQ a]
   ·show qw (Fx.bT f k v) o (n+1)+(if Fx.bT f k v (n+1) / 1099511627776=o then 1 else 0)=qw f o n+(if f n / 1099511627776=o then 1 else 0)+_
    rw[EJ n (by omega),xR (by omega)]
    show _+(if f n / 1099511627776=o then 1 else 0)=_
    omega
theorem IG{f:Nat->Int}{o:Int} : ∀ n,qw f o n<=n
 | 0=>Nat.le_refl _
 | n+1=>by have:=IG (f:=f) (o:=o) n; unfold qw; split <;> omega
theorem nX{P:Nat->Bool}{n:Nat}:0<=fA P n <-> ∃ j,j<n/\P j=true:=by
 rcases fT P n with ⟨k,c,e,a⟩|⟨e,h⟩
 ·rw[e]; exact⟨fun _=>⟨k,c,a⟩,fun _=>by omega⟩
 rw[e]; exact⟨fun h=>by omega,fun⟨j,b,a⟩=>by rw[h j b]at a; cases a⟩
end
structure dW(m:dB)(L:dU):Prop where
 T:vY m.T L
 inn:m.inn=L.inn
 left:m.left=L.left
 known:m.known=L.known
 row : ∀ i,i<L.nn->wP m (L.id i)=L.R i
 own : ∀ a,a<6->m.own a=((qw L.id ((a:Int)+1) L.nn:Nat):Int)
 gi : ∀ i j,i<m.gn->j<m.gn->m.g i 0=m.g j 0->m.g i 1=m.g j 1->i=j
 gn:m.gn=L.gn
 g1 : ∀ q,q<L.gn -> ∃ j,j<m.gn/\m.g j=L.g q
 g2 : ∀ j,j<m.gn -> ∃ q,q<L.gn/\L.g q=m.g j
 ask : ∀(a:Nat) (r:Int),a<6->(jO m ((a:Int)+1) r=true <-> ∃ j,j<L.rn a/\L.rq a j=r)
 ga:Uz m
 li : ∀ p q,p<L.gn->q<L.gn->L.g p 0=L.g q 0->L.g p 1=L.g q 1->p=q
section
variable {m:dB} {L:dU} {N:Nat} {v:EvM} {x:Int}
theorem dW.node(h:dW m L)(a:Inv0 L N)(x:Int):m.T.has x=true<->0<=L.node x:=by rw[h.T.find a,a.node]
theorem dW.EK(h:dW m L)(a:Inv0 L N)(x:Int):m.T.has x=false<->L.node x<0:=by rw[h.T.findF a,a.node]
theorem Inv0.P6(a:Inv0 L N)(hx:0<=L.node x):(L.node x).toNat<L.nn/\L.id (L.node x).toNat=x:=by
 rw[a.node]at hx ⊢
 obtain⟨j,b,e,c⟩:=qp hx
 rw[e]
 rw[a.vP]at b
 exact⟨b,by show L.id j=x; rw[<- (a.tid j b).1]; exact c⟩
theorem dW.rk(h:dW m L)(c:Inv0 L N)(hx:0<=L.node x):wP m x=L.R (L.node x).toNat:=by
 obtain⟨a,b⟩:=c.P6 hx
 rw[<- h.row _ a,b]
theorem dW.xC(h:dW m L)(f:m.T.ok)(a:Inv0 L N)(hx:m.T.has x=true)(r:Nat->Int):dW (xC m x r) { L with R:=aY L.R (L.node x).toNat r }:=by
 have l:=(h.node a x).1 hx
 obtain⟨j,c⟩:=a.P6 l
 refine { h with row:=fun i b => ?_,T:=⟨h.T.has,h.T.n,h.T.par⟩ }
 show Fx.aI m.R (m.idx x) r (m.idx (L.id i))=aY L.R (L.node x).toNat r i
 unfold Fx.aI aY
 by_cases e:i=(L.node x).toNat
 ·subst e; rw[c,if_pos rfl,if_pos rfl]
 rw[if_neg e,if_neg]
 ·exact h.row i b
 intro g
 have d:=(dB.IE f ((h.T.has _).2 ⟨i,b,rfl⟩)).2
 have k:=(dB.IE f hx).2
 rw[g,k]at d
 exact e (a.inj i _ b j (by rw[c]; exact d.symm))
theorem dW.along(h:dW m L)(l:m.T.ok)(g:Inv0 L N)(f:(Nat->Int)->(Nat->Int) × Int)(x:Int) :
 bU m f (m.T.path x)=(dH f (rP L x) L.R (fK L.t L.tn x)).2/\((dH f (rP L x) L.R (fK L.t L.tn x)).2=0 -> ∀ i,i<L.nn->(lX m f (m.T.path x)).R (m.idx (L.id i))=(dH f (rP L x) L.R (fK L.t L.tn x)).1 i):=by
 obtain⟨z,p⟩:=h.T.path l g x
 have w:(m.T.path x).Nodup:=cO.tC l x
 have o : ∀ i,i<fK L.t L.tn x->0<=L.node (bI L.t L.tn i x):=fun i c=>by rw[g.node]; exact yZ c
 have y : ∀ i j,i<fK L.t L.tn x->j<fK L.t L.tn x->rP L x i=rP L x j->i=j:=fun i j c v e=>by
  have a:=g.P6 (o i c)
  have b:=g.P6 (o j v)
  have e:(L.node (bI L.t L.tn i x)).toNat=(L.node (bI L.t L.tn j x)).toNat:=e
  rw[e]at a
  have k:bI L.t L.tn i x=bI L.t L.tn j x:=a.2.symm.trans b.2
  rw[<- p i (by omega),<- p j (by omega)]at k
  exact vW w (by omega) (by omega) k
 obtain⟨A,B⟩:=zw (f:=f) (idx:=rP L x) (R:=L.R) y
 refine⟨?_,fun s i c => ?_⟩
 ·rw[A]
  unfold bU
  rw[z]
  exact wS fun i c=>by
   rw[p i (by omega)]
   exact h.rk g (o i c)
 have u:=(dB.IE l ((h.T.has _).2 ⟨i,c,rfl⟩)).2
 show(if m.T.x (m.idx (L.id i))∈m.T.path x then(f (m.R (m.idx (L.id i)))).1 else m.R (m.idx (L.id i)))=_
 rw[u,show m.R (m.idx (L.id i))=L.R i from h.row i c]
 have r:L.id i∈m.T.path x <-> ∃ q,q<fK L.t L.tn x/\rP L x q=i:=by
  rw[h.T.mem l g]
  constructor
  ·rintro ⟨q,d,e⟩
   exact⟨q,d,(xU g c d).2 e⟩
  ·rintro ⟨q,d,e⟩
   exact⟨q,d,(xU g c d).1 e⟩
 rcases B s i with ⟨n,k⟩|⟨n,q,d,k⟩
 ·rw[n,if_neg]
  rw[r]; rintro ⟨q,d,e⟩; exact k q d e
 rw[n,if_pos (r.2 ⟨q,d,k⟩)]
theorem dW.asked(h:dW m L)(f:bZ v=true)(r:Int):jO m v.o r=true<->0<=L.qo (bB v) r:=by
 obtain⟨a,c,d⟩:=dV (iI f)
 have:bB v=a:=by unfold bB; omega
 rw[this,d,h.ask a r c]
 unfold dU.qo
 rw[nX]
 constructor
 ·rintro ⟨j,b,e⟩; exact⟨j,b,decide_eq_true e⟩
 rintro ⟨j,b,e⟩; exact⟨j,b,of_decide_eq_true e⟩
theorem dW.grant(h:dW m L)(o r:Int):(CV m o r=true<->0<=L.grant o r)/\(0<=L.grant o r->(L.grant o r).toNat<L.gn/\mh m o r<m.gn/\m.g (mh m o r)=L.g (L.grant o r).toNat/\L.g (L.grant o r).toNat 0=o/\L.g (L.grant o r).toNat 1=r):=by
 have n:CV m o r=true <-> ∃ j,j<m.gn/\m.g j 0=o/\m.g j 1=r:=lZ
 have p:0<=L.grant o r <-> ∃ q,q<L.gn/\L.g q 0=o/\L.g q 1=r:=by
  unfold dU.grant
  rw[nX]
  constructor
  ·rintro ⟨j,a,e⟩; rw[Bool.and_eq_true]at e; exact⟨j,a,of_decide_eq_true e.1,of_decide_eq_true e.2⟩
  ·rintro ⟨j,a,b,c⟩; exact⟨j,a,by rw[decide_eq_true b,decide_eq_true c]; rfl⟩
 refine⟨?_,fun l => ?_⟩
 ·rw[n,p]
  constructor
  ·rintro ⟨j,a,b,c⟩
   obtain⟨q,d,e⟩:=h.g2 j a
   exact⟨q,d,by rw[e]; exact b,by rw[e]; exact c⟩
  rintro ⟨q,d,b,c⟩
  obtain⟨j,a,e⟩:=h.g1 q d
  exact⟨j,a,by rw[e]; exact b,by rw[e]; exact c⟩
 have : ∃ q,q<L.gn/\L.grant o r=(q:Int)/\L.g q 0=o/\L.g q 1=r:=by
  unfold dU.grant at l ⊢
  rcases fT (fun i=>decide (L.g i 0=o)&&decide (L.g i 1=r)) L.gn with ⟨q,d,e,k⟩|⟨e,_⟩
  ·rw[Bool.and_eq_true]at k; exact⟨q,d,e,of_decide_eq_true k.1,of_decide_eq_true k.2⟩
  ·omega
 obtain⟨q,d,e,b,c⟩:=this
 rw[e]
 obtain⟨j,a,f⟩:=h.g1 q d
 have:mh m o r=j:=uT h.gi a (by show m.g j 0=o; rw[f]; exact b) (by show m.g j 1=r; rw[f]; exact c)
 rw[this]
 exact⟨d,a,f,b,c⟩
theorem dW.Xj(h:dW m L)(i:m.T.ok)(g:Inv0 L N)(e:bZ v=true)(l:v.kind=1):jN m v=qx L v:=by
 obtain⟨a,j,d⟩:=dV (iI e)
 have k:bB v=a:=by unfold bB; omega
 unfold jN qx
 rw[k,h.own a j,d]
 have b:(5<=((qw L.id ((a:Int)+1) L.nn:Nat):Int)\/140737488355328<v.bM)<->(5<=qw L.id ((a:Int)+1) L.nn\/140737488355328<v.bM):=by omega
 have f:mo v=vg ((a:Int)+1) v.seq:=by rw[<- d,xS e]; rfl
 by_cases c:5<=qw L.id ((a:Int)+1) L.nn\/140737488355328<v.bM
 ·rw[if_pos c,if_pos (b.2 c)]
 rw[if_neg c,if_neg (fun q=>c (b.1 q)),h.T.err i g,f]
theorem dW.make(h:dW m L)(A:m.T.ok)(r:Inv0 L N)(l:bZ v=true)(D:v.kind=1)(z:qx L v=0):dW (Bl m v) (qz L v):=by
 obtain⟨k,g,H,I,J,K,M,y,P,Q,G⟩:=sW r l D z
 have t:=xS l
 have O:=lW l
 have f:mo v=vg v.o v.seq:=by rw[t]; rfl
 have w:m.T.has (mo v)=false:=by
  rw[h.T.findF r,f,nT]
  exact G.no
 have E : ∀ i,i<m.T.n->m.T.x i≠mo v:=fun i d e=>by
  have:=cO.uO d; rw[e,w]at this; cases this
 rw[y]
 have C : ∀ q,(m.T.put (mo v) v.node).has q=true<->(m.T.has q=true\/q=mo v):=fun q=>by
  rw[cO.iG,Bool.or_eq_true,decide_eq_true_iff]
  exact⟨fun h=>h.imp id Eq.symm,fun h=>h.imp id Eq.symm⟩
 have u : ∀ q,q<L.nn->L.id q≠mo v:=fun q F e=>by
  have:=(h.T.has _).2 ⟨q,F,rfl⟩; rw[e,w]at this; cases this
 refine {
  T:=⟨fun q => ?_,?_,fun i d => ?_⟩
  inn:=h.inn
  left:=h.left
  known:=h.known
  row:=fun i d => ?_
  own:=fun a s => ?_
  gi:=h.gi
  gn:=h.gn
  g1:=h.g1
  g2:=h.g2
  ask:=h.ask
  ga:=h.ga
  li:=h.li }
 ·show(m.T.put (mo v) v.node).has q=true <-> ∃ i,i<L.nn+1/\Fx.bT L.id k (vg v.o v.seq) i=q
  rw[C,h.T.has]
  constructor
  ·rintro (⟨i,d,e⟩|e)
   ·obtain⟨j,b,_,c⟩:=qC (k:=k) d
    exact⟨j,b,by rw[c]; exact e⟩
   exact⟨k,by omega,by rw[bH,e,f]⟩
  rintro ⟨i,d,e⟩
  rcases bW g d with rfl|⟨j,b,c,_,_⟩
  ·rw[bH]at e; exact .inr (by rw[<- e,f])
  rw[c]at e; exact .inl ⟨j,b,e⟩
 ·show m.T.n+1=L.nn+1
  rw[h.T.n]
 ·show(m.T.put (mo v) v.node).par (Fx.bT L.id k (vg v.o v.seq) i)=Fx.bT L.par k v.node i
  rw[cO.oJ]
  rcases bW g d with rfl|⟨j,b,c,_,_⟩
  ·rw[bH,bH,if_pos f]
  rw[c,c,if_neg (fun e=>u j b e.symm)]; exact h.T.par j b
 ·show Fx.aI m.R m.T.n _ (uJ (Fx.aI m.T.x m.T.n (mo v)) (m.T.n+1) (Fx.bT L.id k (vg v.o v.seq) i))=Fx.bT L.R k _ i
  rcases bW g d with rfl|⟨j,b,c,_,_⟩
  ·rw[bH,bH,<- f,NC _ _ _ E]; unfold Fx.aI; rw[if_pos rfl]
  rw[c,c,ND _ _ (fun e=>u j b e.symm)]
  have p:=(dB.IE A ((h.T.has _).2 ⟨j,b,rfl⟩)).1
  have p:uJ m.T.x m.T.n (L.id j)<m.T.n:=p
  unfold Fx.aI
  rw[if_neg (by omega)]
  exact h.row j b
 show aY m.own (bB v) (m.own (bB v)+1) a=((qw (Fx.bT L.id k (vg v.o v.seq)) ((a:Int)+1) (L.nn+1):Nat):Int)
 rw[EJ _ g,t]
 have B:(1099511627776*v.o+v.seq) / 1099511627776=v.o:=by omega
 rw[B]
 unfold aY
 by_cases e:a=bB v
 ·rw[if_pos e,<- e,h.own a s,if_pos (by unfold bB at e; omega)]; rfl
 rw[if_neg e,h.own a s,if_neg (by unfold bB at e; omega)]; rfl
attribute [local irreducible] fK dH bU in
theorem dW.ql(h:dW m L)(d:m.T.ok)(g:Inv0 L N)(i:bZ v=true):jY m v=lU L v:=by
 unfold jY lU
 by_cases c:jO m v.o v.req=true
 ·rw[if_pos c,if_pos ((h.asked i _).1 c)]
 rw[if_neg c,if_neg (fun e=>c ((h.asked i _).2 e))]
 obtain⟨j,_⟩:=h.T.path d g v.node
 have f:m.T.has v.node=false<->fK L.t L.tn v.node=0:=by
  rw[<- j]
  constructor
  ·intro b; rw[show m.T.path v.node = []from iX b]; rfl
  ·intro b
   cases e:m.T.has v.node with
   | false=>rfl
   | true=>rw[cO.step d e]at b; simp at b
 by_cases a:m.T.has v.node=false
 ·rw[if_pos a,if_pos (f.1 a)]
 rw[if_neg a,if_neg (fun e=>a (f.2 e))]
 exact(h.along d g _ _).1
theorem NG{k1 k2:Nat->Int}{n:Nat}{a b o r:Int}:Aj (Fx.aI k1 n a) (Fx.aI k2 n b) (n+1) o r=true<->(Aj k1 k2 n o r=true\/(a=o/\b=r)):=by
 rw[lZ,lZ]
 unfold Fx.aI
 constructor
 ·rintro ⟨j,f,c,d⟩
  by_cases e:j=n
  ·subst e; rw[if_pos rfl]at c d; exact .inr ⟨c,d⟩
  rw[if_neg e]at c d; exact .inl ⟨j,by omega,c,d⟩
 rintro (⟨j,f,c,d⟩|⟨c,d⟩)
 ·exact⟨j,by omega,by rw[if_neg (by omega)]; exact c,by rw[if_neg (by omega)]; exact d⟩
 exact⟨n,by omega,by rw[if_pos rfl]; exact c,by rw[if_pos rfl]; exact d⟩
theorem dW.II(h:dW m L)(w:bZ v=true)(d:dB)(f:dU)(i:d.an=m.an+1)(k:d.ao=Fx.aI m.ao m.an v.o)(l:d.ar=Fx.aI m.ar m.an v.req)(n:f.rn=aY L.rn (bB v) (L.rn (bB v)+1))(p:f.rq=aY L.rq (bB v) (aY (L.rq (bB v)) (L.rn (bB v)) v.req)) :
 (∀(a:Nat) (r:Int),a<6->(jO d ((a:Int)+1) r=true <-> ∃ j,j<f.rn a/\f.rq a j=r))/\(∀ o r,jO m o r=true->jO d o r=true)/\jO d v.o v.req=true:=by
 obtain⟨b,x,t⟩:=dV (iI w)
 have u:bB v=b:=by unfold bB; omega
 have g : ∀ o r,jO d o r=true<->(jO m o r=true\/(v.o=o/\v.req=r)):=fun o r=>by
  unfold jO; rw[i,k,l]; exact NG
 refine⟨fun a r q => ?_,fun o r h=>(g o r).2 (.inl h),(g _ _).2 (.inr ⟨rfl,rfl⟩)⟩
 rw[g,h.ask a r q,n,p,u]
 unfold aY
 by_cases e:a=b
 ·subst e
  rw[if_pos rfl,if_pos rfl]
  constructor
  ·rintro (⟨j,s,e⟩|⟨_,e⟩)
   ·exact⟨j,by omega,by show(if j=L.rn a then v.req else L.rq a j)=r; rw[if_neg (by omega)]; exact e⟩
   exact⟨L.rn a,by omega,by show(if L.rn a=L.rn a then v.req else _)=r; rw[if_pos rfl]; exact e⟩
  rintro ⟨j,s,e⟩
  have e:(if j=L.rn a then v.req else L.rq a j)=r:=e
  by_cases c:j=L.rn a
  ·rw[if_pos c]at e; exact .inr ⟨t,e⟩
  rw[if_neg c]at e; exact .inl ⟨j,by omega,e⟩
 rw[if_neg e,if_neg e]
 exact⟨fun h=>h.elim id fun h=>by omega,.inl⟩
attribute [local irreducible] fK dH bU in
theorem dW.take(h:dW m L)(F:m.T.ok)(E:Inv0 L N)(D:bZ v=true)(t:lU L v=0):dW (qI m v) (ig L v):=by
 unfold lU at t
 split at t
 ·cases t
 rename_i c1
 split at t
 ·cases t
 have I:=(h.along F E (fun x=>bL x v.o v.bM) v.node).2 t
 have G : ¬ jO m v.o v.req=true:=fun e=>c1 ((h.asked D _).1 e)
 obtain⟨J,K,M⟩:=h.II D (qI m v) (ig L v) rfl rfl rfl rfl rfl
 have s : ∀ j,(qI m v).g j=if j=m.gn then vM v else m.g j:=fun j=>rfl
 have A:vM v 0=v.o:=rfl
 have B:vM v 1=v.req:=rfl
 have y : ∀ j,j<m.gn -> ¬ (m.g j 0=v.o/\m.g j 1=v.req):=fun j d e=>G (by have:=h.ga j d; rw[e.1,e.2]at this; exact this)
 have u:=Fx.ow (fun i=>Eb v (L.g i)) L.gn
 refine {
  T:=⟨h.T.has,h.T.n,h.T.par⟩
  inn:=h.inn
  left:=h.left
  known:=h.known
  row:=I
  own:=h.own
  gi:=fun i j r d b a => ?_
  gn:=by show m.gn+1=L.gn+1; rw[h.gn]
  g1:=fun q f => ?_
  g2:=fun j d => ?_
  ask:=J
  ga:=fun i r => ?_
  li:=fun p q z f b a => ?_ }
 ·have r:i<m.gn+1:=r
  have d:j<m.gn+1:=d
  rw[s,s]at b a
  by_cases c:i=m.gn
  ·by_cases l:j=m.gn
   ·omega
   rw[if_pos c,if_neg l,A]at b; rw[if_pos c,if_neg l,B]at a
   exact absurd ⟨b.symm,a.symm⟩ (y j (by omega))
  by_cases l:j=m.gn
  ·rw[if_neg c,if_pos l,A]at b; rw[if_neg c,if_pos l,B]at a
   exact absurd ⟨b,a⟩ (y i (by omega))
  rw[if_neg c,if_neg l]at b a; exact h.gi i j (by omega) (by omega) b a
 ·have f:q<L.gn+1:=f
  show ∃ j,j<m.gn+1/\(qI m v).g j=Fx.bT L.g (Fx.down (fun i=>Eb v (L.g i)) L.gn) (vM v) q
  rcases bW u f with e|⟨j,d,a,_,_⟩
  ·rw[e,bH]; exact⟨m.gn,by omega,by rw[s,if_pos rfl]⟩
  rw[a]
  obtain⟨i,r,w⟩:=h.g1 j d
  exact⟨i,by omega,by rw[s,if_neg (by omega)]; exact w⟩
 ·have d:j<m.gn+1:=d
  show ∃ q,q<L.gn+1/\Fx.bT L.g (Fx.down (fun i=>Eb v (L.g i)) L.gn) (vM v) q=(qI m v).g j
  rw[s]
  by_cases c:j=m.gn
  ·rw[if_pos c]; exact⟨_,by omega,bH⟩
  rw[if_neg c]
  obtain⟨q,f,e⟩:=h.g2 j (by omega)
  obtain⟨O,H,_,a⟩:=qC (k:=Fx.down (fun i=>Eb v (L.g i)) L.gn) f
  exact⟨O,H,by rw[a]; exact e⟩
 ·have r:i<m.gn+1:=r
  rw[s]
  by_cases c:i=m.gn
  ·rw[if_pos c]; exact M
  rw[if_neg c]; exact K _ _ (h.ga i (by omega))
 have z:p<L.gn+1:=z
 have f:q<L.gn+1:=f
 have C : ∀ j,j<L.gn -> ¬ (L.g j 0=v.o/\L.g j 1=v.req):=fun j d e=>by
  obtain⟨i,r,w⟩:=h.g1 j d
  rw[<- w]at e
  exact y i r e
 have b:Fx.bT L.g (Fx.down (fun i=>Eb v (L.g i)) L.gn) (vM v) p 0=Fx.bT L.g (Fx.down (fun i=>Eb v (L.g i)) L.gn) (vM v) q 0:=b
 have a:Fx.bT L.g (Fx.down (fun i=>Eb v (L.g i)) L.gn) (vM v) p 1=Fx.bT L.g (Fx.down (fun i=>Eb v (L.g i)) L.gn) (vM v) q 1:=a
 generalize Fx.down (fun i=>Eb v (L.g i)) L.gn=k at b a u
 rcases bW u z with c|⟨j,d,f1,f2,f3⟩
 ·rcases bW u f with l|⟨j',hj',f1',f2',f3'⟩
  ·omega
  rw[c,bH,f1']at b a; exact absurd ⟨b.symm,a.symm⟩ (C j' hj')
 rcases bW u f with l|⟨j',hj',f1',f2',f3'⟩
 ·rw[l,bH,f1]at b a; exact absurd ⟨b,a⟩ (C j d)
 rw[f1,f1']at b a
 have:=h.li j j' d hj' b a
 omega
attribute [local irreducible] fK dH bU in
theorem dW.pF(h:dW m L)(l:m.T.ok)(k:Inv0 L N)(f:bZ v=true):jv m v=ny L v:=by
 unfold jv ny
 by_cases c:jO m v.o v.req=true
 ·rw[if_pos c,if_pos ((h.asked f _).1 c)]
 rw[if_neg c,if_neg (fun e=>c ((h.asked f _).2 e))]
 obtain⟨d,j⟩:=h.grant v.o v.of
 by_cases b:0<=L.grant v.o v.of
 ·obtain⟨p,r,i,s,t⟩:=j b
  have n:=d.2 b
  have e:(CV m v.o v.of=false\/m.g (mh m v.o v.of) 4≠0)<->(L.grant v.o v.of<0\/L.g (uH L v) 4≠0):=by
   rw[i,n]
   show _<->_\/L.g (L.grant v.o v.of).toNat 4≠0
   constructor
   ·rintro (h|h)
    ·cases h
    ·exact .inr h
   ·rintro (h|h)
    ·omega
    ·exact .inr h
  by_cases a:L.grant v.o v.of<0\/L.g (uH L v) 4≠0
  ·rw[if_pos a,if_pos (e.2 a)]
  rw[if_neg a,if_neg (fun q=>a (e.1 q)),i]
  exact(h.along l k _ _).1
 rw[if_pos (.inl (by
  cases e:CV m v.o v.of with
  | false=>rfl
  | true=>exact absurd (d.1 e) b)),if_pos (.inl (by omega))]
attribute [local irreducible] fK dH bU in
theorem dW.free(h:dW m L)(G:m.T.ok)(F:Inv0 L N)(I:bZ v=true)(k:ny L v=0):dW (oZ m v) (eO L v):=by
 unfold ny at k
 split at k
 ·cases k
 split at k
 ·cases k
 rename_i c2
 have E:0<=L.grant v.o v.of:=by rcases Rb (L.grant v.o v.of)with h1|h1; exact absurd (.inl h1) c2; exact h1
 obtain⟨C,D,t,O,P⟩:=(h.grant v.o v.of).2 E
 have H:=(h.along G F (fun x=>bO x v.o (L.g (uH L v) 3)) (L.g (uH L v) 2)).2 k
 obtain⟨J,K,M⟩:=h.II I (oZ m v) (eO L v) rfl rfl rfl rfl rfl
 have A:uH L v=(L.grant v.o v.of).toNat:=rfl
 have w : ∀ j,(oZ m v).g j=if j=mh m v.o v.of then upd (m.g (mh m v.o v.of)) 4 v.req else m.g j:=fun j=>rfl
 have u : ∀ q,(eO L v).g q=if q=uH L v then aY (L.g (uH L v)) 4 v.req else L.g q:=fun q=>rfl
 have B:upd (m.g (mh m v.o v.of)) 4 v.req=aY (L.g (uH L v)) 4 v.req:=by rw[t]; rfl
 have f : ∀ j p,(p=0\/p=1)->(oZ m v).g j p=m.g j p:=fun j p s=>by
  rw[w]
  by_cases c:j=mh m v.o v.of
  ·subst c; rw[if_pos rfl]; rcases s with rfl|rfl <;> rfl
  ·rw[if_neg c]
 have z : ∀ j p,(p=0\/p=1)->(eO L v).g j p=L.g j p:=fun j p s=>by
  rw[u]
  by_cases c:j=uH L v
  ·subst c; rw[if_pos rfl]; rcases s with rfl|rfl <;> rfl
  ·rw[if_neg c]
 refine {
  T:=⟨h.T.has,h.T.n,h.T.par⟩
  inn:=h.inn
  left:=h.left
  known:=h.known
  row:=fun i r => ?_
  own:=h.own
  gi:=fun i j r a l d=>h.gi i j r a (by rw[f i 0 (.inl rfl),f j 0 (.inl rfl)]at l; exact l) (by rw[f i 1 (.inr rfl),f j 1 (.inr rfl)]at d; exact d)
  gn:=h.gn
  g1:=fun q b => ?_
  g2:=fun j a => ?_
  ask:=J
  ga:=fun i r=>by rw[f i 0 (.inl rfl),f i 1 (.inr rfl)]; exact K _ _ (h.ga i r)
  li:=fun p q s b l d=>h.li p q s b (by rw[z p 0 (.inl rfl),z q 0 (.inl rfl)]at l; exact l) (by rw[z p 1 (.inr rfl),z q 1 (.inr rfl)]at d; exact d) }
 ·have:=H i r
  show(lX m (fun x=>bO x v.o (m.g (mh m v.o v.of) 3)) (m.T.path (m.g (mh m v.o v.of) 2))).R (m.idx (L.id i))=_
  rw[t]; exact this
 ·have b:q<L.gn:=b
  rw[u]
  by_cases c:q=uH L v
  ·rw[if_pos c]; exact⟨mh m v.o v.of,D,by rw[w,if_pos rfl,B]⟩
  rw[if_neg c]
  obtain⟨j,a,y⟩:=h.g1 q b
  refine⟨j,a,?_⟩
  rw[w,if_neg]
  ·exact y
  intro e
  rw[e,t]at y
  exact c (h.li q _ b C (congrFun y.symm 0) (congrFun y.symm 1))
 have a:j<m.gn:=a
 rw[w]
 by_cases c:j=mh m v.o v.of
 ·rw[if_pos c]; exact⟨uH L v,C,by rw[u,if_pos rfl,B]⟩
 rw[if_neg c]
 obtain⟨q,b,e⟩:=h.g2 j a
 refine⟨q,b,?_⟩
 rw[u,if_neg]
 ·exact e
 intro d
 rw[d]at e
 exact c (h.gi j _ a D (by rw[t,<- e,A]) (by rw[t,<- e,A]))
theorem dW.move(h:dW m L)(i:m.T.ok)(a:Inv0 L N)(k:bZ v=true)(j:v.kind=5):jX m v=vO L v/\(vO L v=0->dW (Ep m v) (Cn L v)):=by
 obtain⟨b,l,n⟩:=Ih k j
 unfold jX vO
 by_cases c:L.node v.node<0
 ·rw[if_pos c,if_pos ((h.EK a _).2 c)]
  exact⟨rfl,fun h=>by cases h⟩
 have f:0<=L.node v.node:=by omega
 rw[if_neg c,if_neg (fun e=>c ((h.EK a _).1 e)),h.inn]
 have g:oU m v=Ec L v:=by unfold oU Ec; rw[<- h.rk a f]; rfl
 have e:(v.dst<1\/6<v.dst\/L.inn (v.dst-1).toNat=false)<->L.inn (v.dst-1).toNat=false:=⟨fun h=>by rcases h with h|h|h; omega; omega; exact h,fun h => .inr (.inr h)⟩
 by_cases d:L.inn (v.dst-1).toNat=false
 ·rw[if_pos d,if_pos (e.2 d)]
  exact⟨rfl,fun h=>by cases h⟩
 rw[if_neg d,if_neg (fun q=>d (e.1 q)),g]
 refine⟨rfl,fun _ => ?_⟩
 have:=h.xC i a ((h.node a _).2 f) (Ec L v).1
 unfold Ep Cn
 rw[g]; exact this
theorem dW.raise(h:dW m L)(f:m.T.ok)(a:Inv0 L N):jM m v=yU L v/\(yU L v=0->dW (tu m v) (Cm L v)):=by
 unfold jM yU
 by_cases c:L.node v.node<0
 ·rw[if_pos c,if_pos ((h.EK a _).2 c)]
  exact⟨rfl,fun h=>by cases h⟩
 have b:0<=L.node v.node:=by omega
 have d:m.R (m.idx v.node)=L.R (L.node v.node).toNat:=h.rk a b
 rw[if_neg c,if_neg (fun e=>c ((h.EK a _).1 e)),d]
 refine⟨rfl,fun _ => ?_⟩
 unfold tu Cm
 rw[d]
 exact h.xC f a ((h.node a _).2 b) _
theorem dW.does(h:dW m L)(d:m.T.ok)(c:Inv0 L N)(f:bZ v=true):fB m v=lV L v/\(lV L v=0->dW (gP m v) (jA L v)):=by
 have l:=mV f
 unfold fB lV gP jA
 by_cases a:v.kind=1
 ·rw[if_pos a,if_pos a,if_pos a,if_pos a]; exact⟨h.Xj d c f a,fun e=>h.make d c f a e⟩
 rw[if_neg a,if_neg a,if_neg a,if_neg a]
 by_cases g:v.kind=2
 ·rw[if_pos g,if_pos g,if_pos g,if_pos g]; exact h.raise d c
 rw[if_neg g,if_neg g,if_neg g,if_neg g]
 by_cases i:v.kind=3
 ·rw[if_pos i,if_pos i,if_pos i,if_pos i]; exact⟨h.ql d c f,fun e=>h.take d c f e⟩
 rw[if_neg i,if_neg i,if_neg i,if_neg i]
 by_cases j:v.kind=4
 ·rw[if_pos j,if_pos j,if_pos j,if_pos j]; exact⟨h.pF d c f,fun e=>h.free d c f e⟩
 rw[if_neg j,if_neg j,if_neg j,if_neg j]
 by_cases b:v.kind=5
 ·rw[if_pos b,if_pos b,if_pos b,if_pos b]; exact h.move d c f b
 rw[if_neg b,if_neg b,if_neg b,if_neg b]
 by_cases k:v.kind=6
 ·rw[if_pos k,if_pos k,if_pos k]
  exact⟨rfl,fun _ => { h with T:=⟨h.T.has,h.T.n,h.T.par⟩,inn:=by show aY m.inn _ true=aY L.inn _ true; rw[h.inn] }⟩
 rw[if_neg k,if_neg k,if_neg k]
 exact⟨rfl,fun _ => { h with T:=⟨h.T.has,h.T.n,h.T.par⟩,left:=by show aY m.left _ true=aY L.left _ true; rw[h.left] }⟩
theorem dW.apply(h:dW m L)(f:m.T.ok)(d:Inv0 L N)(v:EvM):bF m v=cK L v/\dW (iN m v) (dR L v):=by
 have e:bF m v=cK L v:=by
  unfold bF cK
  rw[h.known,h.inn,h.left]
  cases b:bZ v with
  | false=>rfl
  | true =>
    rw[(h.does f d b).1]
 refine⟨e,?_⟩
 unfold iN dR
 rw[e]
 by_cases c:cK L v=0
 ·rw[if_pos c,if_pos c]
  have b:=(Tz (kJ c)).1
  have g:lV L v=0:=by
   unfold cK at c
   rw[if_neg (by rw[b]; decide)]at c
   split at c; · cases c
   split at c; · cases c
   split at c; · cases c
   exact c
  have a:=(h.does f d b).2 g
  exact { a with T:=⟨a.T.has,a.T.n,a.T.par⟩,known:=by show aY (gP m v).known _ _=aY (jA L v).known _ _; rw[a.known] }
 rw[if_neg c,if_neg c]; exact h
theorem dW.sound(h:dW m L)(k:m.T.ok)(c:Inv0 L N):W9 m := {
 own:=fun a l=>by
  have b:=IG (f:=L.id) (o:=(a:Int)+1) L.nn
  have d:=c.nn
  rw[h.own a l]; omega
 row:=fun i g p n=>by
  obtain⟨j,hj,e⟩:=(h.T.has _).1 (cO.uO g)
  have b:=h.row j hj
  rw[e]at b
  have d:m.idx (m.T.x i)=i:=ji k.inj g rfl
  unfold wP at b
  rw[d]at b
  rw[b]
  exact uD (c.may j hj) p n
 ga:=h.ga
 kn:=by rw[h.known]; exact c.kn }
end
end Rt
end Go.Proofs.YtcbedgfikejkoaaDoor
namespace Go.Proofs.YtcbedgfikejkoaaDoor
open Go.RowKit Go
set_option linter.unusedVariables false
set_option maxRecDepth 20000
namespace Rt
def nE(x:Nat->Int):Int:=x 0*18446744073709551616+x 1
structure xE(L:dU):Prop where
 up : ∀ i j,i<j->j<L.gn->nE (L.g i)<nE (L.g j)
 wf : ∀ q,q<L.gn->je (L.g q 1)/\je (L.g q 4)
 ga : ∀ q,q<L.gn->1<=L.g q 0/\L.g q 0<=6 /\ ∃ j,j<L.rn (L.g q 0-1).toNat/\L.rq (L.g q 0-1).toNat j=L.g q 1
section
variable {L:dU} {N:Nat} {v:EvM}
theorem NH(a:je v.req){x:Nat->Int}(hx:je (x 1)):Eb v x=true<->nE (vM v)<nE x:=by
 unfold Eb nE je at *
 rw[Bool.or_eq_true,Bool.and_eq_true,decide_eq_true_iff,decide_eq_true_iff,decide_eq_true_iff]
 show v.o<x 0\/x 0=v.o/\v.req<x 1<->v.o*18446744073709551616+v.req<x 0*18446744073709551616+x 1
 omega
theorem uU{a:Nat}{r:Int}(d:dU)(f:d.rn=aY L.rn a (L.rn a+1))(g:d.rq=aY L.rq a (aY (L.rq a) (L.rn a) r)):(∀ b y,(∃ j,j<L.rn b/\L.rq b j=y) -> ∃ j,j<d.rn b/\d.rq b j=y) /\ ∃ j,j<d.rn a/\d.rq a j=r:=by
 rw[f,g]
 unfold aY
 refine⟨fun b y ⟨j,h,e⟩ => ?_,L.rn a,by rw[if_pos rfl]; omega,by rw[if_pos rfl,if_pos rfl]⟩
 by_cases c:b=a
 ·subst c
  exact⟨j,by rw[if_pos rfl]; omega,by rw[if_pos rfl,if_neg (by omega)]; exact e⟩
 exact⟨j,by rw[if_neg c]; exact h,by rw[if_neg c]; exact e⟩
attribute [local irreducible] fK dH in
theorem Gt(h:xE L)(J:bZ v=true)(M:jQ v)(t:lU L v=0):xE (ig L v):=by
 have z:=lW J
 have m:je v.req:=M.req
 unfold lU at t
 split at t
 ·cases t
 rename_i c1
 obtain⟨w,x⟩:=uU (L:=L) (a:=bB v) (r:=v.req) (ig L v) rfl rfl
 have K : ∀ j,j<L.gn -> ¬ (L.g j 0=v.o/\L.g j 1=v.req):=fun j f e=>c1 (by
  obtain⟨_,_,q,b,y⟩:=h.ga j f
  rw[e.1,e.2]at y
  rw[e.1]at b
  unfold dU.qo
  rw[nX]
  exact⟨q,b,decide_eq_true y⟩)
 obtain⟨k,u⟩ : ∃ k,k=Fx.down (fun i=>Eb v (L.g i)) L.gn:=⟨_,rfl⟩
 have l:k<=L.gn:=by rw[u]; exact Fx.ow _ _
 have I : ∀ q,k<=q->q<L.gn->nE (vM v)<nE (L.g q):=fun q D d=>(NH m (h.wf q d).1).1 (Fx.BK (P:=fun i=>Eb v (L.g i)) (n:=L.gn) (i:=q) (by omega) d)
 have H : ∀ q,q<k->nE (L.g q)<nE (vM v):=fun q D=>by
  obtain⟨j,rfl⟩ : ∃ j,k=j+1:=⟨k-1,by omega⟩
  have d:=Fx.BL (P:=fun i=>Eb v (L.g i)) (n:=L.gn) (j:=j) u.symm
  have E : ¬ nE (vM v)<nE (L.g j):=fun e=>by
   have:=(NH m (h.wf j (by omega)).1).2 e
   rw[this]at d; cases d
  have F:nE (L.g j)<nE (vM v):=by
   rcases Int.lt_trichotomy (nE (L.g j)) (nE (vM v))with c|c|c
   ·exact c
   ·exfalso
    have G:=(h.wf j (by omega)).1
    refine K j (by omega) ?_
    unfold nE at c
    have c:L.g j 0*18446744073709551616+L.g j 1=v.o*18446744073709551616+v.req:=c
    unfold je at G m
    omega
   ·exact absurd c E
  by_cases e:q=j
  ·rw[e]; exact F
  ·have:=h.up q j (by omega) (by omega); omega
 have p:(ig L v).g=Fx.bT L.g k (vM v):=by rw[u]; rfl
 have s:(ig L v).gn=L.gn+1:=rfl
 refine⟨fun i j N f => ?_,fun q b => ?_,fun q b => ?_⟩
 ·rw[s]at f
  rw[p]
  rcases bW l (show i<L.gn+1 by omega)with rfl|⟨q,b,eq,q1,q2⟩
  ·rcases bW l f with rfl|⟨r,hr,er,w,x⟩
   ·omega
   rw[bH,er]; exact I r (by omega) hr
  rcases bW l f with rfl|⟨r,hr,er,w,x⟩
  ·rw[bH,eq]; exact H q (by omega)
  rw[eq,er]; exact h.up q r (by omega) hr
 ·rw[s]at b
  rw[p]
  rcases bW l b with rfl|⟨r,hr,er,_,_⟩
  ·rw[bH]; exact⟨m,by show je 0; unfold je; omega⟩
  rw[er]; exact h.wf r hr
 rw[s]at b
 rw[p]
 rcases bW l b with rfl|⟨r,hr,er,_,_⟩
 ·rw[bH]; exact⟨z.1,z.2.1,x⟩
 rw[er]
 obtain⟨A,B,C⟩:=h.ga r hr
 exact⟨A,B,w _ _ C⟩
attribute [local irreducible] fK dH in
theorem Gu(h:xE L)(w:bZ v=true)(s:jQ v)(u:ny L v=0):xE (eO L v):=by
 obtain⟨t,x⟩:=uU (L:=L) (a:=bB v) (r:=v.req) (eO L v) rfl rfl
 have e : ∀ q,(eO L v).g q=if q=uH L v then aY (L.g (uH L v)) 4 v.req else L.g q:=fun q=>rfl
 have b : ∀ j p,(p=0\/p=1)->(eO L v).g j p=L.g j p:=fun j p o=>by
  rw[e]
  by_cases c:j=uH L v
  ·subst c; rw[if_pos rfl]; rcases o with rfl|rfl <;> rfl
  ·rw[if_neg c]
 refine⟨fun i j m n => ?_,fun q d => ?_,fun q d => ?_⟩
 ·unfold nE
  rw[b i 0 (.inl rfl),b i 1 (.inr rfl),b j 0 (.inl rfl),b j 1 (.inr rfl)]
  exact h.up i j m n
 ·rw[b q 1 (.inr rfl)]
  refine⟨(h.wf q d).1,?_⟩
  rw[e]
  by_cases c:q=uH L v
  ·rw[if_pos c]; exact s.req
  rw[if_neg c]; exact(h.wf q d).2
 rw[b q 0 (.inl rfl),b q 1 (.inr rfl)]
 obtain⟨f,k,l⟩:=h.ga q d
 exact⟨f,k,t _ _ l⟩
theorem Gv(h:xE L)(e:jQ v):xE (dR L v):=by
 unfold dR
 by_cases c:cK L v=0
 ·rw[if_pos c]
  have b:=(Tz (kJ c)).1
  have a:lV L v=0:=by
   unfold cK at c
   rw[if_neg (by rw[b]; decide)]at c
   split at c; · cases c
   split at c; · cases c
   split at c; · cases c
   exact c
  have d:xE (jA L v):=by
   unfold lV at a
   unfold jA
   by_cases f:v.kind=1
   ·rw[if_pos f]; exact⟨h.up,h.wf,h.ga⟩
   rw[if_neg f]at a ⊢
   by_cases g:v.kind=2
   ·rw[if_pos g]; exact⟨h.up,h.wf,h.ga⟩
   rw[if_neg g]at a ⊢
   by_cases i:v.kind=3
   ·rw[if_pos i]at a ⊢; exact Gt h b e a
   rw[if_neg i]at a ⊢
   by_cases j:v.kind=4
   ·rw[if_pos j]at a ⊢; exact Gu h b e a
   rw[if_neg j]at a ⊢
   by_cases k:v.kind=5
   ·rw[if_pos k]; exact⟨h.up,h.wf,h.ga⟩
   rw[if_neg k]
   by_cases l:v.kind=6
   ·rw[if_pos l]; exact⟨h.up,h.wf,h.ga⟩
   ·rw[if_neg l]; exact⟨h.up,h.wf,h.ga⟩
  exact⟨d.up,d.wf,d.ga⟩
 rw[if_neg c]; exact h
theorem NI(k a:Nat):xE (oO k a).core:=⟨fun i j _ h=>absurd h (Nat.not_lt_zero _),fun q h=>absurd h (Nat.not_lt_zero _),fun q h=>absurd h (Nat.not_lt_zero _)⟩
theorem dW.new(k l d e f c b g:Nat):dW (tH k l d e f c b) (oO k g).core where
 T:=⟨fun q=>⟨fun h=>(nomatch h),fun⟨i,h,_⟩=>absurd h (Nat.not_lt_zero _)⟩,rfl,fun i h=>absurd h (Nat.not_lt_zero _)⟩
 inn:=rfl
 left:=rfl
 known:=rfl
 row:=fun i h=>absurd h (Nat.not_lt_zero _)
 own:=fun a _=>rfl
 gi:=fun i j h=>absurd h (Nat.not_lt_zero _)
 gn:=rfl
 g1:=fun q h=>absurd h (Nat.not_lt_zero _)
 g2:=fun q h=>absurd h (Nat.not_lt_zero _)
 ask:=fun a r _=>⟨fun h=>(nomatch h),fun⟨j,h,_⟩=>absurd h (Nat.not_lt_zero _)⟩
 ga:=fun i h=>absurd h (Nat.not_lt_zero _)
 li:=fun i j h=>absurd h (Nat.not_lt_zero _)
structure Yd(L:dU)(m:dB)(l:List Int)(gl:List CW):Prop where
 nn:l.length=L.nn
 gn:gl.length=L.gn
 n : ∀ k,k<L.nn->l.getD k 0=L.id k/\m.T.par (l.getD k 0)=L.par k/\wP m (l.getD k 0)=L.R k
 g : ∀ k,k<L.gn->(gl.getD k g0).x=L.g k
theorem Yd.of{m:dB}{l:List Int}{c:List CW}(h:dW m L)(F:Inv0 L N)(u:xE L)(B:l.Pairwise (· < ·) /\ ∀ k,k∈l<->m.T.has k=true)(s:Xf m c):Yd L m l c:=by
 have w:l=(List.range L.nn).map L.id:=qO B.1 (by
  rw[List.pairwise_map]
  exact(List.pairwise_lt_range (n:=L.nn)).imp_of_mem fun {a b} _ hb hab=>F.rise a b hab (List.mem_range.1 hb)) fun k=>by
  rw[B.2,h.T.has,List.mem_map]
  exact⟨fun⟨i,d,e⟩=>⟨i,List.mem_range.2 d,e⟩,fun⟨i,d,e⟩=>⟨i,List.mem_range.1 d,e⟩⟩
 have y:c.map EH=(List.range L.gn).map fun q=>nE (L.g q):=qO (by rw[List.pairwise_map]; exact s.up) (by
  rw[List.pairwise_map]
  exact(List.pairwise_lt_range (n:=L.gn)).imp_of_mem fun {a b} _ hb hab=>u.up a b hab (List.mem_range.1 hb)) fun k=>by
  rw[List.mem_map,List.mem_map]
  constructor
  ·rintro ⟨x,v,e⟩
   obtain⟨i,d,p⟩:=s.mem x v
   obtain⟨q,o,r⟩:=h.g2 i d
   refine⟨q,List.mem_range.2 o,?_⟩
   rw[r,<- p]; exact e
  ·rintro ⟨q,o,e⟩
   obtain⟨j,G,C⟩:=h.g1 q (List.mem_range.1 o)
   obtain⟨x,v,E⟩:=s.all j G
   refine⟨x,v,?_⟩
   rw[<- e,<- C,<- E]; rfl
 have I:c.length=L.gn:=by have:=congrArg List.length y; rwa [List.length_map,List.length_map,List.length_range]at this
 refine⟨by rw[w,List.length_map,List.length_range],I,fun k f => ?_,fun k f => ?_⟩
 ·have:l.getD k 0=L.id k:=by
   rw[w,List.getD_eq_getElem?_getD,List.getElem?_eq_getElem (by rw[List.length_map,List.length_range]; exact f)]
   simp
  rw[this]
  exact⟨rfl,h.T.par k f,h.row k f⟩
 have t:k<c.length:=by omega
 have H:c.getD k g0∈c:=by rw[List.getD_eq_getElem?_getD,List.getElem?_eq_getElem t]; exact List.getElem_mem t
 have D:EH (c.getD k g0)=nE (L.g k):=by
  have A:=congrArg (fun z=>z.getD k 0) y
  simp only[List.getD_eq_getElem?_getD,List.getElem?_map,List.getElem?_eq_getElem t,List.getElem?_range f]at A
  rw[List.getD_eq_getElem?_getD,List.getElem?_eq_getElem t]; exact A
 obtain⟨i,d,p⟩:=s.mem _ H
 obtain⟨q,o,r⟩:=h.g2 i d
 have J:nE (L.g q)=nE (L.g k):=by rw[r,<- p,<- D]; rfl
 have:q=k:=by
  rcases Nat.lt_trichotomy q k with h5|h5|h5
  ·have:=u.up q k h5 f; omega
  ·exact h5
  ·have:=u.up k q h5 o; omega
 rw[p,<- r,this]
end
end Rt
end Go.Proofs.YtcbedgfikejkoaaDoor
namespace Go.Proofs.YtcbedgfikejkoaaDoor
open Go.RowKit Go.WideShapes Go.ChangeShapes Go.Deep
def At4(a k1 k2 c:IntKind)(w:World)(b off:Nat)(x0 x1 x2 d:Int):Prop :=
 w.cell? ⟨b,off,none⟩=some (.int a x0)/\w.cell? ⟨b,off+1,none⟩=some (.int k1 x1)/\w.cell? ⟨b,off+2,none⟩=some (.int k2 x2)/\w.cell? ⟨b,off+3,none⟩=some (.int c d)
def Wf4(a k1 k2 b:IntKind)(x0 x1 x2 c:Int):Prop:=(Lit.int a x0).wf=true/\(Lit.int k1 x1).wf=true/\(Lit.int k2 x2).wf=true/\(Lit.int b c).wf=true
def Xk(g k1 k2 h:IntKind)(w:World)(a:Option Addr)(len:Nat)(c d e f:Nat->Int):Prop :=
 ∀ i,i<len->(∃ b j,a=some ⟨b,j,none⟩/\At4 g k1 k2 h w b (j+i*4) (c i) (d i) (e i) (f i))/\Wf4 g k1 k2 h (c i) (d i) (e i) (f i)
theorem Xk.up{m k1 k2 n:IntKind}{w w':World}{a:Option Addr}{len:Nat}{g j k l:Nat->Int}(h:Xk m k1 k2 n w a len g j k l)(f:Below w.heap.size w w'):Xk m k1 k2 n w' a len g j k l:=by
 intro i q
 obtain⟨⟨b,d,e,o,r,s,t⟩,hw⟩:=h i q
 have c:=block_lt_of_cell o
 dsimp only at c
 exact⟨⟨b,d,e,(f.cell (p:=⟨b,d+i*4,none⟩) c).trans o,(f.cell (p:=⟨b,d+i*4+1,none⟩) c).trans r,(f.cell (p:=⟨b,d+i*4+2,none⟩) c).trans s,(f.cell (p:=⟨b,d+i*4+3,none⟩) c).trans t⟩,hw⟩
instance {g k1 k2 i:IntKind} {w w':World} {a:Option Addr} {len:Nat} {c d e f:Nat->Int}:Rt.Tr w w' (Xk g k1 k2 i w a len c d e f) (Xk g k1 k2 i w' a len c d e f):=⟨fun b h=>h.up b⟩
end Go.Proofs.YtcbedgfikejkoaaDoor
namespace Go.Proofs.YtcbedgfikejkoaaDoor
open Go.RowKit Go.WideShapes Go.ChangeShapes Go.Deep
def tJ(P:Program):Nat->TypeId->Option (List (Option IntKind))
 | 0,_=>none
 | d+1,t=>match P.underlying t with
   | some (.int k)=>some [some k]
   | some .bool=>some [none]
   | some (.array n e)=>(tJ P d e).bind fun a=>if P.cellsOf e=a.length/\P.cellsOf t=n*a.length then some (List.replicate n a).flatten else none
   | some (.struct fs)=>(fs.toList.foldlM (fun l f=>(tJ P d f.type).bind fun a=>if f.offset=l.length/\P.cellsOf f.type=a.length then some (l++a)else none) []).bind fun l=>if P.cellsOf t=l.length then some l else none
   | _=>none
def P7(k:Option IntKind)(v:Value):Prop:=match k with|some k => ∃ n,v = .int k n/\(Lit.int k n).wf=true|none => ∃ b,v = .bool b
def Rw(ks:List (Option IntKind))(cs:List Value):Prop:=cs.length=ks.length /\ ∀(j:Nat) (k:Option IntKind),ks[j]? = some k -> ∃ v,cs[j]? = some v/\P7 k v
theorem vZ{ks:List (Option IntKind)}{k:Option IntKind} : ∀(n j:Nat),(List.replicate n ks).flatten[j]? = some k->ks[j % ks.length]? = some k/\j / ks.length<n
 | 0,j,h=>by simp at h
 | n+1,j,h=>by
   rw[List.replicate_succ,List.flatten_cons]at h
   by_cases b:j<ks.length
   ·rw[List.getElem?_append_left b]at h
    rw[Nat.mod_eq_of_lt b,Nat.div_eq_of_lt b]; exact⟨h,by omega⟩
   ·rw[List.getElem?_append_right (by omega)]at h
    have c:0<ks.length:=by
     rcases Nat.eq_zero_or_pos ks.length with e|e
     ·obtain⟨a,_⟩:=vZ n _ h
      have:=(List.getElem?_eq_some_iff.1 a).1; omega
     ·exact e
    obtain⟨a,d⟩:=vZ n _ h
    rw[Nat.mod_eq_sub_mod (by omega),Nat.div_eq_sub_div c (by omega)]
    exact⟨a,by omega⟩
section
variable {H:Type} {enc:TypeId × Value->H} {P:Program} {w:World} {base:Nat} {spare:Nat->Bool} {held:Bool}
theorem zx{ks:List (Option IntKind)}{cs:List Value}{o s j:Nat}{k:Option IntKind}(h:Rw ks ((cs.drop o).take s))(e:s=ks.length)(b:ks[j]? = some k) : ∃ v,cs[o+j]? = some v/\P7 k v:=by
 obtain⟨n,a,c⟩:=h.2 j k b
 have d:=(List.getElem?_eq_some_iff.1 b).1
 rw[List.getElem?_take_of_lt (by omega),List.getElem?_drop]at a
 exact⟨n,a,c⟩
theorem wh : ∀(d:Nat) (t:TypeId) (q:List (Option IntKind)),tJ P d t=some q -> ∀(C:Nat) (p:List Value) (x:DataW H × List MemPlace),DataW.trod enc P w base spare held C t p=some x->Rw q p
 | 0,_,_,h=>by simp[tJ]at h
 | d+1,t,q,h=>by
   intro C p x z
   unfold tJ at h
   split at h
   ·rename_i k hu
    simp only[Option.some.injEq]at h; subst h
    obtain⟨n,rfl,_,U⟩:=DataW.trod_int hu z
    refine⟨rfl,fun j W a => ?_⟩
    match j,a with
    | 0,a=>simp at a; subst a; exact⟨_,rfl,n,rfl,U⟩
    | j+1,a=>simp at a
   ·rename_i hu
    simp only[Option.some.injEq]at h; subst h
    obtain⟨b,rfl,_⟩:=DataW.trod_bool hu z
    refine⟨rfl,fun j W a => ?_⟩
    match j,a with
    | 0,a=>simp at a; subst a; exact⟨_,rfl,b,rfl⟩
    | j+1,a=>simp at a
   ·rename_i n e hu
    obtain⟨I,S,h⟩:=Option.bind_eq_some_iff.1 h
    split at h
    ·rename_i hc
     simp only[Option.some.injEq]at h; subst h
     obtain⟨Y,m,_,_,c,F,J⟩:=DataW.trod_array hu z
     refine⟨by rw[c,hc.2]; simp,fun j k a => ?_⟩
     obtain⟨r,A⟩:=vZ n j a
     have u:=J (j / I.length) A
     rw[List.getElem?_eq_getElem (by omega),hc.1]at u
     have:=zx (wh d e I S _ _ _ u) rfl r
     rw[Nat.mul_comm,Nat.div_add_mod]at this
     exact this
    ·cases h
   ·rename_i fs hu
    obtain⟨l,c,h⟩:=Option.bind_eq_some_iff.1 h
    split at h
    ·rename_i hc
     simp only[Option.some.injEq]at h; subst h
     obtain⟨Y,m,_,_,T,F,K⟩:=DataW.trod_struct hu z
     refine⟨by rw[T,hc],?_⟩
     have M : ∀ f,f∈fs.toList -> ∃ y,DataW.trod enc P w base spare held m f.type ((p.drop f.offset).take (P.cellsOf f.type))=some y:=by
      intro f N
      obtain⟨i,u,e⟩:=List.mem_iff_getElem.1 N
      have E:i<fs.size:=by simpa using u
      have r:fs[i]? = some f:=by rw[Array.getElem?_eq_getElem E]; simpa using e
      have:=K i f r
      rw[List.getElem?_eq_getElem (by rw[F]; exact E)]at this
      exact⟨_,this⟩
     have X : ∀(L:List Field) (o:List (Option IntKind)),(∀ f,f∈L -> ∃ y,DataW.trod enc P w base spare held m f.type ((p.drop f.offset).take (P.cellsOf f.type))=some y)->(∀(j:Nat) (k:Option IntKind),o[j]? = some k -> ∃ v,p[j]? = some v/\P7 k v) -> ∀ l,L.foldlM (fun l f=>(tJ P d f.type).bind fun q=>if f.offset=l.length/\P.cellsOf f.type=q.length then some (l++q)else none) o=some l -> ∀(j:Nat) (k:Option IntKind),l[j]? = some k -> ∃ v,p[j]? = some v/\P7 k v:=by
      intro L
      induction L with
      | nil=>intro o _ B l c; simp at c; subst c; exact B
      | cons f L ih =>
        intro o D B l c
        rw[List.foldlM_cons]at c
        obtain⟨Z,r,A⟩:=Option.bind_eq_some_iff.1 c
        obtain⟨G,R,s⟩:=Option.bind_eq_some_iff.1 r
        split at s
        ·rename_i hcc
         simp only[Option.some.injEq]at s; subst s
         refine ih (o++G) (fun g O=>D g (List.mem_cons_of_mem _ O)) (fun j k a => ?_) l A
         by_cases Q:j<o.length
         ·rw[List.getElem?_append_left Q]at a; exact B j k a
         ·rw[List.getElem?_append_right (by omega)]at a
          obtain⟨y,V⟩:=D f (List.mem_cons_self ..)
          have:=zx (wh d f.type G R _ _ _ V) hcc.2 a
          rw[hcc.1,show o.length+(j-o.length)=j by omega]at this
          exact this
        ·cases s
     exact X fs.toList [] M (fun j k a=>by simp at a) l c
    ·cases h
   ·cases h
end
def numOf:Value->Int | .int _ n=>n|_=>0
theorem P7.num{k:IntKind}{v:Value}(h:P7 (some k) v):v = .int k (numOf v)/\(Lit.int k (numOf v)).wf=true:=by
 obtain⟨n,rfl,a⟩:=h; exact⟨rfl,a⟩
theorem Xl{n:Int}(h:(Lit.int .u8 n).wf=true):0<=n/\n<=255:=by simp[Lit.wf,IntKind.min,IntKind.max,IntKind.bits,IntKind.signed]at h; omega
theorem U3{n:Int}(h:(Lit.int .u64 n).wf=true):0<=n/\n<18446744073709551616:=by simp[Lit.wf,IntKind.min,IntKind.max,IntKind.bits,IntKind.signed]at h; omega
theorem NJ{n:Int}(h:(Lit.int .i64 n).wf=true) : -9223372036854775808<=n/\n<=9223372036854775807:=by simp[Lit.wf,IntKind.min,IntKind.max,IntKind.bits,IntKind.signed]at h; omega
section
variable {H:Type} {enc:TypeId × Value->H} {P:Program} {w:World}
theorem kU.nM{w:World}{a:Option Addr}{n s:Nat}{x y:Nat->Value}(h:Fx.kU w a n s x)(e : ∀ p,p<n*s->x p=y p):Fx.kU w a n s y:=fun f=>by
 obtain⟨b,j,d,g⟩:=h f
 exact⟨b,j,d,fun i c=>by rw[<- e i c]; exact g i c⟩
end
end Go.Proofs.YtcbedgfikejkoaaDoor
namespace Go.Proofs.YtcbedgfikejkoaaDoor
open Go.RowKit Rt
open Fx (eT dI eY bf eX eU eG dM eZ gW dO gX eP gH gY Lv sN Ln Ws Qv Wl Rp Wc Qs Wr Sb Lk Wk rC rV sR Rs Rn Rd Rk Wb Wx Wo yE Wt pJ Ai Qn zQ tL yt zG wT zT zR iB zV jC nY rR zW yu zU yF yx rv aA aL bE aI ev bT Stp bV aO flat fH Mp dK aT fq gF bA down fM iW iJ jk kU bQ bD cells_one jD aX pV unseen jl iQ cu bX dA cZ dh iE iT qL gI)
set_option maxRecDepth 20000
set_option linter.unusedVariables false
namespace Rt
def P8(L:dU)(c:Option Addr)(d:Nat)(a:Option Addr)(b:Nat):AX:=⟨L.inn,L.left,L.known,c,L.nn,d,a,L.gn,b⟩
def Ye(L:dU):Nat->Nat->Value:=fun k=>Ra (L.id k) (L.par k) (L.R k)
def P9(L:dU):Nat->Nat->Value:=fun k=>jE (L.g k)
structure Yf(L:dU):Prop where
 n : ∀ k,k<L.nn->je (L.id k)/\je (L.par k) /\ ∀ p,p<54->uz (L.R k p)
 g : ∀ k,k<L.gn->uz (L.g k 0)/\je (L.g k 1)/\je (L.g k 2)/\uz (L.g k 3)/\je (L.g k 4)
 k : ∀ i,i<6->je (L.known i)
 bn:L.nn<=900000
 bg:L.gn<=900000
theorem Yf.of{L:dU}{N:Nat}(a:Inv0 L N)(o:sZ L)(m:xE L)(A:N<=900000):Yf L where
 n:=fun k c=>by
  have y:=a.pos k c
  have z:=a.top k c
  have f:=uD (a.may k c)
  refine⟨⟨by omega,by omega⟩,?_,fun p r=>by have:=f p r; exact⟨by omega,by omega⟩⟩
  rcases a.up k c with e|⟨j,b,e⟩
  ·rw[e]; exact⟨by omega,by omega⟩
  ·have h:=a.pos j b
   have l:=a.top j b
   rw[<- e]; exact⟨by omega,by omega⟩
 g:=fun k c=>by
  obtain⟨d,u,v,w,x⟩:=o.gb k c
  obtain⟨s,t⟩:=m.wf k c
  obtain⟨j,b,e⟩:=fD.1 d
  rw[a.vP]at b
  rw[(a.tid j b).1]at e
  have h:=a.pos j b
  have l:=a.top j b
  exact⟨⟨by omega,by omega⟩,s,by rw[<- e]; exact⟨by omega,by omega⟩,⟨by omega,by omega⟩,t⟩
 k:=fun i q=>by have:=a.kn i q; exact⟨by omega,by omega⟩
 bn:=by have:=a.nn; omega
 bg:=by have:=a.gn; omega
end Rt
structure Od(w:World)(s:AX)(L:dU):Prop where
 e:s=P8 L s.na s.nc s.ga s.gc
 n:kU w s.na L.nn 56 (flat 56 (Ye L))
 g:kU w s.ga L.gn 5 (flat 5 (P9 L))
theorem Od.up{w w':World}{s:AX}{L:dU}(h:Od w s L)(a:Below w.heap.size w w'):Od w' s L:=⟨h.e,h.n.up a rfl,h.g.up a rfl⟩
instance {w w':World} {s:AX} {L:dU}:Rt.Tr w w' (Od w s L) (Od w' s L):=⟨fun b h=>h.up b⟩
theorem Od.of{w:World}{B:Nat}{m:dB}{s:AX}{l:List Int}{p:List CW}{L:dU}{N:Nat}(h:StQ w B m s l p)(d:dW m L)(r:Inv0 L N)(q:xE L):Od w s L:=by
 have e:=Yd.of d r q h.ls h.gs
 have f:s.nn=L.nn:=by rw[h.nn,e.nn]
 have i:s.gn=L.gn:=by rw[h.gn,e.gn]
 refine⟨?_,?_,?_⟩
 ·cases s
  unfold P8
  have a:=h.inn
  have b:=h.left
  have c:=h.known
  simp only at a b c f i ⊢
  rw[a,b,c,d.inn,d.left,d.known,f,i]
 ·have:=h.n.arr
  rw[f]at this
  refine kU.nM this<|bQ fun k o j _ => ?_
  obtain⟨a,b,c⟩:=e.n k o
  unfold Ny Ye
  rw[b,c,a]
 have:=h.g.arr
 rw[i]at this
 refine kU.nM this<|bQ fun k o j _ => ?_
 unfold Oc P9
 rw[e.g k o]
namespace Rt
structure WM where
 n:Nat
 la:Option Addr
 lc:Nat
 pl:Nat->Nat
 ml:Nat->Ag
 an:Nat
 aa:Option Addr
 ac:Nat
 ev:Nat->EvM
end Rt
theorem Rt.zy(k a:Nat):Inv (oO k a).core 0 where
 vP:=rfl
 nn:=Nat.zero_le _
 tid:=fun _ h=>absurd h (Nat.not_lt_zero _)
 rise:=fun _ _ _ h=>absurd h (Nat.not_lt_zero _)
 pos:=fun _ h=>absurd h (Nat.not_lt_zero _)
 top:=fun _ h=>absurd h (Nat.not_lt_zero _)
 up:=fun _ h=>absurd h (Nat.not_lt_zero _)
 dep:=fun _=>⟨0,Nat.zero_le _,by show(-1:Int)<0; decide⟩
 gn:=Nat.le_refl _
 rn:=fun _ _=>Nat.le_refl _
 may:=fun _ h=>absurd h (Nat.not_lt_zero _)
 g47:=fun _ h=>absurd h (Nat.not_lt_zero _)
 kn:=fun _ _=>⟨Int.le_refl _,by show(0:Int)<_; decide⟩
 s:=⟨fun _ h=>absurd h (Nat.not_lt_zero _),fun _ h=>absurd h (Nat.not_lt_zero _)⟩
 b:=⟨fun _ _=>Int.le_refl _,fun _ h=>absurd h (Nat.not_lt_zero _),fun _ _ _ h=>absurd h (Nat.not_lt_zero _)⟩
-- jy.Xm is not in this seat
end Go.Proofs.YtcbedgfikejkoaaDoor
namespace Go.Proofs.YtcbedgfikejkoaaDoor
open Go.RowKit Go Rt
set_option linter.unusedVariables false
set_option maxRecDepth 20000
namespace Rt
section
variable {L:dU} {N:Nat} {v:EvM}
theorem Gw(b:Inv0 L N)(h:sZ L):sZ (dR L v):=by
 unfold dR
 by_cases c:cK L v=0
 ·rw[if_pos c]
  have a:=(Tz (kJ c)).1
  have d:lV L v=0:=by
   unfold cK at c
   rw[if_neg (by rw[a]; decide)]at c
   split at c; · cases c
   split at c; · cases c
   split at c; · cases c
   exact c
  have:=JA b h a d
  exact⟨this.us,this.gb⟩
 rw[if_neg c]; exact h
def zA(L:dU)(x i:Int):Int:=if L.node x<0 then 0 else dQ (L.R (L.node x).toNat) i
theorem Gx(i:Int):dQ Iw i=0:=by
 unfold dQ
 by_cases c:(iw i&&may Iw)=true
 ·rw[if_pos c]
  rw[Bool.and_eq_true]at c
  obtain⟨a,d,e,b⟩:=uF c.1
  have:=qY (uD c.2) a d
  rw[b,this]; rfl
 rw[if_neg c]
theorem dW.local{m:dB}(h:dW m L)(a:Inv0 L N)(x i:Int):dQ (kF m x) i=zA L x i:=by
 unfold kF zA
 by_cases c:L.node x<0
 ·rw[if_neg (by rw[(h.EK a x).2 c]; decide),if_pos c]; exact Gx i
 rw[if_pos ((h.node a x).2 (by omega)),if_neg c,h.rk a (by omega)]
structure Bu(m m':dB):Prop where
 et:m'.tp=m.tp
 em:m'.mb=m.mb
 ep:m'.pb=m.pb
 er:m'.rb=m.rb
 eg:m'.gb=m.gb
 ea:m'.ab=m.ab
theorem Bu.refl(m:dB):Bu m m:=⟨rfl,rfl,rfl,rfl,rfl,rfl⟩
theorem Bu.trans{a b c:dB}(h:Bu a b)(k:Bu b c):Bu a c:=⟨k.et.trans h.et,k.em.trans h.em,k.ep.trans h.ep,k.er.trans h.er,k.eg.trans h.eg,k.ea.trans h.ea⟩
end
end Rt
structure tT(w:World)(B lp:Nat)(m:dB)(L:dU)(N:Nat):Prop where
 q:iR w B lp m
 s:dW m L
 i:Inv0 L N
 u:sZ L
 g:xE L
section
variable {w w':World} {B lp:Nat} {m:dB} {L:dU} {N:Nat} {v:EvM}
theorem tT.up(h:tT w B lp m L N)(a:Below w.heap.size w w'):tT w' B lp m L N := { h with q:=h.q.up a }
instance:Rt.Tr w w' (tT w B lp m L N) (tT w' B lp m L N):=⟨fun b h=>h.up b⟩
theorem tT.nH{a:List TypeId}(h:tT w B lp m L N)(b:Fx.jD a w w')(c:(a.contains 59 || a.contains 82)=false):tT w' B lp m L N := { h with q:=h.q.nH b c }
instance {a:List TypeId}:Rt.Tc a w w' (tT w B lp m L N) (tT w' B lp m L N) (!(a.contains 59 || a.contains 82)):=⟨fun b h e=>h.nH b (by simpa using e)⟩
theorem tT.weak{a:Nat}(h:tT w B lp m L N)(b:a<=B):tT w a lp m L N := { h with q:=h.q.weak b }
theorem tT.mono{a:Nat}(h:tT w B lp m L N)(b:N<=a):tT w B lp m L a := { h with i:=h.i.mono b }
theorem tT.wf(h:tT w B lp m L N)(a:N<=900000):Yf L:=Yf.of h.i h.u h.g a
theorem iR.CX(h:iR w B lp m)(a:Fx.iW (JD m lp w.heap.size) w w')(c:B<=w.heap.size):Below B w w':=⟨a.os,a.tape,a.output,a.size,fun k d=>a.block k (by omega) fun b=>by
 rcases b with b|b
 ·have:=(h.ltS b).1; omega
 ·omega⟩
theorem iR.typed(h:iR w B lp m)(d:Fx.iW (JD m lp w.heap.size) w w'):Fx.rJ [59] w w':=⟨d.os,d.tape,d.output,d.size,fun k T b e=>d.block k b.YA fun f=>by
 rcases f with (rfl|rfl|rfl|rfl|rfl|rfl)|f
 ·have:=Fx.Ty.only h.c.ty b
  rw[this]at e; simp at e
 ·exact h.t.map.lK b
 ·exact h.p.lK b
 ·exact h.r.lK b
 ·exact h.g.lK b
 ·exact h.a.lK b
 ·have:=b.YA; omega⟩
theorem Qa{B:Nat}{a b c:World}(h:Below a.heap.size a b)(e:Below B b c)(d:a.heap.size<=B):Below a.heap.size a c:=h.trans (e.mono d)
theorem jZ{P:Program}{g:Nat}{a b:Array Value}{w:World}{R:Ending->World->Prop}(h:Calls P g b w R)(e:a=b):Calls P g a w R:=e ▸ h
theorem IJ{x:Value}{y:Nat->Value}(hy : ∀ j,j<14->y j=dF v j):(#[x,.agg (Fx.aA 14 y)]:Array Value) = #[x,.agg (Fx.aA 14 (dF v))]:=congrArg (fun z=>(#[x,.agg z]:Array Value)) (Fx.fE hy)
theorem Xn(k:Nat)(d:1<=k/\k<=6)(w:World):Calls Tryd.prog 6 #[au ((k:Int))] w fun e w' => ∃ lp m,e = .returned (.tuple #[(pt lp),au 0])/\tT w' w.heap.size lp m (oO k 0).core 0/\Below w.heap.size w w' :=
 (Xc k d w).mono fun e w' ⟨lp,m,c,⟨n,i,j,l,h,g,a⟩,f,b⟩=>⟨lp,m,c,⟨f,by rw[a]; exact dW.new ..,(zy k 0).toInv0,(zy k 0).s,NI k 0⟩,b⟩
theorem Qb(h:tT w B lp m L N)(b:jQ v)(c:1<=B)(d:Fx.gF w 0 0 8 vX){y:Nat->Value}(hy : ∀ j,j<14->y j=dF v j) :
 Calls Tryd.prog 15 #[(pt lp),.agg (Fx.aA 14 y)] w fun e w'=>e = .returned (au (cK L v))/\tT w' B lp (iN m v) (dR L v) (N+1)/\Fx.iW (JD m lp w.heap.size) w w':=by
 have a:=h.s.apply h.q.t.inv h.i v
 refine jZ ((Pz m lp B w h.q v b (h.s.sound h.q.t.inv h.i) c d).mono fun e w' ⟨k,l,f⟩=>⟨by rw[k,a.1],⟨l,a.2,yY h.i,Gw h.i h.u,Gv h.g b⟩,f⟩) (IJ hy)
theorem Qc(h:tT w B lp m L N)(g:jQ v)(a:1<=B)(b:Fx.gF w 0 0 8 vX){y:Nat->Value}(hy : ∀ j,j<14->y j=dF v j) :
 Calls Tryd.prog 29 #[(pt lp),.agg (Fx.aA 14 y)] w fun e w'=>e = .returned (au (cK L v))/\Below w.heap.size w w':=by
 have f:=h.s.apply h.q.t.inv h.i v
 refine jZ ((aaG m lp B w h.q v g (h.s.sound h.q.t.inv h.i) a b).mono fun e w' ⟨d,c⟩=>⟨by rw[d,f.1],c⟩) (IJ hy)
theorem IK(h:tT w B lp m L N):Calls Tryd.prog 25 #[(pt lp)] w fun e w'=>e = .returned (.agg (Fx.aA 6 (Fx.rv .u64 L.known)))/\Below w.heap.size w w':=by
 rw[<- h.s.known]; exact PD m lp B w h.q
theorem Qd(h:tT w B lp m L N)(i x:Int)(hi : -9223372036854775808<=i/\i<=9223372036854775807):Calls Tryd.prog 12 #[(pt lp),au i,aC x] w fun e w'=>e = .returned (au (zA L x i))/\Below w.heap.size w w':=by
 rw[<- h.s.local h.i]; exact PE m lp B w h.q i x hi
structure E5(w:World)(B:Nat)(s:AX)(L:dU):Prop where
 e:s=P8 L s.na s.nc s.ga s.gc
 n:Fx.Own w B 68 56 (.slice s.na L.nn s.nc) L.nn (Fx.flat 56 (Ye L))
 g:Fx.Own w B 72 5 (.slice s.ga L.gn s.gc) L.gn (Fx.flat 5 (P9 L))
theorem E5.r{s:AX}(h:E5 w B s L):Od w s L:=⟨h.e,h.n.arr,h.g.arr⟩
theorem E5.up{s:AX}(h:E5 w B s L)(a:Below w.heap.size w w'):E5 w' B s L:=⟨h.e,h.n.up a,h.g.up a⟩
instance {s:AX}:Rt.Tr w w' (E5 w B s L) (E5 w' B s L):=⟨fun b h=>h.up b⟩
theorem E5.nH{s:AX}{a:List TypeId}(h:E5 w B s L)(c:Fx.jD a w w')(b:(a.contains 68 || a.contains 72)=false):E5 w' B s L:=by
 rw[Bool.or_eq_false_iff]at b
 exact⟨h.e,h.n.nH c b.1,h.g.nH c b.2⟩
instance {s:AX} {a:List TypeId}:Rt.Tc a w w' (E5 w B s L) (E5 w' B s L) (!(a.contains 68 || a.contains 72)):=⟨fun b h e=>h.nH b (by simpa using e)⟩
theorem E5.zH{s:AX}{a:List TypeId}(h:E5 w B s L)(c:Fx.rJ a w w')(b:(a.contains 68 || a.contains 72)=false):E5 w' B s L:=by
 rw[Bool.or_eq_false_iff]at b
 exact⟨h.e,h.n.zH c b.1,h.g.zH c b.2⟩
theorem Qe(h:tT w B lp m L N)(z:N<=900000):Calls Tryd.prog 9 #[(pt lp)] w fun e w' => ∃ s,e = .returned (.agg (Fx.aA 20 (wI s)))/\E5 w' w.heap.size s L/\Below w.heap.size w w':=by
 refine(PZ m lp B w h.q (by rw[h.s.gn]; have:=h.i.gn; omega)).mono fun e w' ⟨s,l,y,x,a,v⟩=>⟨s,x,?_,v⟩
 have b:=Yd.of h.s h.i h.g a.ls a.gs
 have o:s.nn=L.nn:=by rw[a.nn,b.nn]
 have p:s.gn=L.gn:=by rw[a.gn,b.gn]
 have f:=a.n
 have d:=a.g
 rw[o]at f
 rw[p]at d
 refine⟨(Od.of a h.s h.i h.g).e,f.congr (Fx.bQ fun k c j _ => ?_),d.congr (Fx.bQ fun k c j _ => ?_)⟩
 ·obtain⟨r,t,u⟩:=b.n k c
  unfold Ny Ye
  rw[t,u,r]
 unfold Oc P9
 rw[b.g k c]
end
end Go.Proofs.YtcbedgfikejkoaaDoor
namespace Go.Proofs.YtcbedgfikejkoaaDoor
open Go.RowKit Rt
open Fx (eT dI eY bf eX eU eG dM eZ gW dO gX eP gH gY Lv sN Ln Ws Qv Wl Rp Wc Qs Wr Sb Lk Wk rC rV sR Rs Rn Rd Rk Wb Wx Wo yE Wt pJ Ai Qn zQ tL yt zG wT zT zR iB zV jC nY rR zW yu zU yF yx rv aA aL bE aI ev bT Stp bV aO flat fH Mp dK aT fq gF bA down fM iW iJ jk kU bQ bD cells_one jD aX pV unseen jl iQ cu bX dA cZ dh iE iT qL gI)
set_option maxRecDepth 20000
set_option linter.unusedVariables false
namespace Rt
def J8:Int:=1099511627777
def Xo(n:Int)(i:Nat):Int:=if i=0 then n else 0
def vA:EvM:=⟨1,1,fun _=>0,1,0,0,10,0,0⟩
def vC:EvM:=⟨1,2,Xo 1,5,J8,2,4,0,0⟩
def vD:EvM:=⟨2,1,Xo 2,3,J8,0,4,1,0⟩
theorem NK{m:dB}(b:m.T.ok)(v:EvM):(iN m v).T.ok:=by
 unfold iN
 by_cases c:bF m v=0
 ·rw[if_pos c]
  have f:=qJ c
  have a:=(wR c).2.1
  have g:=lW f
  show(gP m v).T.ok
  unfold fB at a
  unfold gP
  by_cases d:v.kind=1
  ·rw[if_pos d]at a ⊢
   have e:m.T.err (mo v) v.node=0:=by
    unfold jN at a
    split at a
    ·cases a
    ·exact a
   exact vE.put b e (by unfold mo; omega)
  rw[if_neg d]
  repeat' split
  all_goals exact b
 rw[if_neg c]; exact b
structure IL(m:dB)(L:dU)(N:Nat):Prop where
 s:dW m L
 t:m.T.ok
 i:Inv0 L N
theorem IL.new(k:Nat):IL (tH k 0 0 0 0 0 0) (oO k 0).core 0:=⟨dW.new ..,vE.zero _ _,(zy k 0).toInv0⟩
theorem IL.apply{m:dB}{L:dU}{N:Nat}(h:IL m L N)(v:EvM):IL (iN m v) (dR L v) (N+1):=⟨(h.s.apply h.t h.i v).2,NK h.t v,yY h.i⟩
theorem IL.err{m:dB}{L:dU}{N:Nat}(h:IL m L N)(v:EvM){c:Int}(e:bF m v=c):cK L v=c:=(h.s.apply h.t h.i v).1.symm.trans e
theorem IL.loc{m:dB}{L:dU}{N:Nat}(h:IL m L N)(x i:Int){c:Int}(e:dQ (kF m x) i=c):zA L x i=c:=(h.s.local h.i x i).symm.trans e
noncomputable def wq0:dB:=tH 2 0 0 0 0 0 0
noncomputable def wq1:dB:=iN wq0 vA
noncomputable def wq2:dB:=iN wq1 vC
noncomputable def wq3:dB:=iN wq2 vD
theorem tw0:IL wq0 (oO 2 0).core 0 := .new 2
end Rt
-- AZ.works is not in this seat
set_option maxRecDepth 20000
set_option linter.unusedVariables false
namespace Rt
def Bv:dU:=⟨fun _=>false,fun _=>false,fun _=>0,0,fun _=>0,fun _=>0,fun _ _=>0,0,fun _ _=>0,0,fun _ _=>0,fun _=>0,fun _ _=>0⟩
def Xp:AX:=P8 Bv none 0 none 0
end Rt
theorem U4(w:World):Od w Xp Bv:=⟨rfl,fun h=>absurd h (Nat.not_lt_zero _),fun h=>absurd h (Nat.not_lt_zero _)⟩
-- AZ.Vj is not in this seat
namespace Rt
structure fU where
 kind:Int
 node:Int
 dst:Int
 bM:Int
 req:Int
 of:Int
def iO(x:fU):Nat->Value:=fun p=>if p=0 then .int .u8 x.kind else if p=1 then .int .u64 x.node else if p=2 then .int .i64 x.dst else if p=3 then .int .i64 x.bM else if p=4 then .int .u64 x.req else .int .u64 x.of
structure sJ(x:fU):Prop where
 kind:0<=x.kind/\x.kind<=255
 node:je x.node
 dst:uz x.dst
 bM:uz x.bM
 req:je x.req
 of:je x.of
end Rt
set_option maxRecDepth 20000
set_option linter.unusedVariables false
namespace Rt
def kg(K:Nat->Int)(i:Int)(x:fU):EvM:=⟨i,K (i-1).toNat+1,K,x.kind,x.node,x.dst,x.bM,x.req,x.of⟩
end Rt
theorem Qf(K:Nat->Int)(i:Int)(hr:iY i=false)(w:World) :
 Calls Tryd.prog 26 #[.agg (aA 6 (rv .u64 K)),au i] w fun e w'=>e = .returned (.tuple #[aC 0,au 10])/\Below w.heap.size w w':=by
 refine Kent Tryd.func26 21 ?_
 refine ay<|rG fun f j b c d k => ?_
 have a:=aR d.old (Below.refl w.heap.size w)
 have g:=gK b
 have h:=c.lt
 refine av (aC 0)<|av (au 0)<|aD<|Ws<|Wb<|ay<|av (au i)<|lJ (CB i _) aF (by rw[hr])<|av aG<|av aG<|aD<|aQ<|ay<|av (aC 0)<|av (au 10)<|aD<|Wr<|bX<|sR<|aM (.tuple #[aC 0,au 10]) ?_
 exact⟨rfl,a⟩
theorem Qg(K:Nat->Int)(i:Int)(a:Nat)(ha:a<6)(h:i=(a:Int)+1)(g:FK K)(w:World) :
 Calls Tryd.prog 26 #[.agg (aA 6 (rv .u64 K)),au i] w fun e w'=>e = .returned (.tuple #[aC (K a+1),au 0])/\Below w.heap.size w w':=by
 have j:iY i=true:=by rw[h]; unfold iY; simp; omega
 have l:=g a ha
 refine Kent Tryd.func26 21 ?_
 refine ay<|rG fun c o f b k p => ?_
 have d:=aR k.old (Below.refl w.heap.size w)
 have m:=gK f
 have n:=b.lt
 refine av (aC 0)<|av (au 0)<|aD<|Ws<|Wb<|ay<|av (au i)<|lJ (CB i _) aG (by rw[j])<|av aF<|av aF<|aD<|aN<|ay<|av (au i)<|Lv (au a) jc<|Lv ((pf c a)) (xH 6 1)<|Lv (aC (K a)) (aP b.aK a)<|Lv aF Aq<|av aF<|aD<|aN<|Wk<|dA<|sN<|ay<|av (au i)<|Lv (au a) jc<|Lv ((pf c a)) (xH 6 1)<|Lv (aC (K a)) (aP b.aK a)<|Lv (aC ((K a)+1)) gV<|av (aC ((K a)+1))<|av (au 0)<|aD<|Wr<|aM (.tuple #[aC ((K a)+1),au 0]) ?_
 exact⟨rfl,d⟩
theorem Xq(v:EvM)(i c:Int)(K:Nat->Int)(a:Nat)(w:World)(b:aL w a 14 (dF v) 33)(d:Nat)(g:Nat)(f:Nat)(hi:aL w d 1 (fun _=>au i) 3)(k:aL w g 1 (fun _=>aC c) 29)(h:aL w f 6 (rv .u64 (K)) 31) :
 Calls Tryd.prog 28 #[(pt a),(pt d),(pt g),(pt f)] w fun e w'=>e = .returned (.tuple #[])/\aL w' a 14 (dF ⟨i,c,K,v.kind,v.node,v.dst,v.bM,v.req,v.of⟩) 33/\Stp a w w':=by
 have L:=b.lt
 have M:=hi.lt
 have O:=k.lt
 have N:=h.lt
 have P:d≠a:=fun e=>absurd (Fx.Ty.only (e ▸ hi.ty) b.ty) (by decide)
 have Q:g≠a:=fun e=>absurd (Fx.Ty.only (e ▸ k.ty) b.ty) (by decide)
 have R:f≠a:=fun e=>absurd (Fx.Ty.only (e ▸ h.ty) b.ty) (by decide)
 refine Kent Tryd.func28 17 ?_
 -- region 0 draws
 refine yx [0,1,2,3,6,7,4,5,8,9,10,11,12,13,14] [0,0,0,4,1,1,0,0,2,0,0,2,0,0,2] (Fx.rJ [33]) Fx.rJ.refl Fx.rJ.trans (dY := [(8,3,[3]),(11,3,[3]),(14,3,[3]),(9,8,[8]),(10,8,[8]),(11,8,[8]),(12,8,[8]),(13,8,[8]),(14,8,[8]),(12,11,[11]),(13,11,[11]),(14,11,[11])]) (by kernel_rfl) (by kernel_rfl) (by kernel_rfl) (by kernel_rfl) (by kernel_rfl) fun H m J => ?_
 have F:Stp w.heap.size w H:=Sb m
 have⟨n,C,D,E⟩:=jH m b hi k h
 have t:=(jC a w).then F (.inr (jC a w).size)
 refine aW ((pt a))<|aW ((pt a))<|aW ((pt a))<|Rs (au i) (aP C.aK 0) ?_
 refine aW ((pt a))<|aW ((pt a))<|Rd (v:=aC c) (by rfl) (by rfl) (Fx.rJ.refl _) (fun G l=>bf (x:=fun _=>aC c) rfl rfl (by kernel_rfl) (D.zH l (by decide)).aK (i:=0) (by omega) (by omega) rfl) ?_
 refine Rd (v := .agg (aA 6 (rv .u64 (K)))) (by rfl) (by rfl) (Fx.rJ.refl _) (fun G l=>dO (x:=rv .u64 (K)) (y:=rv .u64 (K)) rfl rfl (by kernel_rfl) (by kernel_rfl) (E.zH l (by decide)).aK (i:=0) (by omega) (by omega) (fun j _=>by rw[Nat.zero_add])) ?_
 refine BN<|nk n 0 (au i) fun S o q V => ?_
 have u:=t.then q (by omega)
 refine Ln ⟨Fx.rJ.BU ((iB q n.ty).wide (by decide)),?_⟩
 refine aW ((pt a))<|aW ((pf a 1))<|BN<|nk o 1 (aC c) fun T p r W => ?_
 have z:=u.then r (by omega)
 refine Ln ⟨Fx.rJ.BU ((iB r o.ty).wide (by decide)),?_⟩
 refine aW ((pt a))<|aW ((pf a 2))<|BN<|fI p 2 fun U B s X => ?_
 have A:=z.then s (by omega)
 refine Ln ⟨Fx.rJ.BU ((iB s p.ty).wide (by decide)),?_⟩
 refine Rn (⟨.tuple #[],fM Tryd.results28,?_⟩)
 exact⟨rfl,B.congr (fun j I=>by rcases j with _|_|_|_|_|_|_|_|_|_|_|_|_|_|j <;> first|rfl|omega),A⟩
theorem U5(x:fU)(i d:Int)(K:Nat->Int)(w:World)(g:Nat)(k:Nat)(h:Nat)(hi:aL w g 1 (fun _=>au i) 3)(m:aL w k 1 (fun _=>aC d) 29)(l:aL w h 6 (rv .u64 (K)) 31) :
 Calls Tryd.prog 27 #[.agg (aA 6 (iO x)),.func (.func 28) #[] #[(pt g),(pt k),(pt h)]] w fun e w'=>e = .returned (.agg (aA 14 (dF ⟨i,d,K,x.kind,x.node,x.dst,x.bM,x.req,x.of⟩)))/\Below w.heap.size w w':=by
 have lgi:=hi.lt
 have lgs:=m.lt
 have lgk:=l.lt
 refine Kent Tryd.func27 22 ?_
 refine ay<|rG fun c w1 y n s1 z1 => ?_
 have⟨C,E,F,r⟩:=jH s1.old hi m l (Below.refl w.heap.size w)
 have wY:=gK y
 have⟨mO,Wv,qF⟩:=BQ y hi.lt m.lt l.lt
 have xK:=n.lt
 refine ni 14 (fun a=>if a<1 then au 0 else if a<8 then aC 0 else if a<9 then .int .u8 (0)else if a<10 then aC 0 else if a<12 then au 0 else aC 0) fun O w2 z p s2 z2 => ?_
 have⟨G,H,I,b,s⟩:=mF s2.old C E F n r
 have zN:=iC z r.size
 have⟨adx,Rf,Xr,Ii⟩:=I8 z C.lt E.lt F.lt n.lt
 have Cg:=p.lt
 refine aD<|ay<|av ((pt c))<|Lv (.int .u8 (x.kind)) (aP b.aK 0)<|av ((pf c 1))<|Lv (aC x.node) (aP b.aK 1)<|av ((pf c 2))<|Lv (au x.dst) (aP b.aK 2)<|av ((pf c 3))<|Lv (au x.bM) (aP b.aK 3)<|av ((pf c 4))<|Lv (aC x.req) (aP b.aK 4)<|av ((pf c 5))<|Lv (aC x.of) (aP b.aK 5)<|av (.agg (aA 14 (bE (bE (bE (bE (bE (bE (fun a=>if a<1 then au 0 else if a<8 then aC 0 else if a<9 then .int .u8 (0)else if a<10 then aC 0 else if a<12 then au 0 else aC 0) 8 1 (fun _ => .int .u8 (x.kind))) 9 1 (fun _=>aC x.node)) 10 1 (fun _=>au x.dst)) 11 1 (fun _=>au x.bM)) 12 1 (fun _=>aC x.req)) 13 1 (fun _=>aC x.of))))<|ni 14 (fun a=>if a<1 then au 0 else if a<8 then aC 0 else if a<9 then .int .u8 (0)else if a<10 then aC 0 else if a<12 then au 0 else aC 0) fun f w3 A o s3 z3 => ?_
 have⟨R,S,T,U,t⟩:=mF s3.old G H I p s
 have G6:=iC A s.size
 have⟨Nt,UC,UD,UE,UF⟩:=ug A G.lt H.lt I.lt b.lt p.lt
 have Ie:=o.lt
 refine fI o 0 (h1:=(aX (aX (aX (aX (aX (aX (fun Q _=>by show((fun a=>if a<1 then au 0 else if a<8 then aC 0 else if a<9 then .int .u8 (0)else if a<10 then aC 0 else if a<12 then au 0 else aC 0:Nat->Value) Q).oneCell'=true; simp only[]; repeat (first|rfl|split)) (fun _ _=>rfl)) (fun _ _=>rfl)) (fun _ _=>rfl)) (fun _ _=>rfl)) (fun _ _=>rfl)) (fun _ _=>rfl))) fun M V q z4 => ?_
 have W:aL M f 14 (bE (bE (bE (bE (bE (bE (fun a=>if a<1 then au 0 else if a<8 then aC 0 else if a<9 then .int .u8 (0)else if a<10 then aC 0 else if a<12 then au 0 else aC 0) 8 1 (fun _ => .int .u8 (x.kind))) 9 1 (fun _=>aC x.node)) 10 1 (fun _=>au x.dst)) 11 1 (fun _=>au x.bM)) 12 1 (fun _=>aC x.req)) 13 1 (fun _=>aC x.of)) 33:=aO V
 have X:aL M f 14 (dF ⟨0,0,fun _=>0,x.kind,x.node,x.dst,x.bM,x.req,x.of⟩) 33:=W.congr (fun j hj=>by rcases j with _|_|_|_|_|_|_|_|_|_|_|_|_|_|j <;> first|rfl|omega)
 have P:=iB q o.ty
 have⟨Y,Z,aa⟩:=Dr P R S T
 have ab:=U.eH q (by omega)
 have u:=q.below t t.size (by omega)
 refine aD<|ay<|av (.func (.func 28) #[] #[(pt g),(pt k),(pt h)])<|tL (by rfl) (Fx.tZ (args := [(pt f)]) rfl rfl rfl (all := #[(pt f),(pt g),(pt k),(pt h)]) rfl Tryd.func28 rfl rfl) rfl<|(Xq ⟨0,0,fun _=>0,x.kind,x.node,x.dst,x.bM,x.req,x.of⟩ i d K f _ X g k h Y Z aa).mono ?_
 rintro e9 w5 ⟨B,D,J⟩
 refine⟨_,B,?_⟩
 clear B
 have ac:=ab.eH J (by omega)
 have v:=J.below u u.size (by omega)
 refine aD<|ay<|Lv (.agg (aA 14 (dF ⟨i,d,K,x.kind,x.node,x.dst,x.bM,x.req,x.of⟩))) (jh D.aK 0)<|fI ac 0 (h1:=(ku _)) fun w6 ad L z5 => ?_
 have ae:aL w6 O 14 (dF ⟨i,d,K,x.kind,x.node,x.dst,x.bM,x.req,x.of⟩) 33:=aO ad
 have qQ:=D.eH L (by omega)
 have N:=L.below v v.size (by omega)
 refine aD (Wr (⟨.agg (aA 14 (dF ⟨i,d,K,x.kind,x.node,x.dst,x.bM,x.req,x.of⟩)),rV Tryd.results27 ⟨_,rfl,aT ae.aK (by kernel_rfl) (by kernel_rfl)⟩,?_⟩))
 exact⟨rfl,N⟩
namespace Rt
theorem wm{z y:Nat->Value}{a b:Int}(d : ∀ j,j<14->z j=y j)(c:a=b):Ending.returned (.tuple #[.agg (aA 14 z),au a])=Ending.returned (.tuple #[.agg (aA 14 y),au b]):=by rw[Fx.fE d,c]
noncomputable def gQ(L:dU)(i:Int)(x:fU):Int:=if iY i=false then 10 else cK L (kg L.known i x)
open Classical in
noncomputable def dZ(L:dU)(i:Int)(x:fU):EvM:=if gQ L i x=0 then kg L.known i x else zeroE
theorem zB{L:dU}{i:Int}{x:fU}(h:iY i=false):gQ L i x=10/\dZ L i x=zeroE:=by
 have:gQ L i x=10:=by unfold gQ; rw[if_pos h]
 refine⟨this,?_⟩
 unfold dZ
 rw[if_neg (by rw[this]; decide)]
theorem jB{L:dU}{i:Int}{x:fU}(h:iY i=true):gQ L i x=cK L (kg L.known i x):=by unfold gQ; rw[if_neg (by rw[h]; decide)]
theorem NM{K:Nat->Int}{i:Int}{x:fU}(b:FK K)(hx:sJ x)(hi:iY i=true):jQ (kg K i x):=by
 obtain⟨a,c,f⟩:=dV hi
 have g:=b a c
 have e:(i-1).toNat=a:=by omega
 refine⟨⟨?_,?_⟩,⟨?_,?_⟩,fun j d => ?_,hx.kind,hx.node,hx.dst,hx.bM,hx.req,hx.of⟩
 ·show -9223372036854775808<=i; omega
 ·show i<=9223372036854775807; omega
 ·show 0<=K (i-1).toNat+1; rw[e]; omega
 ·show K (i-1).toNat+1<=18446744073709551615; rw[e]; omega
 have:=b j d; exact⟨by show 0<=K j; omega,by show K j<=_; omega⟩
end Rt
theorem Qh(lp B N:Nat)(m:dB)(L:dU)(w:World)(h:tT w B lp m L N)(hB:1<=B)(S:gF w 0 0 8 vX)(i:Int)(x:fU)(hr:iY i=false) :
 Calls Tryd.prog 14 #[(pt lp),au i,.agg (aA 6 (iO x))] w fun e w'=>e = .returned (.tuple #[.agg (aA 14 (dF (dZ L i x))),au (gQ L i x)])/\Below w.heap.size w w':=by
 have l0:=S.lt (by omega)
 have lq:=h.q.lt
 refine Kent Tryd.func14 39 ?_
 refine ay<|pQ (au i) fun g1 w1 O b s1 z1 => ?_
 have⟨m2,g⟩:=gU s1.old h (Below.refl w.heap.size w)
 have wY:=gK O
 have xK:=b.lt
 refine rG fun g2 w2 s d s2 z2 => ?_
 have⟨m4,F,k⟩:=kM s2.old m2 b g
 have zN:=iC s g.size
 have Ic:=bS s b.lt
 have Cg:=d.lt
 refine ni 14 (fun a=>if a<1 then au 0 else if a<8 then aC 0 else if a<9 then .int .u8 (0)else if a<10 then aC 0 else if a<12 then au 0 else aC 0) fun P w3 t G s3 z3 => ?_
 have⟨m7,m8,m9,K⟩:=jH s3.old m4 F d k
 have G6:=iC t k.size
 have⟨Mx,MB⟩:=rH t F.lt d.lt
 have Ie:=G.lt
 refine av (au 0)<|aD<|Ws<|ay<|av ((pt lp))<|Lv aF (Fx.jF rfl rfl rfl (by kernel_rfl))<|aD<|aN<|Wk<|sN<|ay<|av ((pt lp))<|fC (IK m7) _ rfl ?_
 intro w4 T
 have⟨y,z,A,l⟩:=jH T m8 m9 G K
 refine ni 6 (rv .u64 (fun _=>0)) fun Q w5 u c s5 z4 => ?_
 have⟨Y,Z,aa,n⟩:=jH s5.old y z A l
 have J2:=iC u l.size
 have⟨Gp,NP,NQ⟩:=BQ u y.lt z.lt A.lt
 have JG:=c.lt
 refine fI c 0 fun w6 ab H z5 => ?_
 have C:aL w6 Q 6 (rv .u64 ((L).known)) 31:=aO ab
 have V:=iB H c.ty
 have⟨D,m23,m24⟩:=Dr V Y Z aa
 have M:=H.below n n.size (by omega)
 refine aD<|ay<|Lv (.agg (aA 6 (rv .u64 ((L).known)))) (jh C.aK 0)<|Lv (au i) (aP D.aK 0)<|fC (Qf L.known i hr _) _ rfl ?_
 intro w7 U
 have⟨rM,sQ,E,tQ,o⟩:=mF U D m23 m24 C M
 refine av (.tuple #[aC 0,au 10])<|av (aC 0)<|av (au 10)<|ni 1 (rv .u64 (fun _=>0)) fun R w8 v f s8 z6 => ?_
 have⟨nZ,p⟩:=gU s8.old E o
 have UH:=iC v o.size
 have⟨U6,U7,U8,U9⟩:=I8 v rM.lt sQ.lt E.lt tQ.lt
 have WZ:=f.lt
 refine nk f 0 (aC 0) fun w9 qQ I z7 => ?_
 have vG:aL w9 R 1 (fun _=>aC 0) 29:=cu qQ
 have W:=iB I f.ty
 have qU:=oC W nZ
 have r:=I.below p p.size (by omega)
 refine av (au 10)<|aD<|Ws<|ay<|av (au 10)<|Lv aG (gT rfl)<|aD<|aQ<|ay<|av (.agg (aA 14 (fun a=>if a<1 then au 0 else if a<8 then aC 0 else if a<9 then .int .u8 (0)else if a<10 then aC 0 else if a<12 then au 0 else aC 0)))<|av (au 10)<|fI qU 0 (h1:=(fun X _=>by show((fun a=>if a<1 then au 0 else if a<8 then aC 0 else if a<9 then .int .u8 (0)else if a<10 then aC 0 else if a<12 then au 0 else aC 0:Nat->Value) X).oneCell'=true; simp only[]; repeat (first|rfl|split))) fun zI qV s10 z8 => ?_
 have rO:aL zI P 14 (fun a=>if a<1 then au 0 else if a<8 then aC 0 else if a<9 then .int .u8 (0)else if a<10 then aC 0 else if a<12 then au 0 else aC 0) 33:=aO qV
 have J:=s10.below r r.size (by omega)
 refine av (au 10) (aD (Wr (sR (⟨.tuple #[.agg (aA 14 (fun a=>if a<1 then au 0 else if a<8 then aC 0 else if a<9 then .int .u8 (0)else if a<10 then aC 0 else if a<12 then au 0 else aC 0)),au 10],gI Tryd.results14 ⟨_,rfl,aT rO.aK (by kernel_rfl) (by kernel_rfl)⟩ (by exact rfl),?_⟩))))
 exact⟨by rw[(zB hr).1,(zB hr).2]; exact wm (fun j hj=>by rcases j with _|_|_|_|_|_|_|_|_|_|_|_|_|_|j <;> first|rfl|omega) rfl,J⟩
theorem Qi(lp B N:Nat)(m:dB)(L:dU)(w:World)(h:tT w B lp m L N)(hB:1<=B)(Q:gF w 0 0 8 vX)(i:Int)(x:fU)(hx:sJ x)(a:Nat)(ha:a<6)(S:i=(a:Int)+1) :
 Calls Tryd.prog 14 #[(pt lp),au i,.agg (aA 6 (iO x))] w fun e w'=>e = .returned (.tuple #[.agg (aA 14 (dF (dZ L i x))),au (gQ L i x)])/\Below w.heap.size w w':=by
 have l0:=Q.lt (by omega)
 have lq:=h.q.lt
 have d:iY i=true:=by rw[S]; unfold iY; simp; omega
 have eia:(i-1).toNat=a:=by omega
 have hka:=h.i.kn a ha
 refine Kent Tryd.func14 39 ?_
 refine ay<|pQ (au i) fun l w1 oI n s1 z1 => ?_
 have⟨m2,y⟩:=gU s1.old h (Below.refl w.heap.size w)
 have wY:=gK oI
 have xK:=n.lt
 refine rG fun g2 w2 I p s2 z2 => ?_
 have⟨m4,m5,D⟩:=kM s2.old m2 n y
 have zN:=iC I y.size
 have Ic:=bS I n.lt
 have Cg:=p.lt
 refine ni 14 (fun b=>if b<1 then au 0 else if b<8 then aC 0 else if b<9 then .int .u8 (0)else if b<10 then aC 0 else if b<12 then au 0 else aC 0) fun P w3 J m6 s3 z3 => ?_
 have⟨m7,m8,m9,b3⟩:=jH s3.old m4 m5 p D
 have G6:=iC J D.size
 have⟨Mx,MB⟩:=rH J m5.lt p.lt
 have Ie:=m6.lt
 refine av (au 0)<|aD<|Ws<|ay<|av ((pt lp))<|Lv aF (Fx.jF rfl rfl rfl (by kernel_rfl))<|aD<|aN<|Wk<|sN<|ay<|av ((pt lp))<|fC (IK m7) _ rfl ?_
 intro w4 hb1
 have⟨m10,T,U,V,E⟩:=mF hb1 m7 m8 m9 m6 b3
 refine ni 6 (rv .u64 (fun _=>0)) fun g w5 K o s5 z4 => ?_
 have⟨m15,m16,m17,m18,F⟩:=mF s5.old m10 T U V E
 have J2:=iC K E.size
 have⟨Gp,NP,NQ⟩:=BQ K T.lt U.lt V.lt
 have JG:=o.lt
 refine fI o 0 fun w6 m19 s6 z5 => ?_
 have W:aL w6 g 6 (rv .u64 ((L).known)) 31:=aO m19
 have iD:=iB s6 o.ty
 have⟨m21,X,m23,m24⟩:=Kw iD m15 m16 m17 m18
 have b6:=s6.below F F.size (by omega)
 refine aD<|ay<|Lv (.agg (aA 6 (rv .u64 ((L).known)))) (jh W.aK 0)<|Lv (au i) (aP X.aK 0)<|fC (Qg L.known i a ha S h.i.kn _) _ rfl ?_
 intro w7 hb2
 have⟨sD,Y,Z,aa,ab,G⟩:=vv hb2 m21 X m23 m24 W b6
 refine av (.tuple #[aC (L.known a+1),au 0])<|av (aC (L.known a+1))<|av (au 0)<|ni 1 (rv .u64 (fun _=>0)) fun k w8 M r s8 z6 => ?_
 have⟨mP,m32,oK,nZ,qP,H⟩:=vv s8.old sD Y Z aa ab G
 have UH:=iC M G.size
 have⟨U6,U7,U8,U9⟩:=I8 M Y.lt Z.lt aa.lt ab.lt
 have WZ:=r.lt
 refine nk r 0 (aC (L.known a+1)) fun w9 qQ s9 z7 => ?_
 have ac:aL w9 k 1 (fun _=>aC (L.known a+1)) 29:=cu qQ
 have mH:=iB s9 r.ty
 have⟨uo,ad,ae,qU,af⟩:=Ky mH mP m32 oK nZ qP
 have b9:=s9.below H H.size (by omega)
 refine av (au 0)<|aD<|Ws<|ay<|av (au 0)<|Lv aF (gH rfl rfl rfl (by decide))<|aD<|aN<|Wk<|sN<|ay<|Lv (.agg (aA 6 (iO x))) (jh ae.aK 0)<|Lv (.func (.func 28) #[] #[(pt l),(pt k),(pt g)]) (Fx.iV (us := []) (vs := [(pt l),(pt k),(pt g)]) rfl rfl rfl)<|ko (U5 x i (L.known a+1) L.known _ l k g ad ac af) ?_
 rintro e9 zI ⟨R,hb3⟩
 refine⟨.agg (aA 14 (dF (kg L.known i x))),by rw[R]; unfold kg; rw[eia],?_⟩
 clear R
 have⟨qV,rO,uq,ag,wD,Ac,z⟩:=BO hb3 uo ad ae qU af ac b9
 refine ni 14 (fun b=>if b<1 then au 0 else if b<8 then aC 0 else if b<9 then .int .u8 (0)else if b<10 then aC 0 else if b<12 then au 0 else aC 0) fun g6 N7 O s s11 z8 => ?_
 have⟨uw,vJ,A⟩:=kM s11.old qV ag z
 have lg6:=iC O z.size
 have⟨aby,abz,abA,abB,abC⟩:=ug O rO.lt uq.lt ag.lt wD.lt Ac.lt
 have tg6:=s.lt
 refine fI s 0 (h1:=(ku _)) fun N8 uy u z9 => ?_
 have sG:aL N8 g6 14 (dF (kg L.known i x)) 33:=aO uy
 have yJ:=iB u s.ty
 have uZ:=oC yJ uw
 have xg:=vJ.eH u (by omega)
 have C:=u.below A A.size (by omega)
 refine aD<|Ws<|ay<|av ((pt lp))<|Lv (.agg (aA 14 (dF (kg L.known i x)))) (jh sG.aK 0)<|fC (Qc (v:=(kg L.known i x)) uZ (NM h.i.kn hx d) hB (Q.below C l0) (fun _ _=>rfl)) _ rfl ?_
 intro SX hb4
 have⟨yN,t,f⟩:=kM hb4 xg sG C
 refine av (au (cK L (kg L.known i x)))<|aD<|ay<|av (au (cK L (kg L.known i x))) ?_
 by_cases c:(cK L (kg L.known i x))=0
 ·refine Lv aF (ng c)<|aD<|aN<|Wk<|sN<|ay<|Lv (.agg (aA 14 (dF (kg L.known i x)))) (jh t.aK 0)<|fI yN 0 (h1:=(ku _)) fun Vd xq SV YT => ?_
  have Ae:aL Vd P 14 (dF (kg L.known i x)) 33:=aO xq
  have EW:=t.eH SV (by omega)
  have b14:=SV.below f f.size (by omega)
  refine av (au 0) (aD (Wr (⟨.tuple #[.agg (aA 14 (dF (kg L.known i x))),au 0],gI Tryd.results14 ⟨_,rfl,aT Ae.aK (by kernel_rfl) (by kernel_rfl)⟩ (by exact rfl),?_⟩)))
  exact⟨by rw[jB d,show dZ L i x=kg L.known i x by unfold dZ; rw[if_pos (by rw[jB d]; exact c),]]; exact wm (fun _ _=>rfl) c.symm,b14⟩
 refine Lv aG (qg c)<|aD<|aQ<|ay<|av (.agg (aA 14 (fun b=>if b<1 then au 0 else if b<8 then aC 0 else if b<9 then .int .u8 (0)else if b<10 then aC 0 else if b<12 then au 0 else aC 0)))<|av (au (cK L (kg L.known i x)))<|fI yN 0 (h1:=(fun jq _=>by show((fun b=>if b<1 then au 0 else if b<8 then aC 0 else if b<9 then .int .u8 (0)else if b<10 then aC 0 else if b<12 then au 0 else aC 0:Nat->Value) jq).oneCell'=true; simp only[]; repeat (first|rfl|split))) fun VY Da s15 YU => ?_
 have Af:aL VY P 14 (fun b=>if b<1 then au 0 else if b<8 then aC 0 else if b<9 then .int .u8 (0)else if b<10 then aC 0 else if b<12 then au 0 else aC 0) 33:=aO Da
 have JY:=t.eH s15 (by omega)
 have b15:=s15.below f f.size (by omega)
 refine av (au (cK L (kg L.known i x))) (aD (Wr (sR (⟨.tuple #[.agg (aA 14 (fun b=>if b<1 then au 0 else if b<8 then aC 0 else if b<9 then .int .u8 (0)else if b<10 then aC 0 else if b<12 then au 0 else aC 0)),au (cK L (kg L.known i x))],gI Tryd.results14 ⟨_,rfl,aT Af.aK (by kernel_rfl) (by kernel_rfl)⟩ (by exact rfl),?_⟩))))
 exact⟨by rw[jB d,show dZ L i x=zeroE by unfold dZ; rw[if_neg (by rw[jB d]; exact c)]]; exact wm (fun j hj=>by rcases j with _|_|_|_|_|_|_|_|_|_|_|_|_|_|j <;> first|rfl|omega) rfl,b15⟩
theorem Va{lp B N:Nat}{m:dB}{L:dU}{w:World}(h:tT w B lp m L N)(b:1<=B)(c:gF w 0 0 8 vX)(i:Int){x:fU}(hx:sJ x){y:Nat->Value}(hy : ∀ j,j<6->y j=iO x j) :
 Calls Tryd.prog 14 #[(pt lp),au i,.agg (aA 6 y)] w fun e w'=>e = .returned (.tuple #[.agg (aA 14 (dF (dZ L i x))),au (gQ L i x)])/\Below w.heap.size w w':=by
 rw[Fx.fE hy]
 cases hr:iY i with
 | false=>exact Qh lp B N m L w h b c i x hr
 | true =>
   obtain⟨a,f,d⟩:=dV hr
   exact Qi lp B N m L w h b c i x hx a f d
-- admit.abD is not in this seat
-- admit.abD is not in this seat
theorem Rt.uV:jQ zeroE:=by
 have z:je 0:=⟨by decide,by decide⟩
 have y:uz 0:=⟨by decide,by decide⟩
 exact⟨y,z,fun _ _=>z,⟨by decide,by decide⟩,z,y,y,z,z⟩
def wdS(p:Nat)(M:WM)(k:Nat):Prop:=k=p\/(Value.slice M.la M.n M.lc).ownBlock=some k\/(Value.slice M.aa M.an M.ac).ownBlock=some k
def Xt(w:World)(p:Nat)(M a:WM):Prop := ∀ k,wdS p a k->wdS p M k\/w.heap.size<=k
theorem Xt.app{w b:World}{p g:Nat}{M a:WM}(i:(Value.slice M.aa M.an M.ac).ownBlock=some g\/g=b.heap.size)(l:w.heap.size<=b.heap.size)(h1:a.la=M.la:=by rfl)(c:a.n=M.n:=by rfl)(d:a.lc=M.lc:=by rfl)(f:(Value.slice a.aa a.an a.ac).ownBlock=some g:=by rfl):Xt w p M a:=fun k j=>by
 rcases j with h|h|h
 ·exact .inl (.inl h)
 ·rw[h1,c,d]at h; exact .inl (.inr (.inl h))
 ·have e:g=k:=Option.some.inj (f.symm.trans h)
  rcases i with h5|h5
  ·exact .inl (.inr (.inr (e ▸ h5)))
  ·exact .inr (by omega)
-- (*jy.World).Do is not in this seat
set_option maxRecDepth 20000
set_option linter.unusedVariables false
namespace Rt
def Ak:fU:=⟨1,0,0,10,0,0⟩
def pq:fU:=⟨3,J8,0,4,1,0⟩
theorem Qj:sJ Ak:=⟨⟨by decide,by decide⟩,⟨by decide,by decide⟩,⟨by decide,by decide⟩,⟨by decide,by decide⟩,⟨by decide,by decide⟩,⟨by decide,by decide⟩⟩
theorem IQ:sJ pq:=⟨⟨by decide,by decide⟩,⟨by decide,by decide⟩,⟨by decide,by decide⟩,⟨by decide,by decide⟩,⟨by decide,by decide⟩,⟨by decide,by decide⟩⟩
def wA:EvM:=kg (oO 2 0).core.known 1 Ak
theorem ap1:cK (oO 2 0).core wA=0:=tw0.err wA (by kernel_rfl)
end Rt
-- JU.works is not in this seat
-- JU.Xu is not in this seat
end Go.Proofs.YtcbedgfikejkoaaDoor
namespace Go.Proofs.YtcbedgfikejkoaaDoor
open Go.RowKit Go
set_option linter.unusedVariables false
set_option maxRecDepth 20000
namespace Rt
def mI(i r:Int)(x:Nat->Int):Bool:=decide (x 0=i)&&(decide (x 1=r) || decide (x 4=r))
def qK(L:dU)(i r:Int):Int:=fA (fun q=>mI i r (L.g q)) L.gn
def pI(x:fU)(g:Nat->Int):Bool:=decide (x.kind=3)&&(decide (g 1=x.req)&&(decide (g 2=x.node)&&decide (g 3=x.bM)))
def nG(x:fU)(g:Nat->Int):Bool:=decide (x.kind=4)&&(decide (g 4=x.req)&&decide (g 1=x.of))
def J9(x:fU):Bool := !decide (x.req=0)&&(decide (x.kind=3) || decide (x.kind=4))
def dD(L:dU)(i:Int)(x:fU):Bool:=J9 x&&decide (0<=qK L i x.req)
def fP(L:dU)(i:Int)(x:fU):Int:=if dD L i x=true then(if(pI x (L.g (qK L i x.req).toNat) || nG x (L.g (qK L i x.req).toNat))=true then 0 else 14)else 0
theorem zC{i r:Int}{x:Nat->Int}:mI i r x=true<->x 0=i/\(x 1=r\/x 4=r):=by
 unfold mI
 rw[Bool.and_eq_true,Bool.or_eq_true,decide_eq_true_iff,decide_eq_true_iff,decide_eq_true_iff]
structure E8(L:dU)(i:Int):Prop where
 a : ∀ q,q<L.gn -> ∀ r,r≠0->mI i r (L.g q)=true -> ∃ j,j<L.rn (i-1).toNat/\L.rq (i-1).toNat j=r
 u : ∀ r,r≠0 -> ∀ q p,q<L.gn->p<L.gn->mI i r (L.g q)=true->mI i r (L.g p)=true->q=p
def IU(y:fU)(i:Int)(g:Nat->Int):Prop:=g 0=i/\((y.kind=3/\g 1=y.req/\g 2=y.node/\g 3=y.bM)\/(y.kind=4/\g 4=y.req/\g 1=y.of))
def mX(L:dU)(i:Int)(y:fU):Prop:=y.req≠0 /\ ∃ q,q<L.gn/\IU y i (L.g q)
theorem EL{y:fU}{i:Int}{g:Nat->Int}(h:IU y i g):mI i y.req g=true:=by
 rw[zC]
 obtain⟨b,⟨_,a,_⟩|⟨_,a,_⟩⟩:=h
 ·exact⟨b,.inl a⟩
 exact⟨b,.inr a⟩
section
variable {L:dU} {N:Nat} {v:EvM} {i:Int} {y z:fU}
theorem E8.new(k:Nat):E8 (oO k 0).core i:=⟨fun _ h=>absurd h (Nat.not_lt_zero _),fun _ _ _ _ h=>absurd h (Nat.not_lt_zero _)⟩
theorem zD(h:E8 L i)(d:mX L i y) : ∃ q:Nat,qK L i y.req=(q:Int)/\IU y i (L.g q):=by
 obtain⟨c,q,b,a⟩:=d
 unfold qK
 rcases fT (fun q=>mI i y.req (L.g q)) L.gn with ⟨k,f,e,j⟩|⟨_,hn⟩
 ·have:=h.u _ c k q f b j (EL a)
  subst this
  exact⟨k,e,a⟩
 have:=hn q b
 rw[EL a]at this; cases this
theorem IV(b:mX L i y):J9 y=true:=by
 obtain⟨a,q,_,_,c⟩:=b
 unfold J9
 rw[decide_eq_false a]
 rcases c with ⟨e,_⟩|⟨e,_⟩
 ·rw[decide_eq_true e]; rfl
 rw[decide_eq_true e,Bool.or_true]; rfl
theorem Gy(h:E8 L i)(f:mX L i y):dD L i y=true/\fP L i y=0:=by
 obtain⟨q,e,g⟩:=zD h f
 have d:dD L i y=true:=by
  unfold dD
  rw[IV f,e,decide_eq_true (by omega:(0:Int)<=(q:Int))]; rfl
 refine⟨d,?_⟩
 unfold fP
 rw[if_pos d,e,if_pos]
 rw[Int.toNat_natCast]
 obtain⟨_,⟨a,b,c,j⟩|⟨a,b,c⟩⟩:=g
 ·unfold pI
  rw[decide_eq_true a,decide_eq_true b,decide_eq_true c,decide_eq_true j]; rfl
 unfold nG
 rw[decide_eq_true a,decide_eq_true b,decide_eq_true c,Bool.or_eq_true]; exact .inr rfl
attribute [local irreducible] fK dH
theorem EM(h:E8 L i)(G:v.o=i)(hr:1<=v.req)(A:lU L v=0):E8 (ig L v) i/\(∀ w,mX L i w->mX (ig L v) i w) /\ ∃ q,q<(ig L v).gn/\(ig L v).g q=vM v:=by
 unfold lU at A
 split at A
 ·cases A
 rename_i c1
 have z:bB v=(i-1).toNat:=by unfold bB; rw[G]
 obtain⟨H,I⟩:=uU (L:=L) (a:=bB v) (r:=v.req) (ig L v) rfl rfl
 have D : ∀ j,j<L.gn -> ¬ mI i v.req (L.g j)=true:=fun j m e=>c1 (by
  obtain⟨q,f,d⟩:=h.a j m v.req (by omega) e
  unfold dU.qo
  rw[nX,z]
  exact⟨q,f,decide_eq_true d⟩)
 obtain⟨k,C⟩ : ∃ k,k=Fx.down (fun i=>Eb v (L.g i)) L.gn:=⟨_,rfl⟩
 have y:k<=L.gn:=by rw[C]; exact Fx.ow _ _
 have t:(ig L v).g=Fx.bT L.g k (vM v):=by rw[C]; rfl
 have x:(ig L v).gn=L.gn+1:=rfl
 have B : ∀ r,r≠0->mI i r (vM v)=true->r=v.req:=fun r b e=>by
  obtain⟨_,e|e⟩:=zC.1 e
  ·exact e.symm
  ·exact absurd e.symm b
 refine⟨⟨fun q f r b e => ?_,fun r b q p f s n d => ?_⟩,fun w ⟨b,q,f,F⟩=>⟨b,?_⟩,k,by rw[x]; omega,by rw[t,bH]⟩
 ·rw[x]at f
  rw[t]at e
  rw[<- z]
  rcases bW y f with rfl|⟨j,m,ej,_,_⟩
  ·rw[bH]at e; rw[B r b e]; exact I
  rw[ej]at e
  obtain hx:=h.a j m r b e
  rw[<- z]at hx
  exact H _ _ hx
 ·rw[x]at f s
  rw[t]at n d
  rcases bW y f with rfl|⟨j,m,ej,j1,j2⟩
  ·rw[bH]at n
   rcases bW y s with rfl|⟨j,m,ej,j1,j2⟩
   ·rfl
   rw[ej,B r b n]at d; exact absurd d (D j m)
  rw[ej]at n
  rcases bW y s with rfl|⟨l,hl,el,l1,l2⟩
  ·rw[bH]at d; rw[B r b d]at n; exact absurd n (D j m)
  rw[el]at d
  have:=h.u r b j l m hl n d
  subst this
  by_cases c:j<k
  ·rw[j1 c,l1 c]
  rw[j2 (by omega),l2 (by omega)]
 obtain⟨p,s,_,E⟩:=qC (k:=k) f
 exact⟨p,by rw[x]; exact s,by rw[t,E]; exact F⟩
theorem EN(h:E8 L i)(G:v.o=i)(hr:1<=v.req)(s:ny L v=0):E8 (eO L v) i/\(∀ w,mX L i w->mX (eO L v) i w) /\ ∃ q,q<(eO L v).gn/\(eO L v).g q 0=i/\(eO L v).g q 4=v.req/\(eO L v).g q 1=v.of:=by
 unfold ny at s
 split at s
 ·cases s
 rename_i c1
 split at s
 ·cases s
 rename_i c2
 have y:bB v=(i-1).toNat:=by unfold bB; rw[G]
 obtain⟨P,Q⟩:=uU (L:=L) (a:=bB v) (r:=v.req) (eO L v) rfl rfl
 have F : ∀ j,j<L.gn -> ¬ mI i v.req (L.g j)=true:=fun j K e=>c1 (by
  obtain⟨q,m,f⟩:=h.a j K v.req (by omega) e
  unfold dU.qo
  rw[nX,y]
  exact⟨q,m,decide_eq_true f⟩)
 have A : ¬ L.grant v.o v.of<0:=fun e=>c2 (.inl e)
 have B:L.g (uH L v) 4=0:=Classical.byContradiction fun e=>c2 (.inr e)
 obtain⟨k,M,E,N,O⟩ : ∃ k,k<L.gn/\uH L v=k/\L.g k 0=v.o/\L.g k 1=v.of:=by
  unfold uH
  rcases fT (fun i=>decide (L.g i 0=v.o)&&decide (L.g i 1=v.of)) L.gn with ⟨k,t,e,l⟩|⟨e,_⟩
  ·rw[Bool.and_eq_true,decide_eq_true_iff,decide_eq_true_iff]at l
   exact⟨k,t,by unfold dU.grant; rw[e]; rfl,l.1,l.2⟩
  ·unfold dU.grant at A; rw[e]at A; omega
 rw[E]at B
 have D : ∀ q,(eO L v).g q=if q=k then aY (L.g k) 4 v.req else L.g q:=fun q=>by rw[<- E]; rfl
 have n : ∀ q p,p≠4->(eO L v).g q p=L.g q p:=fun q p l=>by
  rw[D]
  by_cases c:q=k
  ·subst c; rw[if_pos rfl]; unfold aY; rw[if_neg l]
  ·rw[if_neg c]
 have z : ∀ q,(eO L v).g q 4=if q=k then v.req else L.g q 4:=fun q=>by
  rw[D]
  by_cases c:q=k
  ·rw[if_pos c,if_pos c]; rfl
  ·rw[if_neg c,if_neg c]
 have R:(eO L v).gn=L.gn:=rfl
 -- what is hit now was hit,or is the new one
 have x : ∀ r,r≠0 -> ∀ q,mI i r ((eO L v).g q)=true->mI i r (L.g q)=true\/q=k/\r=v.req:=fun r d q e=>by
  rw[zC]at e ⊢
  rw[n q 0 (by decide),n q 1 (by decide),z q]at e
  obtain⟨C,b|b⟩:=e
  ·exact .inl ⟨C,.inl b⟩
  ·by_cases c:q=k
   ·rw[if_pos c]at b; exact .inr ⟨c,b.symm⟩
   ·rw[if_neg c]at b; exact .inl ⟨C,.inr b⟩
 refine⟨⟨fun q m r d e => ?_,fun r d q p m l b f => ?_⟩,fun w ⟨d,q,m,J⟩=>⟨d,q,m,?_⟩,k,M,by rw[n k 0 (by decide),N,G],by rw[z,if_pos rfl],by rw[n k 1 (by decide),O]⟩
 ·rw[<- y]
  rcases x r d q e with e|⟨_,rfl⟩
  ·have H:=h.a q m r d e
   rw[<- y]at H
   exact P _ _ H
  exact Q
 ·rcases x r d q b with b|⟨rfl,rfl⟩
  ·rcases x r d p f with f|⟨rfl,rfl⟩
   ·exact h.u r d q p m l b f
   exact absurd b (F q m)
  rcases x _ d p f with f|⟨rfl,_⟩
  ·exact absurd f (F p l)
  rfl
 obtain⟨I,t⟩:=J
 refine⟨by rw[n q 0 (by decide)]; exact I,?_⟩
 rw[n q 1 (by decide),n q 2 (by decide),n q 3 (by decide),z q]
 rcases t with t|⟨k2,k3,k4⟩
 ·exact .inl t
 refine .inr ⟨k2,?_,k4⟩
 rw[if_neg]
 ·exact k3
 rintro rfl
 exact d (k3.symm.trans B)
theorem zF(c:cK L v=0):bZ v=true/\lV L v=0:=by
 have a:=(Tz (kJ c)).1
 refine⟨a,?_⟩
 unfold cK at c
 rw[if_neg (by rw[a]; decide)]at c
 split at c; · cases c
 split at c; · cases c
 split at c; · cases c
 exact c
theorem Gz(h:bZ v=true):iH v=true:=by
 unfold bZ at h
 rw[Bool.and_eq_true]at h
 exact h.2
theorem CY(h:bZ v=true)(a:v.kind=3\/v.kind=4):1<=v.req:=by
 have:=Gz h
 unfold iH at this
 rcases a with k|k
 ·rw[k,if_neg (by decide),if_neg (by decide),if_pos rfl,Bool.and_eq_true]at this
  exact of_decide_eq_true this.2
 rw[k,if_neg (by decide),if_neg (by decide),if_neg (by decide),if_pos rfl,Bool.and_eq_true,Bool.and_eq_true]at this
 exact of_decide_eq_true this.1.1
theorem EO(h:E8 L i)(l:v.o=i):E8 (dR L v) i/\(∀ w,mX L i w->mX (dR L v) i w):=by
 unfold dR
 by_cases c:cK L v=0
 ·rw[if_pos c]
  obtain⟨k,e⟩:=zF c
  have f:E8 (jA L v) i/\(∀ w,mX L i w->mX (jA L v) i w):=by
   unfold lV at e
   unfold jA
   by_cases m:v.kind=1
   ·rw[if_pos m]; exact⟨⟨h.a,h.u⟩,fun w d=>d⟩
   rw[if_neg m]at e ⊢
   by_cases n:v.kind=2
   ·rw[if_pos n]; exact⟨⟨h.a,h.u⟩,fun w d=>d⟩
   rw[if_neg n]at e ⊢
   by_cases g:v.kind=3
   ·rw[if_pos g]at e ⊢
    obtain⟨a,b,_⟩:=EM h l (CY k (.inl g)) e
    exact⟨a,b⟩
   rw[if_neg g]at e ⊢
   by_cases j:v.kind=4
   ·rw[if_pos j]at e ⊢
    obtain⟨a,b,_⟩:=EN h l (CY k (.inr j)) e
    exact⟨a,b⟩
   rw[if_neg j]
   split
   ·exact⟨⟨h.a,h.u⟩,fun w d=>d⟩
   split <;> exact⟨⟨h.a,h.u⟩,fun w d=>d⟩
  exact⟨⟨f.1.a,f.1.u⟩,fun w d=>f.2 w d⟩
 rw[if_neg c]; exact⟨h,fun w d=>d⟩
theorem GA(h:E8 L i)(c:cK L v=0)(d:v.o=i)(l:y.kind=3\/y.kind=4)(b:v.kind=y.kind)(n:v.node=y.node)(p:v.bM=y.bM)(j:v.req=y.req)(r:v.of=y.of):mX (dR L v) i y:=by
 unfold dR
 rw[if_pos c]
 obtain⟨s,a⟩:=zF c
 have m:=CY s (by rw[b]; exact l)
 refine⟨by omega,?_⟩
 show ∃ q,q<(jA L v).gn/\IU y i ((jA L v).g q)
 unfold lV at a
 unfold jA
 rcases l with k3|k4
 ·have k:v.kind=3:=b.trans k3
  rw[if_neg (by rw[k]; decide),if_neg (by rw[k]; decide),if_pos k]at a ⊢
  obtain⟨_,_,q,f,e⟩:=EM h d m a
  exact⟨q,f,by rw[e]; exact⟨d,.inl ⟨k3,j,n,p⟩⟩⟩
 have k:v.kind=4:=b.trans k4
 rw[if_neg (by rw[k]; decide),if_neg (by rw[k]; decide),if_neg (by rw[k]; decide),if_pos k]at a ⊢
 obtain⟨_,_,q,f,t,w,u⟩:=EN h d m a
 exact⟨q,f,t,.inr ⟨k4,w.trans j,u.trans r⟩⟩
end
end Rt
end Go.Proofs.YtcbedgfikejkoaaDoor
namespace Go.Proofs.YtcbedgfikejkoaaDoor
open Go.RowKit Rt
open Fx (eT dI eY bf eX eU eG dM eZ gW dO gX eP gH gY Lv sN Ln Ws Qv Wl Rp Wc Qs Wr Sb Lk Wk rC rV sR Rs Rn Rd Rk Wb Wx Wo yE Wt pJ Ai Qn zQ tL yt zG wT zT zR iB zV jC nY rR zW yu zU yF yx rv aA aL bE aI ev bT Stp bV aO flat fH Mp dK aT fq gF bA down fM iW iJ jk kU bQ bD cells_one jD aX pV unseen jl iQ cu bX dA cZ dh iE iT qL gI)
set_option maxRecDepth 20000
set_option linter.unusedVariables false
namespace Rt
theorem Rx{x:fU}(a : ¬ x.req=0)(h:x.kind=3\/x.kind=4):J9 x=true:=by
 unfold J9; rw[decide_eq_false a]
 rcases h with h|h
 ·rw[decide_eq_true h]; rfl
 rw[decide_eq_true h,Bool.or_true]; rfl
theorem EP{L:dU}{i:Int}{x:fU}(h:x.req=0 \/ ¬ x.kind=3 /\ ¬ x.kind=4):dD L i x=false/\fP L i x=0:=by
 have:dD L i x=false:=by
  unfold dD J9
  rcases h with h|⟨h1,h2⟩
  ·rw[decide_eq_true h]; rfl
  ·rw[decide_eq_false h1,decide_eq_false h2,Bool.or_false,Bool.and_false]; rfl
 exact⟨this,by unfold fP; rw[this]; rfl⟩
theorem xZ{L:dU}{i:Int}{x:fU}(h:qK L i x.req<0):dD L i x=false/\fP L i x=0:=by
 have:dD L i x=false:=by unfold dD; rw[decide_eq_false (by omega),Bool.and_false]
 exact⟨this,by unfold fP; rw[this]; rfl⟩
theorem Vb{L:dU}{i r:Int}(h : ¬ qK L i r<0) : ∃ j:Nat,j<L.gn/\qK L i r=(j:Int):=by
 unfold qK at h ⊢
 rcases fT (fun q=>mI i r (L.g q)) L.gn with ⟨k,a,e,_⟩|⟨e,_⟩
 ·exact⟨k,a,e⟩
 rw[e]at h; exact absurd (by decide) h
theorem tK{L:dU}{i:Int}{x:fU}{j:Nat}(a:J9 x=true)(e:qK L i x.req=(j:Int)):dD L i x=true/\fP L i x=if(pI x (L.g j) || nG x (L.g j))=true then 0 else 14:=by
 have:dD L i x=true:=by unfold dD; rw[a,e,decide_eq_true (by omega)]; rfl
 exact⟨this,by unfold fP; rw[this,if_pos rfl,e]; rfl⟩
end Rt
theorem Ry(g:Nat->Int)(i:Int)(x:fU)(w:World)(l:Nat)(f:Nat)(hi:aL w l 1 (fun _=>au i) 3)(ha:aL w f 6 (iO x) 37) :
 Calls Tryd.prog 23 #[.agg (aA 5 (jE g)),(pt l),(pt f)] w fun e w'=>e = .returned (.bool (mI i x.req g))/\Below w.heap.size w w':=by
 have r:=hi.lt
 have q:=ha.lt
 refine Kent Tryd.func23 23 ?_
 refine ay<|rG fun j v k h o y => ?_
 have⟨n,m,b⟩:=kM o.old hi ha (Below.refl w.heap.size w)
 have p:=gK k
 have⟨s,t⟩:=rH k hi.lt ha.lt
 have u:=h.lt
 refine av aF<|aD<|ay<|av ((pt j))<|Lv (au (g 0)) (aP h.aK 0)<|Lv (au i) (aP n.aK 0) ?_
 by_cases a:(g 0)=i
 ·refine Lv aG (gT a)<|av aG<|av ((pf j 1))<|Lv (aC (g 1)) (aP h.aK 1)<|av ((pf f 4))<|Lv (aC x.req) (aP m.aK 4) ?_
  by_cases c:(g 1)=x.req
  ·refine Lv aG (gT c)<|av aG<|dL<|dL<|dL<|dL<|dL<|av aG<|av aG<|av aG<|aD<|Wr<|aM aG ?_
   exact⟨lN (Eq.symm (by unfold mI; rw[decide_eq_true a,decide_eq_true c]; rfl)),b⟩
  refine Lv aF (jm c)<|av aF<|av ((pf j 4))<|Lv (aC (g 4)) (aP h.aK 4)<|av ((pf f 4))<|Lv (aC x.req) (aP m.aK 4) ?_
  by_cases d:(g 4)=x.req
  ·refine Lv aG (gT d)<|av aG<|av aG<|av aG<|aD<|Wr<|aM aG ?_
   exact⟨lN (Eq.symm (by unfold mI; rw[decide_eq_true a,decide_eq_true d,Bool.or_true]; rfl)),b⟩
  refine Lv aF (jm d)<|av aF<|av aF<|av aF<|aD<|Wr<|aM aF ?_
  exact⟨lN (Eq.symm (by unfold mI; rw[decide_eq_true a,decide_eq_false c,decide_eq_false d]; rfl)),b⟩
 refine Lv aF (jm a)<|av aF<|dL<|dL<|dL<|dL<|dL<|dL<|dL<|dL<|dL<|dL<|dL<|dL<|av aF<|av aF<|aD<|Wr<|aM aF ?_
 exact⟨lN (Eq.symm (by unfold mI; rw[decide_eq_false a]; rfl)),b⟩
theorem Rt.GD{P:Nat->Bool}{k:Nat}(h : ∀ p,p<k->P p=false)(a:P k=false) : ∀ p,p<k+1->P p=false:=fun p b=>by
 by_cases e:p=k
 ·rw[e]; exact a
 ·exact h p (by omega)
theorem Xv(a:Option Addr)(n cap:Nat)(g:Nat->Nat->Int)(i:Int)(x:fU)(w:World)(H:kU w a n 5 (flat 5 (fun J=>jE (g J))))(Q:n<=1000000)(c:Nat)(b:Nat)(hi:aL w c 1 (fun _=>au i) 3)(ha:aL w b 6 (iO x) 37) :
 Calls Tryd.prog 22 #[.slice a (n) (cap),.func (.func 23) #[] #[(pt c),(pt b)]] w fun e w'=>e = .returned (au (fA (fun p=>mI i x.req (g p)) n))/\Below w.heap.size w w':=by
 have V:=hi.lt
 have U:=ha.lt
 refine Kent Tryd.func22 19 ?_
 refine ay<|av (au 0)<|aD<|Ws<|ay<|av (.slice a (n) (cap))<|av (au n)<|av (au 0)<|aD<|Wb<|Wo (fun f u => ∃ k:Nat,k<=n/\(∀ p,p<k->(fun p=>mI i x.req (g p)) p=false)/\f 0 = .slice a (n) (cap)/\f 1 = .func (.func 23) #[] #[(pt c),(pt b)]/\f 7=au ((n:Int))/\f 8=au ((k:Int))/\aL u c 1 (fun _=>au i) 3/\aL u b 6 (iO x) 37/\Below w.heap.size w u) (fun f _=>(n-(intOf (f 8)).toNat)) ⟨0,by omega,(fun p h=>absurd h (by omega)),(by rfl),(by rfl),Fx.ic,Fx.ic,hi,ha,(Below.refl w.heap.size w)⟩ ?_
 rintro O N ⟨k,P,r,z,A,o,j,s,t,m⟩
 refine ay ?_
 by_cases y:(k:Int)<(n:Int)
 ·refine Lv aG (mD y (hx:=j) (hy:=o))<|aD<|Ws<|aQ<|Wk<|sN<|Ws<|Wb<|ay<|aZ j<|av (au k)<|aD<|ay<|aZ A<|aZ z<|av (au k) ?_
  obtain⟨v,M,E,B⟩:=(H.up m rfl) (by omega)
  have T:v<N.heap.size:=B.lt (by omega)
  refine Lv ((pf v (5*k+M))) (dz 5 (hx:=(rfl.trans (congrArg (fun q=>Value.slice q (n) (cap)) E))))<|Lv (.agg (aA 5 (jE (g k)))) (jh B (5*k) (fun S I=>Fx.xG (k:=k) (by omega) I)) ?_
  by_cases d:(mI i x.req (g k))=true
  ·refine tL (by rfl) (Fx.tZ (args := [.agg (aA 5 (jE (g k)))]) rfl rfl rfl (all := #[.agg (aA 5 (jE (g k))),(pt c),(pt b)]) rfl Tryd.func23 rfl rfl) rfl<|(Ry (g k) i x _ c b s t).mono ?_
   rintro e W ⟨l,F⟩
   refine⟨.bool true,by rw[l,d],?_⟩
   clear l
   have C:=aR F m
   refine aD<|aQ<|ay<|av (au k)<|av (au k)<|aD<|Wr<|bX<|sR<|qL<|bX<|sR<|aM (au k) ?_
   exact⟨KrI (Eq.symm (yS r d (by omega))),C⟩
  rw[Bool.not_eq_true]at d
  refine tL (by rfl) (Fx.tZ (args := [.agg (aA 5 (jE (g k)))]) rfl rfl rfl (all := #[.agg (aA 5 (jE (g k))),(pt c),(pt b)]) rfl Tryd.func23 rfl rfl) rfl<|(Ry (g k) i x _ c b s t).mono ?_
  rintro e X ⟨l,G⟩
  refine⟨.bool false,by rw[l,d],?_⟩
  clear l
  have⟨K,L,D⟩:=kM G s t m
  refine aD<|aN<|Wk<|dA<|sN<|Wl<|Lv (au ((k:Int)+1)) (gV (hx:=j))<|av (au ((k:Int)+1))<|Ln<|iT ⟨k+1,by omega,(GD r (by simpa using d)),z,A,(o.trans Fx.ic),Fx.ic,K,L,D⟩ ?_
  show(n-(intOf ((au ((k:Int)+1)))).toNat)<_
  simp only[j,intOf]; omega
 refine Lv aF (mE y (hx:=j) (hy:=o))<|aD<|Ws<|aN<|Wx<|cZ<|iE<|dh<|sN<|ay<|av (au (-1))<|aD<|Wr<|aM (au (-1)) ?_
 exact⟨KrI (Eq.symm (qm (fun p R=>r p (by omega)))),m⟩
theorem IW(L:dU)(X l:Option Addr)(Y m:Nat)(i:Int)(x:fU)(w:World)(hga:kU w l L.gn 5 (flat 5 (P9 L)))(hgn:L.gn<=1000000) :
 Calls Tryd.prog 11 #[.agg (aA 20 (wI (P8 L X Y l m))),au i,.agg (aA 6 (iO x))] w fun e w'=>e = .returned (.tuple #[.bool (dD L i x),au (fP L i x)])/\Below w.heap.size w w':=by
 refine Kent Tryd.func11 83 ?_
 refine ay<|rG fun y w1 oI m1 s1 z1 => ?_
 have b1:=aR s1.old (Below.refl w.heap.size w)
 have wY:=gK oI
 have xK:=m1.lt
 refine pQ (au i) fun r w2 wM m2 s2 z2 => ?_
 have⟨m3,b2⟩:=gU s2.old m1 b1
 have zN:=iC wM b1.size
 have adz:=bS wM m1.lt
 have Cg:=m2.lt
 refine rG fun a w3 Bf B s3 z3 => ?_
 have⟨m5,m6,N⟩:=kM s3.old m3 m2 b2
 have G6:=iC Bf b2.size
 have⟨WU,adA⟩:=rH Bf m3.lt m2.lt
 have Ie:=B.lt
 refine av aF<|av (au 0)<|aD<|yF (fun f b=>J9 x=true/\f 3=(pt y)/\f 4=(pt r)/\f 5=(pt a)/\aL b y 20 (wI (P8 L X Y l m)) 43/\aL b r 1 (fun _=>au i) 3/\aL b a 6 (iO x) 37/\Below w.heap.size w b) ?_ ?_
 ·refine ay<|av ((pf a 4))<|Lv (aC x.req) (aP B.aK 4) ?_
  by_cases t:x.req=0
  ·refine Lv aG (gT t)<|av aG<|dL<|dL<|dL<|dL<|dL<|dL<|dL<|dL<|av aG<|aD<|aQ<|ay<|av aF<|av (au 0)<|aD<|Wr<|Fx.YC<|aM (.tuple #[.bool false,au 0]) ?_
   exact⟨by rw[(EP (.inl t)).1,(EP (.inl t)).2],N⟩
  refine Lv aF (jm t)<|av aF<|av ((pt a))<|Lv (.int .u8 (x.kind)) (aP B.aK 0) ?_
  by_cases D:x.kind=3
  ·refine Lv aF (ng D)<|av aF<|dL<|dL<|dL<|av aF<|av aF<|aD<|aN<|Wk ?_
   exact pV ⟨(Rx t (.inl D)),(by rfl),(by rfl),(by rfl),m5,m6,B,N⟩
  refine Lv aG (qg D)<|av aG<|av ((pt a))<|Lv (.int .u8 (x.kind)) (aP B.aK 0) ?_
  by_cases E:x.kind=4
  ·refine Lv aF (ng E)<|av aF<|av aF<|aD<|aN<|Wk ?_
   exact pV ⟨(Rx t (.inr E)),(by rfl),(by rfl),(by rfl),m5,m6,B,N⟩
  refine Lv aG (qg E)<|av aG<|av aG<|aD<|aQ<|ay<|av aF<|av (au 0)<|aD<|Wr<|Fx.YC<|aM (.tuple #[.bool false,au 0]) ?_
  exact⟨by rw[(EP (.inr ⟨D,E⟩)).1,(EP (.inr ⟨D,E⟩)).2],N⟩
 rintro f1 w4 ⟨z,h1,S,d,m7,m8,m9,b4⟩
 refine ay<|Lv ((pf y 19)) (C8 h1 19)<|Lv (.slice l (L.gn) (m)) (aP m7.aK 19)<|Lv (.func (.func 23) #[] #[(pt r),(pt a)]) (Fx.iV (us := []) (vs := [(pt r),(pt a)]) rfl rfl (Fx.args2 S d))<|fC ((Xv l L.gn m L.g i x _ (hga.up b4 rfl) hgn r a m8 m9).mono (fun e w2 S=>(⟨S.1,S.2⟩:e = .returned (au (qK L i x.req))/\_))) _ rfl ?_
 intro w5 hb1
 have⟨m10,m11,m12,O⟩:=jH hb1 m7 m8 m9 b4
 refine av (au (qK L i x.req))<|aD<|Ws<|ay<|av (au (qK L i x.req)) ?_
 by_cases F:(qK L i x.req)<0
 ·refine Lv aG (mD F)<|aD<|aQ<|ay<|av aF<|av (au 0)<|aD<|Wr<|sR<|aM (.tuple #[.bool false,au 0]) ?_
  exact⟨by rw[(xZ F).1,(xZ F).2],O⟩
 refine Lv aF (mE F)<|aD<|aN<|Wk<|sN<|Ws ?_
 obtain⟨j,hj,p⟩:=Vb F
 refine Wl<|Lv ((pf y 19)) (C8 h1 19)<|Lv (.slice l (L.gn) (m)) (aP m10.aK 19)<|aZ (congrArg (Value.int .i64) p) ?_
 obtain⟨aa,oq1,eq1,U⟩:=(hga.up O rfl) (by omega)
 have aha:aa<w5.heap.size:=U.lt (by omega)
 refine Lv ((pf aa (5*j+oq1))) (dz 5 (hx:=(rfl.trans (congrArg (fun q=>Value.slice q (L.gn) (m)) eq1))))<|Lv (.agg (aA 5 (P9 L j))) (jh U (5*j) (fun jq hjq=>Fx.xG (k:=j) (by omega) hjq))<|ni 5 (fun zq=>if zq<1 then au 0 else if zq<3 then aC 0 else if zq<4 then au 0 else aC 0) fun c w6 ab m14 s5 z4 => ?_
 have⟨m15,m16,m17,m18,b6⟩:=mF s5.old m10 m11 m12 U O
 have J2:=iC ab O.size
 have⟨Nu,Gp,NP⟩:=BQ ab m10.lt m11.lt m12.lt
 have NQ:aa≠c:=by rw[ab]; exact Nat.ne_of_lt (U.lt (by omega))
 have JG:=m14.lt
 refine fI m14 0 (h1:=(fun j _=>xP _ j)) fun w7 m19 s6 z5 => ?_
 have n:aL w7 c 5 (P9 L j) 72:=aO m19
 have iD:=iB s6 m14.ty
 have⟨K,M,h⟩:=Dr iD m15 m16 m17
 have m24:=m18.eH s6 (by omega)
 have C:=s6.below b6 b6.size (by omega)
 refine aD<|yF (fun f b=>f 5=(pt a)/\f 9=(pt c)/\f 10 = .bool ((pI x (L.g j)))/\aL b y 20 (wI (P8 L X Y l m)) 43/\aL b r 1 (fun _=>au i) 3/\aL b a 6 (iO x) 37/\aL b c 5 (P9 L j) 72/\Below w.heap.size w b) ?_ ?_
 ·refine Wl<|Lv ((pt a)) (C8 d 0)<|Lv (.int .u8 (x.kind)) (aP h.aK 0) ?_
  by_cases o:x.kind=3
  ·refine Lv aG (gT o)<|av aG<|av ((pf c 1))<|Lv (aC (L.g j 1)) (aP n.aK 1)<|Lv ((pf a 4)) (C8 d 4)<|Lv (aC x.req) (aP h.aK 4) ?_
   by_cases u:(L.g j 1)=x.req
   ·refine Lv aG (gT u)<|av aG<|av aG<|av ((pf c 2))<|Lv (aC (L.g j 2)) (aP n.aK 2)<|Lv ((pf a 1)) (C8 d 1)<|Lv (aC x.node) (aP h.aK 1) ?_
    by_cases G:(L.g j 2)=x.node
    ·refine Lv aG (gT G)<|av aG<|av aG<|av ((pf c 3))<|Lv (au (L.g j 3)) (aP n.aK 3)<|Lv ((pf a 3)) (C8 d 3)<|Lv (au x.bM) (aP h.aK 3) ?_
     by_cases Q:(L.g j 3)=x.bM
     ·refine Lv aG (gT Q)<|av aG<|av aG<|Ln ?_
      exact pV ⟨d,(by rfl),(congrArg Value.bool (by unfold pI; rw[decide_eq_true o,decide_eq_true u,decide_eq_true G,decide_eq_true Q]; rfl)),K,M,h,n,C⟩
     refine Lv aF (jm Q)<|av aF<|av aF<|Ln ?_
     exact pV ⟨d,(by rfl),(congrArg Value.bool (by unfold pI; rw[decide_eq_true o,decide_eq_true u,decide_eq_true G,decide_eq_false Q]; rfl)),K,M,h,n,C⟩
    refine Lv aF (jm G)<|av aF<|av aF<|dL<|dL<|dL<|dL<|dL<|av aF<|av aF<|Ln ?_
    exact pV ⟨d,(by rfl),(congrArg Value.bool (by unfold pI; rw[decide_eq_true o,decide_eq_true u,decide_eq_false G]; rfl)),K,M,h,n,C⟩
   refine Lv aF (jm u)<|av aF<|av aF<|dL<|dL<|dL<|dL<|dL<|av aF<|av aF<|dL<|dL<|dL<|dL<|dL<|av aF<|av aF<|Ln ?_
   exact pV ⟨d,(by rfl),(congrArg Value.bool (by unfold pI; rw[decide_eq_true o,decide_eq_false u]; rfl)),K,M,h,n,C⟩
  refine Lv aF (jm o)<|av aF<|dL<|dL<|dL<|dL<|dL<|av aF<|av aF<|dL<|dL<|dL<|dL<|dL<|av aF<|av aF<|dL<|dL<|dL<|dL<|dL<|av aF<|av aF<|Ln ?_
  exact pV ⟨d,(by rfl),(congrArg Value.bool (by unfold pI; rw[decide_eq_false o]; rfl)),K,M,h,n,C⟩
 rintro f2 w8 ⟨h4,h5,T,V,W,s,A,P⟩
 refine yF (fun f b=>f 10 = .bool ((pI x (L.g j)))/\f 11 = .bool ((nG x (L.g j)))/\aL b y 20 (wI (P8 L X Y l m)) 43/\aL b r 1 (fun _=>au i) 3/\aL b a 6 (iO x) 37/\aL b c 5 (P9 L j) 72/\Below w.heap.size w b) ?_ ?_
 ·refine Wl<|Lv ((pt a)) (C8 h4 0)<|Lv (.int .u8 (x.kind)) (aP s.aK 0) ?_
  by_cases v:x.kind=4
  ·refine Lv aG (gT v)<|av aG<|Lv ((pf c 4)) (C8 h5 4)<|Lv (aC (L.g j 4)) (aP A.aK 4)<|Lv ((pf a 4)) (C8 h4 4)<|Lv (aC x.req) (aP s.aK 4) ?_
   by_cases H:(L.g j 4)=x.req
   ·refine Lv aG (gT H)<|av aG<|av aG<|Lv ((pf c 1)) (C8 h5 1)<|Lv (aC (L.g j 1)) (aP A.aK 1)<|Lv ((pf a 5)) (C8 h4 5)<|Lv (aC x.of) (aP s.aK 5) ?_
    by_cases R:(L.g j 1)=x.of
    ·refine Lv aG (gT R)<|av aG<|av aG<|Ln ?_
     exact pV ⟨T,(congrArg Value.bool (by unfold nG; rw[decide_eq_true v,decide_eq_true H,decide_eq_true R]; rfl)),V,W,s,A,P⟩
    refine Lv aF (jm R)<|av aF<|av aF<|Ln ?_
    exact pV ⟨T,(congrArg Value.bool (by unfold nG; rw[decide_eq_true v,decide_eq_true H,decide_eq_false R]; rfl)),V,W,s,A,P⟩
   refine Lv aF (jm H)<|av aF<|av aF<|dL<|dL<|dL<|dL<|dL<|av aF<|av aF<|Ln ?_
   exact pV ⟨T,(congrArg Value.bool (by unfold nG; rw[decide_eq_true v,decide_eq_false H]; rfl)),V,W,s,A,P⟩
  refine Lv aF (jm v)<|av aF<|dL<|dL<|dL<|dL<|dL<|av aF<|av aF<|dL<|dL<|dL<|dL<|dL<|av aF<|av aF<|Ln ?_
  exact pV ⟨T,(congrArg Value.bool (by unfold nG; rw[decide_eq_false v]; rfl)),V,W,s,A,P⟩
 rintro f3 w9 ⟨h7,h8,tQ,uY,mP,m32,Z⟩
 refine Ws<|ay ?_
 by_cases I:(pI x (L.g j))=true
 ·refine aZ (h7.trans (congrArg Value.bool I))<|av aF<|av aF<|dL<|dL<|av aF<|aD<|aN<|Wk<|sN<|ay<|av aG<|av (au 0)<|aD<|Wr<|aM (.tuple #[.bool true,au 0]) ?_
  exact⟨by rw[(tK z p).1,(tK z p).2,if_pos (by rw[I]; rfl)],Z⟩
 rw[Bool.not_eq_true]at I
 refine aZ (h7.trans (congrArg Value.bool I))<|av aG<|av aG ?_
 by_cases J:(nG x (L.g j))=true
 ·refine aZ (h8.trans (congrArg Value.bool J))<|av aF<|av aF<|aD<|aN<|Wk<|sN<|ay<|av aG<|av (au 0)<|aD<|Wr<|aM (.tuple #[.bool true,au 0]) ?_
  exact⟨by rw[(tK z p).1,(tK z p).2,if_pos (by rw[J,Bool.or_true])],Z⟩
 rw[Bool.not_eq_true]at J
 refine aZ (h8.trans (congrArg Value.bool J))<|av aG<|av aG<|aD<|aQ<|ay<|av aG<|av (au 14)<|aD<|Wr<|sR<|aM (.tuple #[.bool true,au 14]) ?_
 exact⟨by rw[(tK z p).1,(tK z p).2,if_neg (by rw[I,J]; decide)],Z⟩
section
set_option maxRecDepth 20000
set_option linter.unusedVariables false
namespace Rt
noncomputable def Yg(L:dU)(i:Int)(x:fU):EvM:=if dD L i x=true then zeroE else dZ L i x
noncomputable def Yh(L:dU)(i:Int)(x:fU):Int:=if dD L i x=true then fP L i x else gQ L i x
noncomputable def Yi(L:dU)(i:Int)(x:fU):dU:=if dD L i x=true then L else dR L (dZ L i x)
section
variable {L:dU} {i:Int} {x:fU}
theorem uW(h:dD L i x=true):Yg L i x=zeroE/\Yh L i x=fP L i x/\Yi L i x=L:=⟨if_pos h,if_pos h,if_pos h⟩
theorem sK(h:dD L i x=false):Yg L i x=dZ L i x/\Yh L i x=gQ L i x/\Yi L i x=dR L (dZ L i x):=by
 have h : ¬ dD L i x=true:=by rw[h]; decide
 exact⟨if_neg h,if_neg h,if_neg h⟩
theorem Qk(L:dU):dR L zeroE=L:=by
 unfold dR
 rw[if_neg]
 have:cK L zeroE=1:=by unfold cK; rw[if_pos (by kernel_rfl)]
 rw[this]; decide
theorem NR(h : ¬ gQ L i x=0):dZ L i x=zeroE:=by unfold dZ; rw[if_neg h]
theorem GH(h:dD L i x=false)(d : ¬ gQ L i x=0):Yg L i x=zeroE/\Yh L i x=gQ L i x/\Yi L i x=L:=by
 obtain⟨a,b,c⟩:=sK h
 exact⟨by rw[a,NR d],b,by rw[c,NR d,Qk]⟩
theorem Ql(h:gQ L i x=0):iY i=true/\dZ L i x=kg L.known i x/\cK L (dZ L i x)=0:=by
 have a:iY i=true:=by
  cases c:iY i with
  | true=>rfl
  | false=>rw[(zB c).1]at h; cases h
 have e:dZ L i x=kg L.known i x:=by unfold dZ; rw[if_pos h]
 exact⟨a,e,by rw[e,<- jB a]; exact h⟩
end
end Rt
set_option maxRecDepth 10000 in
theorem Qm(lp B N:Nat)(m:dB)(L:dU)(w:World)(h:tT w B lp m L N)(X:1<=B)(C:gF w 0 0 8 vX)(hN:N<=900000)(i:Int)(hi : -9223372036854775808<=i/\i<=9223372036854775807)(x:fU)(hx:sJ x) :
 Calls Tryd.prog 7 #[(pt lp),au i,.agg (aA 6 (iO x))] w fun e w' => ∃ m',e = .returned (.tuple #[.agg (aA 14 (dF (Yg L i x))),au (Yh L i x)])/\tT w' B lp m' (Yi L i x) (N+1)/\iW (JD m lp w.heap.size) w w':=by
 have l0:=C.lt (by omega)
 have lq:=h.q.lt
 refine Kent Tryd.func7 40 ?_
 refine ay<|rG fun g1 w1 oI G s1 z1 => ?_
 have⟨m2,R⟩:=gU s1.old h (Below.refl w.heap.size w)
 have wY:=gK oI
 have xK:=G.lt
 refine ni 14 (fun f=>if f<1 then au 0 else if f<8 then aC 0 else if f<9 then .int .u8 (0)else if f<10 then aC 0 else if f<12 then au 0 else aC 0) fun A w2 U m3 s2 z2 => ?_
 have⟨m4,m5,b2⟩:=kM s2.old m2 G R
 have zN:=iC U R.size
 have Ic:=bS U G.lt
 have Cg:=m3.lt
 refine av (au 0)<|aD<|Ws<|ay<|av ((pt lp))<|Lv aF (Fx.jF rfl rfl rfl (by kernel_rfl))<|aD<|aN<|Wk<|sN<|Ws<|Ws ?_
 -- region 3 draws
 refine jP [0,2,3,1,4,5,6,7,8,9] [0,2,0,1,2,0,0,0,0,0] [(4,1,[1]),(5,1,[4,1]),(6,1,[5,4,1]),(7,1,[5,4,1]),(8,1,[1]),(9,1,[1]),(5,4,[4]),(6,4,[5,4]),(7,4,[5,4]),(8,4,[4]),(9,4,[4])] fun rZ gy iF => ?_
 have⟨m6,M,m8,b3⟩:=jH gy m4 m5 m3 b2
 refine aW ((pt lp))<|aW (au i)<|Rd (v := .agg (aA 6 (iO x))) (by rfl) (by rfl) (nY _) (fun v1 F=>dO (x:=iO x) (y:=iO x) rfl rfl (by kernel_rfl) (by kernel_rfl) (M.aK.below F (by have:=M.lt; omega)) (i:=0) (by omega) (by omega) (fun j _=>by rw[Nat.zero_add])) ?_
 refine BN<|ko (Qe m6 (by omega)) ?_
 rintro e9 w3 ⟨ss1,he,E,Y⟩
 obtain⟨zna,znc,zga,zgc,eS9⟩ : ∃ a b c d,ss1=P8 L a b c d:=⟨_,_,_,_,E.e⟩
 subst eS9
 refine⟨_,he,?_⟩
 clear he
 have s4:=Sb Y
 have⟨m9,m10,m11,b4⟩:=jH Y m6 M m8 b3
 refine Ln ⟨s4.old,?_⟩
 refine BN<|fC (IW L zna zga znc zgc i x _ E.g.arr (by have:=m9.i.gn; omega)) _ rfl ?_
 intro w4 Z
 have s5:=Sb Z
 have⟨H,m13,s,m15,r⟩:=mF Z m9 m10 m11 E b4
 refine Ln ⟨s5.old,?_⟩
 refine aW (.tuple #[.bool (dD L i x),au (fP L i x)])<|aW (.bool (dD L i x))<|aW (au (fP L i x))<|aW (.bool (dD L i x))<|aW (au (fP L i x))<|bG<|ay ?_
 by_cases l:(dD L i x)=true
 ·refine aZ (rfl.trans (congrArg Value.bool l))<|aD<|aQ<|ay<|Lv (.agg (aA 14 (fun f=>if f<1 then au 0 else if f<8 then aC 0 else if f<9 then .int .u8 (0)else if f<10 then aC 0 else if f<12 then au 0 else aC 0))) (jh s.aK 0)<|av (au (fP L i x))<|fI s 0 (h1:=(fun j D=>by rcases j with _|_|_|_|_|_|_|_|_|_|_|_|_|_|j <;> first|rfl|omega)) fun w5 m16 s6 z3 => ?_
  have m17:aL w5 A 14 (fun f=>if f<1 then au 0 else if f<8 then aC 0 else if f<9 then .int .u8 (0)else if f<10 then aC 0 else if f<12 then au 0 else aC 0) 33:=aO m16
  have iD:=iB s6 s.ty
  have m18:=oC iD H
  have b6:=s6.below r r.size (by omega)
  refine av (au (fP L i x)) (aD (Wr (sR (⟨.tuple #[.agg (aA 14 (fun f=>if f<1 then au 0 else if f<8 then aC 0 else if f<9 then .int .u8 (0)else if f<10 then aC 0 else if f<12 then au 0 else aC 0)),au (fP L i x)],gI Tryd.results7 ⟨_,rfl,aT m17.aK (by kernel_rfl) (by kernel_rfl)⟩ (by exact rfl),?_⟩))))
  exact⟨m,by rw[(uW l).1,(uW l).2.1]; exact wm (fun j D=>by rcases j with _|_|_|_|_|_|_|_|_|_|_|_|_|_|j <;> first|rfl|omega) rfl,by rw[(uW l).2.2]; exact m18.mono (Nat.le_succ N),(Fx.iW.of_below b6)⟩
 rw[Bool.not_eq_true]at l
 refine aZ (rfl.trans (congrArg Value.bool l))<|aD<|aN<|Wk<|sN<|Ws ?_
 have o:dD L i x=false:=by cases h9:dD L i x with|false=>rfl|true=>exact absurd h9 (by rw[l]; decide)
 refine Wl<|av ((pt lp))<|av (au i)<|Lv (.agg (aA 6 (iO x))) (jh m13.aK 0)<|fC (Va H X (C.below r l0) i (x:=x) hx (fun _ _=>rfl)) _ rfl ?_
 intro w6 hb3
 have⟨m21,m22,m23,m24,S⟩:=mF hb3 H m13 s m15 r
 refine av (.tuple #[.agg (aA 14 (dF (dZ L i x))),au (gQ L i x)])<|av (.agg (aA 14 (dF (dZ L i x))))<|av (au (gQ L i x))<|ni 14 (fun f=>if f<1 then au 0 else if f<8 then aC 0 else if f<9 then .int .u8 (0)else if f<10 then aC 0 else if f<12 then au 0 else aC 0) fun g3 w7 V I s8 z4 => ?_
 have⟨rM,sQ,uX,tQ,T⟩:=mF s8.old m21 m22 m23 m24 S
 have G6:=iC V S.size
 have⟨CJ,Gb⟩:=rH V m22.lt m23.lt
 have Ie:=I.lt
 refine fI I 0 (h1:=(ku _)) fun w8 uY Q z5 => ?_
 have mP:aL w8 g3 14 (dF (dZ L i x)) 33:=aO uY
 have ab:=iB Q I.ty
 have⟨m32,oK⟩:=Dq ab rM sQ
 have t:=uX.eH Q (by omega)
 have qP:=oC ab tQ
 have z:=Q.below T T.size (by omega)
 refine av (au (gQ L i x))<|aD<|Ws<|ay<|av (au (gQ L i x)) ?_
 by_cases n:(gQ L i x)=0
 ·refine Lv aF (ng n)<|aD<|aN<|Wk<|sN<|Ws ?_
  have W:gQ L i x=0:=by first|exact n|exact Classical.not_not.1 n
  obtain⟨hr0,eV,hE0⟩:=Ql W
  have hVw:jQ (dZ L i x):=by rw[eV]; exact NM h.i.kn hx hr0
  -- region 9 draws
  refine yx [1,0,2,3,4,5] [1,0,4,2,3,0] (Fx.rJ [59]) Fx.rJ.refl Fx.rJ.trans (dY := [(4,0,[0]),(3,2,[2]),(4,2,[3,2]),(4,3,[3]),(5,3,[3]),(5,4,[4])]) (by kernel_rfl) (by kernel_rfl) (by kernel_rfl) (by kernel_rfl) (by kernel_rfl) fun C9 jJ nO => ?_
  have⟨qQ,vG,uo,qR,J,u⟩:=vv jJ m32 oK t qP mP z
  refine aW ((pt lp))<|Rd (v := .agg (aA 14 (dF (dZ L i x)))) (by rfl) (by rfl) (Fx.rJ.refl _) (fun v1 F=>dO (x:=dF (dZ L i x)) (y:=dF (dZ L i x)) rfl rfl (by kernel_rfl) (by kernel_rfl) (J.zH F (by decide)).aK (i:=0) (by omega) (by omega) (fun j _=>by rw[Nat.zero_add])) ?_
  refine Rs (.agg (aA 14 (dF (dZ L i x)))) (jh J.aK 0) ?_
  refine BN<|fC (Qb (v:=(dZ L i x)) qQ hVw X (C.below u l0) (fun _ _=>rfl)) (au 0) (by rw[hE0]) ?_
  rintro w9 ⟨hq1,aa⟩
  have p:=qQ.q.typed aa
  have hW1:iW (JD m lp w.heap.size) w w9:=Fx.iW.trans _ _ _ (Fx.iW.of_below u) (aa.mono fun k hk=>hk.imp id (Nat.le_trans u.size))
  have qU:=vG.zH p (by decide)
  have ahh:=qU.lt
  have K:=uo.zH p (by decide)
  have ahi:=K.lt
  have qV:=qR.zH p (by decide)
  have rO:=J.zH p (by decide)
  have ahj:=rO.lt
  refine Ln ⟨p,?_⟩
  refine gG<|fI K 0 (h1:=(ku _)) fun zI uq O z6 => ?_
  have sF:aL zI A 14 (dF (dZ L i x)) 33:=aO uq
  have yJ:=iB O K.ty
  have vI:=rO.eH O (by omega)
  have uw:=oC yJ hq1
  have b11:=hW1.then O (.inr zN)
  refine Ln (aW (au 0) (bG (Wr (⟨.tuple #[.agg (aA 14 (dF (dZ L i x))),au 0],gI Tryd.results7 ⟨_,rfl,aT sF.aK (by kernel_rfl) (by kernel_rfl)⟩ (by exact rfl),?_⟩))))
  exact⟨_,by rw[(sK o).1,(sK o).2.1,W],by rw[(sK o).2.2]; exact uw,b11⟩
 refine Lv aG (qg n)<|aD<|aQ<|ay<|Lv (.agg (aA 14 (fun f=>if f<1 then au 0 else if f<8 then aC 0 else if f<9 then .int .u8 (0)else if f<10 then aC 0 else if f<12 then au 0 else aC 0))) (jh t.aK 0)<|av (au (gQ L i x))<|fI t 0 (h1:=(fun j D=>by rcases j with _|_|_|_|_|_|_|_|_|_|_|_|_|_|j <;> first|rfl|omega)) fun N7 wZ P z7 => ?_
 have wE:aL N7 A 14 (fun f=>if f<1 then au 0 else if f<8 then aC 0 else if f<9 then .int .u8 (0)else if f<10 then aC 0 else if f<12 then au 0 else aC 0) 33:=aO wZ
 have DL:=iB P t.ty
 have vJ:=oC DL m32
 have uy:=mP.eH P (by omega)
 have b12:=P.below z z.size (by omega)
 refine av (au (gQ L i x)) (aD (Wr (sR (⟨.tuple #[.agg (aA 14 (fun f=>if f<1 then au 0 else if f<8 then aC 0 else if f<9 then .int .u8 (0)else if f<10 then aC 0 else if f<12 then au 0 else aC 0)),au (gQ L i x)],gI Tryd.results7 ⟨_,rfl,aT wE.aK (by kernel_rfl) (by kernel_rfl)⟩ (by exact rfl),?_⟩))))
 exact⟨m,by rw[(GH o n).1,(GH o n).2.1]; exact wm (fun j D=>by rcases j with _|_|_|_|_|_|_|_|_|_|_|_|_|_|j <;> first|rfl|omega) rfl,by rw[(GH o n).2.2]; exact vJ.mono (Nat.le_succ N),(Fx.iW.of_below b12)⟩
theorem Xw(i:Int)(x:fU)(w:World) :
 Calls Tryd.prog 7 #[.pointer none,au i,.agg (aA 6 (iO x))] w fun e w'=>e = .returned (.tuple #[.agg (aA 14 (dF zeroE)),au 2])/\Below w.heap.size w w':=by
 refine Kent Tryd.func7 40 ?_
 refine ay<|rG fun u D l b r F => ?_
 have d:=aR r.old (Below.refl w.heap.size w)
 have v:=gK l
 have B:=b.lt
 refine ni 14 (fun a=>if a<1 then au 0 else if a<8 then aC 0 else if a<9 then .int .u8 (0)else if a<10 then aC 0 else if a<12 then au 0 else aC 0) fun m E g c s G => ?_
 have⟨o,f⟩:=gU s.old b d
 have y:=iC g d.size
 have A:=bS g b.lt
 have C:=c.lt
 refine av (au 0)<|aD<|Ws<|ay<|av (.pointer none)<|Lv aG (Fx.Kq rfl rfl rfl (by kernel_rfl))<|aD<|aQ<|ay<|Lv (.agg (aA 14 (fun a=>if a<1 then au 0 else if a<8 then aC 0 else if a<9 then .int .u8 (0)else if a<10 then aC 0 else if a<12 then au 0 else aC 0))) (jh c.aK 0)<|fI c 0 (h1:=(fun j n=>by rcases j with _|_|_|_|_|_|_|_|_|_|_|_|_|_|j <;> first|rfl|omega)) fun t p h H => ?_
 have q:aL t m 14 (fun a=>if a<1 then au 0 else if a<8 then aC 0 else if a<9 then .int .u8 (0)else if a<10 then aC 0 else if a<12 then au 0 else aC 0) 33:=aO p
 have z:=o.eH h (by omega)
 have k:=h.below f f.size (by omega)
 refine av (au 2) (aD (Wr (sR (⟨.tuple #[.agg (aA 14 (fun a=>if a<1 then au 0 else if a<8 then aC 0 else if a<9 then .int .u8 (0)else if a<10 then aC 0 else if a<12 then au 0 else aC 0)),au 2],gI Tryd.results7 ⟨_,rfl,aT q.aK (by kernel_rfl) (by kernel_rfl)⟩ (by exact rfl),?_⟩))))
 exact⟨wm (fun j n=>by rcases j with _|_|_|_|_|_|_|_|_|_|_|_|_|_|j <;> first|rfl|omega) rfl,k⟩
end
end Go.Proofs.YtcbedgfikejkoaaDoor
