/-
  What the proof of the law rests on, part 6: walks of functions, and plain laws; each says its conditions itself.
-/
import Derived.Shelf.SlSortCmp.NoneTotal
import Derived.Shelf.SlSortCmp.WholeK
import Derived.Lib.SliceRun
import Derived.Ground.SlsfProg
import Derived.Test.YtcbedgfikejkoaaGreatDoorProg
import Derived.Deep.Slices
import Derived.Lib.SmallJoins
import Derived.ChangeArms
import Derived.Test.YtcbedgfikejkoaaGreatDoorZD5
set_option maxRecDepth 20000
set_option linter.unusedVariables false
set_option maxHeartbeats 1600000
set_option linter.unusedSimpArgs false
namespace Go.Proofs.YtcbedgfikejkoaaGreatDoor
open Go.RowKit Rt
open Fx (bA Lv sN Ln Ws Rp Wr Sb Wk rC sR Rs Rn Rk Gs gH uW rv aA aP aO ev Stp aQ Mp iJ jM cells_one)
namespace Rt
def oC(v:EvM):Int:=1099511627776*v.o+v.seq
def jw(m:dN)(v:EvM):Int:=if 5<=m.own (aN v)\/140737488355328<v.aT then 6 else m.T.err (oC v) v.node
def Eb(m:dN)(v:EvM):dN := { m with T:=m.T.put (oC v) v.node,R:=aO m.R m.T.n (upd (fun _=>0) (aN v) v.aT),own:=aI m.own (aN v) (m.own (aN v)+1) }
theorem WQ{T:dM}{pa:Int}{id:Int}{w:World}{b n:Nat}{x:Nat->Int}(h:Mp w b n x (aO (Ey T) T.n (aD pa))):Mp w b n x (Ey (T.put id pa)):=h.vX fun i _=>⟨rfl,by show aO (Ey T) T.n _ i=aD (aO T.p T.n pa i); unfold aO Ey; split <;> rfl⟩
theorem ZP{R:Nat->Nat->Int}{j n b:Nat}{r:Nat->Int}{x:Nat->Int}{w:World}(h:Mp w b n x (aO (xR R) j (.agg (aA 54 (rv .i64 r))))):Mp w b n x (xR (aO R j r)):=EZ _ _ _ _ h
end Rt
theorem aji(o q:Int)(w:World)(b:1<=o/\o<=6)(c:1<=q/\q<1099511627776):Calls Tryz.prog 214 #[au o,aD q] w fun e a=>e = .returned (aD (1099511627776*o+q))/\a=w:=by
 have h:=apZ o.toNat q.toNat w (by omega) (by omega);rw[show((o.toNat:Nat):Int)=o by omega,show((q.toNat:Nat):Int)=q by omega]at h;exact h
theorem WR(m:dN)(b B:Nat)(w:World)(h:mM w B b m)(v:EvM)(hv:bR v=true)(J:m.T.err (oC v) v.node=0)(a:Nat)(ha:a<6)(hra:aN v=a)(hob:0<=m.own a/\m.own a<=1000)(hid:0<=oC v/\oC v<=18446744073709551615)(I:Nat)(G:Nat)(l:Nat)(H:Nat)(S:aP w I 1 (fun _=>(pt b)) 28)(hi:aP w G 1 (fun _=>aD (oC v)) 23)(P:aP w l 14 (bM v) 37)(Q:aP w H 1 (fun _=>au (a:Int)) 3) :
 Calls Tryz.prog 216 #[(pt I),(pt G),(pt l),(pt H)] w fun e w'=>e = .returned (.tuple #[])/\mM w' B b (Eb m v)/\jM (Gn m b) w w':=by
 have hC:=h.c;have hT:=h.t;have hP:=h.p;have hR:=h.r;have hG:=h.g;have hA:=h.a;have d:=h.ne;have lC:=h.c.lt;have lT:=h.t.lt;have lP:=h.p.lt;have lR:=h.r.lt;have lG:=h.g.lt;have lA:=h.a.lt;have YI:=S.lt;have lgi:=hi.lt;have lge:=P.lt;have lgk:=Q.lt;have U : ∀ i,i<m.T.n->m.T.x i≠oC v:=fun i hi e=>by have:=(FE J).2.1; rw[jU hi e]at this; cases this
 refine Kent Tryz.func216 42 ?_;refine Ws ?_;refine kH [5,0,1,2,3,4,6,7] [4,0,0,4,4,0,4,3] [(7,0,[3,2,1,0]),(7,3,[3]),(7,4,[4]),(7,6,[6])] fun rE K iK => ?_;have s1:Stp w.heap.size w rE:=Sb K;have⟨W,m2,m3,m4,m5,m6,m7,m8,m9,m10⟩:=vW K hC hT hP hR hG hA S hi P Q;have b1:=(uW (Gn m b) w).then s1 (.inr (uW (Gn m b) w).size);refine aX (pf l 9)<|Rs (pt b) (aL m7.aH 0) ?_;refine aX (pt b)<|aX (pf b 18)<|Rs (pt m.tp) (aL W.aH 18) ?_;refine Rs (aD (oC v)) (aL m8.aH 0) ?_;refine Rs (aD v.node) (aL m9.aH 9) ?_;refine gZ<|dH (Lu (oC v) v.node m2 hid) _ rfl ?_;rintro y ⟨m11,s2⟩;have j:=m2.Cy s2;have m12:=W.eB j;have m13:=m3.eB j (Ne.symm d.mp);have m14:=m4.eB j (Ne.symm d.mr);have m15:=m5.eB j (Ne.symm d.mg);have m16:=m6.eB j (Ne.symm d.ma);have m17:=m7.eB j;have m18:=m8.eB j;have m19:=m9.eB j;have m20:=m10.eB j;have C:=b1.then s2 (.inl (.inr (.inl rfl)));have m21:tY y B m.tp m.mb (m.T.put (oC v) v.node):=by rw[<- dM.E5 J]; exact m11
 refine Ln<|bS<|Ws ?_;refine kH [5,0,1,2,3,4,6,7] [4,0,0,4,4,0,4,3] [(7,0,[0]),(7,3,[3]),(7,4,[4]),(7,6,[6])] fun CJ M nZ => ?_;have s3:Stp y.heap.size y CJ:=Sb M;have⟨m22,m23,m24,mZ,nQ,nH,og,oh,oD,lI⟩:=vW M m12 m13 m14 m15 m16 m17 m18 m19 m20 m21;have b3:=C.then s3 (.inr C.size);refine aX (pf l 9)<|Rs (pt b) (aL nH.aH 0) ?_;refine aX (pt b)<|aX (pf b 19)<|Rs (.map (some m.pb)) (aL m22.aH 19) ?_;refine Rs (aD (oC v)) (aL og.aH 0) ?_;refine Rs (aD v.node) (aL oh.aH 9) ?_;refine gZ<|Fx.L.Ra (by rfl) rfl rfl rfl rfl rfl m23 Tryz.underlying108 Tryz.underlying23 U fun z m32 s4 z1 => ?_;have k:=m23.Cy s4;have pE:=m22.eB k;have nR:=m24.eB k (Ne.symm d.pr);have pF:=mZ.eB k (Ne.symm d.pg);have nS:=nQ.eB k (Ne.symm d.pa);have qW:=nH.eB k;have qB:=og.eB k;have pK:=oh.eB k;have sS:=oD.eB k;have mh:=lI.eB k (d.mp);have D:=b3.then s4 (.inl (.inr (.inr (.inl rfl))));have lM:Mp z m.pb ((m.T.put (oC v) v.node).n) ((m.T.put (oC v) v.node).x) (Ey (m.T.put (oC v) v.node)):=WQ m32;refine Ln<|bS<|Ws ?_;refine kH [0,2,3,7,8,1,4,5,6,9,10] [4,4,0,0,0,4,0,0,0,0,3] [(10,0,[0]),(10,1,[1]),(10,5,[5])] fun SS N BG => ?_;have s5:Stp z.heap.size z SS:=Sb N;have⟨s,qg,qh,om,rW,wh,uD,qX,vJ,uZ⟩:=vW N pE nR pF nS qW qB pK sS mh lM;have b5:=D.then s5 (.inr D.size);refine Rs (pt b) (aL rW.aH 0) ?_;refine aX (pt b)<|aX (pf b 21)<|aX (pt b)<|aX (pf b 21)<|Rs (au a) (aL qX.aH 0) ?_;refine Rp (pf b (a+21)) (fun _=>jJ 6 1)<|Rs (au (m.own a)) (aL s.aH (a+21) (J7 (p:=a) (by omega) (by omega))) ?_;refine Rp (au ((m.own a)+1)) (fun _=>fA)<|Rp (pf b (a+21)) (fun _=>jJ 6 1)<|gZ<|ji s (a+21) (au ((m.own a)+1)) fun w3 uE s6 z2 => ?_;have wm:aP w3 b 29 (wJ { m with own:=aI m.own a (m.own a+1) }) 114:=uE.to (ZC ha (by omega) _);have fV:=gH s6 s.ty;have⟨wo,tQ,tT,uF,yD,rG,vK,pz,uI⟩:=acR fV qg qh om rW wh uD qX vJ uZ;have q:=b5.then s6 (.inl (.inl rfl));refine Ln<|bS<|ay<|av (.agg (aA 54 (rv .i64 (fun _=>0))))<|qR 54 (rv .i64 (fun _=>0)) fun o w4 F u s7 z3 => ?_;have⟨xw,wN,vL,xA,tV,vM,uP,vN,vO,zI⟩:=vW s7.old wo tQ tT uF yD rG vK pz uI wm;have b7:=q.then s7 (.inr q.size);have V:=iw F q.size;have⟨aqn,aqo,aqp,aqr,aqs,aqt,aqu,aqv,aqw⟩:=YF F wo.lt tQ.lt tT.lt uF.lt yD.lt rG.lt vK.lt uI.lt wm.lt;have sQ:=u.lt;refine dU u 0 fun w5 wO s8 z4 => ?_;have yI:aP w5 o 54 (rv .i64 (fun _=>0)) 82:=aQ wO;have jr:=gH s8 u.ty;have⟨yJ,yK,yt,xB,xC,yR,AP,yS,BI,Bq⟩:=Px jr xw wN vL xA tV vM uP vN vO zI;have b8:=b7.then s8 (.inr V);refine aC<|ay<|Lv (au a) (aL AP.aH 0)<|av (pf l 11)<|Lv (au v.aT) (aL yR.aH 11)<|av (pt o)<|Lv (pf o a) (jJ 6 1)<|ji yI a (au v.aT) fun A Br s9 z5 => ?_;have AQ:aP A o 54 (rv .i64 (upd (fun _=>0) a v.aT)) 82:=Br.to (Fx.zA _ _ _ _);have qc:=gH s9 yI.ty;have⟨AU,BJ,FL,Es,CU,DX,AY,Hl,ET,Ho⟩:=Px qc yJ yK yt xB xC yR AP yS BI Bq;have E:=b8.then s9 (.inr V);refine aC ?_;refine kH [0,1,2,3,4,5,6] [4,0,0,4,4,4,3] [(6,0,[0]),(6,3,[3]),(6,4,[4]),(6,5,[5])] fun wt4 O Iy => ?_;have s10:Stp A.heap.size A wt4:=Sb O;have⟨HY,xL,yV,X,Y,qF,ql,rJ,qG,Z,aa⟩:=Fz O AU BJ FL Es CU DX AY Hl ET Ho AQ;have b10:=E.then s10 (.inr E.size);refine Rs (pt b) (aL X.aH 0) ?_;refine aX (pt b)<|aX (pf b 20)<|Rs (.map (some m.rb)) (aL Z.aH 20) ?_;refine Rs (aD (oC v)) (aL Y.aH 0) ?_;refine Rs (.agg (aA 54 (rv .i64 (upd (fun _=>0) a v.aT)))) (eT aa.aH 0) ?_;refine gZ<|Fx.L.Ra (by rfl) rfl rfl rfl rfl rfl HY Tryz.underlying109 Tryz.underlying23 U fun w7 wB s11 z6 => ?_;have f:=HY.Cy s11;have sJ:=xL.eB f (Ne.symm d.rg);have vk:=yV.eB f (Ne.symm d.ra);have Ad:=X.eB f;have wC:=Y.eB f;have Ae:=qF.eB f;have CV:=ql.eB f;have yF:=rJ.eB f (d.mr);have vo:=qG.eB f (d.pr);have rM:=Z.eB f;have yX:=aa.eB f;have b11:=b10.then s11 (.inl (.inr (.inr (.inr (.inl rfl)))));have yY:Mp w7 m.rb ((m.T.put (oC v) v.node).n) ((m.T.put (oC v) v.node).x) (xR (aO m.R m.T.n (upd (fun _=>0) a v.aT))):=ZP wB;refine Ln (Rn (⟨.tuple #[],iJ Tryz.results216,?_⟩));unfold Eb; rw[hra];exact⟨rfl,{ c:=rM,t:=yF,p:=vo,r:=yY,g:=sJ,a:=vk,ne:=⟨d.mp,d.mr,d.mg,d.ma,d.pr,d.pg,d.pa,d.rg,d.ra,d.ga⟩,lB:=h.lB,pB:=h.pB,rB:=h.rB,gB:=h.gB,aB:=h.aB },b11⟩
theorem ZQ(m:dN)(j B:Nat)(w:World)(h:mM w B j m)(v:EvM)(L:bR v=true)(ab : ∀ a,a<6->0<=m.own a/\m.own a<=1000) :
 Calls Tryz.prog 207 #[(pt j),.agg (aA 14 (bM v))] w fun e w'=>S9 w B j m (Eb m v) (jw m v) e w':=by
 have Z:=h.c;have hT:=h.t;have hP:=h.p;have hR:=h.r;have hG:=h.g;have hA:=h.a;have hN:=h.ne;have lC:=h.c.lt;have lT:=h.t.lt;have lP:=h.p.lt;have lR:=h.r.lt;have lG:=h.g.lt;have lA:=h.a.lt;obtain⟨a,J,ho⟩ : ∃ a:Nat,a<6/\v.o=(a:Int)+1:=fq (jg L);have z:aN v=a:=by unfold aN; omega
 have hbd:=oP L;have aa:0<=oC v/\oC v<=18446744073709551615:=by unfold oC; omega
 have hoa:=ab a J;refine Kent Tryz.func207 38 ?_;refine ay<|vU (pt j) fun n w1 X M s1 z1 => ?_;have⟨m2,U⟩:=eU s1.old Z (Below.refl w.heap.size w);have rF:=gD X;have ny:=cu X Z.lt;have sQ:=M.lt;refine oz fun b w2 Y l s2 z2 => ?_;have⟨P,Q,H⟩:=iy s2.old m2 M U;have pO:=iw Y U.size;have⟨aiS,IK⟩:=sF Y m2.lt M.lt;have yu:=l.lt;refine av (.nilFunc)<|av (au 0)<|aC<|Ws ?_;refine Gs (T1:=23) (T2:=3) (T1':=23) (T2':=3) (a1 := .tmp 6) (v1 := .tmp 13) (a2 := .tmp 7) (v2 := .tmp 16) (m1:=1) (m2:=1) (z1:=rv .u64 (fun _=>0)) (y1:=fun _=>aD (oC v)) (z2:=rv .i64 (fun _=>0)) (y2:=fun _=>au (a:Int)) (u1:=aD (oC v)) (u2:=au (a:Int)) 8 9 10 11 [[],[],[],[],[],[],[],[],[],[],[(0,[8]),(1,[9])],[(0,[8]),(1,[9]),(2,[10])]] [[(2,[0]),(3,[0])],[(2,[1]),(3,[1])],[(2,[2]),(3,[2])],[(2,[3]),(3,[3])],[(2,[4]),(3,[4])],[(3,[5])],[(3,[6])],[(3,[7])],[(2,[8]),(3,[8])],[(2,[9]),(3,[9])],[(3,[10])],[]] #[(pt b),au v.o,(pf b 1),aD v.seq,aD (oC v),(pt b),au v.o,au (a:Int),undef,undef,undef,undef] (by kernel_rfl) (by kernel_rfl) (by kernel_rfl) (by kernel_rfl) (by kernel_rfl) (by kernel_rfl) (by kernel_rfl) (by kernel_rfl) (by kernel_rfl) (by kernel_rfl) rfl rfl (by kernel_rfl) (by kernel_rfl) rfl rfl rfl rfl (by kernel_rfl) (by kernel_rfl) (fun d f=>(show ev _ (.tmp 6)=(pt d)from by kernel_rfl)) (fun d f=>(show ev _ (.tmp 7)=(pt f)from by kernel_rfl)) (fun d f=>(show ev _ (.tmp 13)=aD (oC v)from by kernel_rfl)) (fun d f=>(show ev _ (.tmp 16)=au (a:Int)from by kernel_rfl)) (cells_one (by rfl)) (cells_one (by rfl)) (fun _ _=>rfl) (fun _ _=>rfl) (fun d f => ?_) ?_
 ·refine⟨?_,?_,?_,?_,?_,?_,?_,?_,?_,?_,?_,?_,trivial⟩
  ·exact .inr qV
  ·exact .inr (uH (au v.o) fun D q=>bA (x:=bM v) rfl (show ev _ (.tmp 9)=(pt b)from by kernel_rfl) (by kernel_rfl) (l.aH.below q (by have:=l.lt; omega)) (i:=0) (by omega) (by omega) rfl)
  ·exact .inr qV
  ·exact .inr (uH (aD v.seq) fun D q=>bA (x:=bM v) rfl (show ev _ (.tmp 11)=(pf b 1)from by kernel_rfl) (by kernel_rfl) (l.aH.below q (by have:=l.lt; omega)) (i:=1) (by omega) (by omega) rfl)
  ·exact .inr (Fx.Jv (v:=aD (oC v)) (by kernel_rfl) (by kernel_rfl) (Fx.qbC (fun D q=>rC (args := [au v.o,aD v.seq]) rfl (Fx.args2 (show ev _ (.tmp 10)=au v.o from by kernel_rfl) (show ev _ (.tmp 12)=aD v.seq from by kernel_rfl)) Tryz.func214 rfl rfl) (fun D q=>(aji v.o v.seq _ (by omega) (by omega)).mono fun e v2 h=>⟨h.1,(by rw[h.2]; exact Below.refl _ _)⟩)))
  ·exact .inr qV
  ·exact .inr (uH (au v.o) fun D q=>bA (x:=bM v) rfl (show ev _ (.tmp 14)=(pt b)from by kernel_rfl) (by kernel_rfl) (l.aH.below q (by have:=l.lt; omega)) (i:=0) (by omega) (by omega) rfl)
  ·exact .inr (uH (au a) fun D q=>Fx.aaW rfl (show ev _ (.tmp 15)=au v.o from by kernel_rfl) (show ev _ (.const (au 1))=au 1 from by kernel_rfl) Fx.io)
  ·exact .inl rfl
  ·exact .inl rfl
  ·exact .inl rfl
  exact .inl rfl
 rintro d f w3 G y A C ne1 m6 m7 hb1;have auD:j≠d:=u_ (n_ (P.lt) A);have U0:n≠d:=u_ (n_ (Q.lt) A);have auE:b≠d:=u_ (n_ (l.lt) A);have auF:j≠f:=u_ (n_ (P.lt) C);have auG:n≠f:=u_ (n_ (Q.lt) C);have auH:b≠f:=u_ (n_ (l.lt) C);have⟨m8,m9,m10,b3⟩:=jN hb1 P Q l H;have A:w.heap.size<=d:=m_ H.size A;have Hg:=m6.lt;have C:w.heap.size<=f:=m_ H.size C;have Oh:=m7.lt;have R:G 2=(pt n):=by rw[y]; kernel_rfl
 have S:G 3=(pt b):=by rw[y]; kernel_rfl
 have q5:G 6=(pt d):=by rw[y]; kernel_rfl
 have q6:G 7=(pt f):=by rw[y]; kernel_rfl
 clear y;refine sN<|Ws<|Ws ?_;refine kH [0,2,3,1,4,5,6,7,8,9,10,11] [4,4,0,0,0,4,0,0,0,4,0,0] [] fun rE dR iK => ?_;have⟨m11,N,O,ac,ad,E⟩:=oJ dR m8 m9 m10 m6 m7 b3;refine Rs (pt j) (aL N.aH 0 (ha:=R)) ?_;refine aX (pt j)<|aX (pf j 21)<|Rs (au a) (aL ad.aH 0 (ha:=q6)) ?_;refine Rp (pf j (a+21)) (fun _=>jJ 6 1)<|Rs (au (m.own a)) (aL m11.aH (a+21) (J7 (p:=a) (by omega) (by omega))) ?_;by_cases V:5<=(m.own a)
 ·refine Rp aG (fun _=>kR V)<|aX aG<|Rk (by rfl)<|Rk (by rfl)<|Rk (by rfl)<|aX aG<|bS<|aM<|ay<|av (.nilFunc)<|av (au 6)<|aC<|Wr<|sR<|aJ (.tuple #[.nilFunc,au 6]) ?_;have k:jw m v=6:=by unfold jw; rw[z]; exact d_ (.inl (by omega))
  exact⟨⟨.nilFunc,0,#[],by rw[k],rfl,fun u=>M_ (k.symm.trans u) (by first|decide|omega|assumption)⟩,E⟩
 refine Rp aF (fun _=>kJ V)<|aX aF<|Rp (pf b 11) (fun _=>iL S 11)<|Rs (au v.aT) (aL O.aH 11) ?_;by_cases W:140737488355328<v.aT
 ·refine Rp aG (fun _=>ni W)<|aX aG<|bS<|aM<|ay<|av (.nilFunc)<|av (au 6)<|aC<|Wr<|sR<|aJ (.tuple #[.nilFunc,au 6]) ?_;have k:jw m v=6:=by unfold jw; rw[z]; exact d_ (.inr (by omega))
  exact⟨⟨.nilFunc,0,#[],by rw[k],rfl,fun u=>M_ (k.symm.trans u) (by first|decide|omega|assumption)⟩,E⟩
 refine Rp aF (fun _=>nk W)<|aX aF<|bS<|aK<|Wk<|sN<|Ws<|ay<|Lv (pt j) (aL N.aH 0 (ha:=R))<|Lv (aD (oC v)) (aL ac.aH 0 (ha:=q5))<|Lv (pf b 9) (iL S 9)<|Lv (aD v.node) (aL O.aH 9)<|dH (afk m j B _ (h.up E) (oC v) v.node aa) _ rfl ?_;intro w4 s;have⟨ae,af,ag,m20,I⟩:=nN s N O ac ad E;refine av (au (m.T.err (oC v) v.node))<|aC<|ay<|av (au (m.T.err (oC v) v.node)) ?_;by_cases F:(m.T.err (oC v) v.node)=0
 ·refine Lv aF (jG F)<|aC<|aK<|Wk<|sN<|ay<|Lv (.func (.func 216) #[] #[(pt n),(pt d),(pt b),(pt f)]) (Fx.lJ (us := []) (vs := [(pt n),(pt d),(pt b),(pt f)]) rfl rfl (Fx.Ti R q5 S q6))<|av (.func (.func 216) #[] #[(pt n),(pt d),(pt b),(pt f)])<|av (au 0)<|aC<|Wr<|aJ (.tuple #[.func (.func 216) #[] #[(pt n),(pt d),(pt b),(pt f)],au 0]) ?_;have k:jw m v=0:=by unfold jw; rw[z,b_ (by omega)]; exact F
  exact⟨⟨_,216,#[(pt n),(pt d),(pt b),(pt f)],by rw[k],rfl,fun _=>⟨rfl,⟨_,_,Tryz.func216,rfl,rfl⟩,fun w2 s=>(WR m j B w2 ((h.up I).up s) v L F a J z (ab a J) aa _ _ _ _ (ae.cZ (Sb s) (u_ ae.lt)) (ag.cZ (Sb s) (u_ ag.lt)) (af.cZ (Sb s) (u_ af.lt)) (m20.cZ (Sb s) (u_ m20.lt))).mono fun _ _ K=>⟨K.1,K.2.1,K.2.2.mono fun _ hk => .inl hk⟩⟩⟩,I⟩
 refine Lv aG (mG F)<|aC<|aM<|ay<|av (au (m.T.err (oC v) v.node))<|av (.nilFunc)<|av (au (m.T.err (oC v) v.node))<|aC<|Wr<|sR<|aJ (.tuple #[.nilFunc,au (m.T.err (oC v) v.node)]) ?_;have k:jw m v=m.T.err (oC v) v.node:=by unfold jw; rw[z,b_ (by omega)]
 exact⟨⟨.nilFunc,0,#[],by rw[k],rfl,fun u=>M_ (k.symm.trans u) (by first|decide|omega|assumption)⟩,I⟩
end Go.Proofs.YtcbedgfikejkoaaGreatDoor
namespace Go.Proofs.YtcbedgfikejkoaaGreatDoor
open Go.RowKit Go
namespace Rt
section
variable {x p:Nat->Int} {n d e:Nat} {k v:Int}
theorem Ki : ∀ {d:Nat} {v:Int},jK x p n d v -> ∀ k,k∈jO x p n d v->(jO x p n d k).length<=(jO x p n d v).length
 | 0,v,h,k,hk=>by cases hk
 | d+1,v,h,k,hk=>by
   cases hv:dW x n v with
   | false=>rw[lK hv]at hk; cases hk
   | true =>
     have e:jO x p n (d+1) v=v::jO x p n d (iO x p n v):=(by show(if _ then _ else _)=_; rw[d_ hv]);have a:jK x p n d (iO x p n v):=h hv;rw[e]at hk
     rcases List.mem_cons.1 hk with rfl|hk
     ·exact A_ _
     ·have b:=Ki a k hk;have c:jK x p n d k:=by
       refine BF (d:=d) ?_ (m_ b zH);exact Gt a k hk
      have f:=(JI c (Nat.le_succ d)).1;rw[f,e,List.length_cons]; omega
where Gt : ∀ {d:Nat} {v:Int},jK x p n d v -> ∀ k,k∈jO x p n d v->jK x p n d k
 | 0,v,h,k,hk=>by cases hk
 | d+1,v,h,k,hk=>by
   cases hv:dW x n v with
   | false=>rw[lK hv]at hk; cases hk
   | true =>
     have e:jO x p n (d+1) v=v::jO x p n d (iO x p n v):=(by show(if _ then _ else _)=_; rw[d_ hv]);have hs:jK x p n d (iO x p n v):=h hv;rw[e]at hk
     rcases List.mem_cons.1 hk with rfl|hk
     ·exact h
     ·exact(JI (Gt hs k hk) (Nat.le_succ d)).2
theorem Jc : ∀ {d:Nat} {v:Int},jK x p n d v->(jO x p n d v).Nodup
 | 0,v,h=>List.nodup_nil
 | d+1,v,h=>by
   cases hv:dW x n v with
   | false=>rw[lK hv]; exact List.nodup_nil
   | true =>
     have e:jO x p n (d+1) v=v::jO x p n d (iO x p n v):=(by show(if _ then _ else _)=_; rw[d_ hv]);have a:jK x p n d (iO x p n v):=h hv;rw[e,List.nodup_cons];refine⟨fun c => ?_,Jc a⟩;have f:=Ki a v c;have b:=(JI (Ki.Gt a v c) (Nat.le_succ d)).1;rw[e]at b;rw[<- b,List.length_cons]at f;omega
end
section
variable {T:dM} {l:List Int} {k:Int}
theorem dM.Bg(h:T.ok)(k:Int):(T.path k).Nodup:=Jc (h.stop k)
theorem dM.oU(h:T.ok)(e:l=T.path k) : ∀ v,v∈l->T.has v=true:=fun v c=>by
 obtain⟨i,a,b⟩:=List.getElem_of_mem c;have:=dM.OE h e a;rw[r_,o_ a]at this;rw[<- b]; exact this
theorem Dq(h:l.Nodup){i j:Nat}(hi:i<l.length)(a:j<l.length)(e:l.getD i 0=l.getD j 0):i=j:=by
 rw[r_,r_,o_ hi,o_ a]at e;exact(List.getElem_inj h).1 e
end
def jX(f:(Nat->Int)->(Nat->Int) × Int)(r:Nat->Nat->Int):Nat->Int
 | 0=>0
 | i+1=>if jX f r i=0 then(f (r i)).2 else jX f r i
section
variable {f:(Nat->Int)->(Nat->Int) × Int} {r:Nat->Nat->Int} {i n:Nat}
theorem Dr(h:jX f r i=0)(a:(f (r i)).2=0):jX f r (i+1)=0:=by unfold jX; rw[d_ h,a]
theorem Bh(h:jX f r i=0)(a : ¬ (f (r i)).2=0) : ∀ n,i<n->jX f r n=(f (r i)).2
 | 0,hn=>M_ hn (z_ _)
 | n+1,hn=>by
   unfold jX;by_cases e:i=n
   ·subst e; rw[d_ h]
   ·rw[Bh h a n (by omega),b_ a]
theorem Gu : ∀ {n:Nat},jX f r n=0 -> ∀ i,i<n->(f (r i)).2=0
 | 0,_,i,hi=>M_ hi (z_ _)
 | n+1,h,i,hi=>by
   unfold jX at h;by_cases a:jX f r n=0
   ·rw[d_ a]at h;by_cases e:i=n
    ·rw[e]; exact h
    ·exact Gu a i (by omega)
   ·rw[b_ a]at h; exact M_ h a
end
def EC(m:dN)(k:Int):Nat->Int:=m.R (m.idx k)
def dF(m:dN)(f:(Nat->Int)->(Nat->Int) × Int)(l:List Int):Int:=jX f (fun i=>EC m (l.getD i 0)) l.length
open Classical in
noncomputable def rP(m:dN)(f:(Nat->Int)->(Nat->Int) × Int)(l:List Int):dN := { m with R:=fun i=>if m.T.x i∈l then(f (m.R i)).1 else m.R i }
def Ec(l:List Int)(S:Nat->Bool)(v:Int):Nat->Bool
 | 0=>false
 | n+1=>Ec l S v n || (S n&&decide (l.getD n 0=v))
theorem tC{l:List Int}{S:Nat->Bool}{v:Int} : ∀ {n:Nat},Ec l S v n=true <-> ∃ q,q<n/\S q=true/\l.getD q 0=v
 | 0=>⟨fun h=>(nomatch h),fun⟨q,h,_⟩=>M_ h (z_ _)⟩
 | n+1=>by
   unfold Ec;rw[Bool.or_eq_true,tC,T_,Q_];constructor
   ·rintro (⟨q,c,a,b⟩|⟨c,a⟩)
    ·exact⟨q,by omega,a,b⟩
    ·exact⟨n,by omega,c,a⟩
   ·rintro ⟨q,c,a,b⟩;by_cases e:q=n
    ·subst e; exact .inr ⟨a,b⟩
    ·exact .inl ⟨q,by omega,a,b⟩
def zi(m:dN)(f:(Nat->Int)->(Nat->Int) × Int)(l:List Int)(S:Nat->Bool):Nat->Nat->Int:=fun i=>if Ec l S (m.T.x i) l.length=true then(f (m.R i)).1 else m.R i
theorem OL(m:dN)(f:(Nat->Int)->(Nat->Int) × Int)(l:List Int):zi m f l (fun _=>false)=m.R:=by
 funext i
 unfold zi;rw[b_];rw[tC];rintro ⟨q,_,h,_⟩; cases h
theorem Sj{m:dN}(o:m.T.ok){f:(Nat->Int)->(Nat->Int) × Int}{l:List Int}{S:Nat->Bool}{q j:Nat}(t:q<l.length)(s:j<m.T.n)(g:m.T.x j=l.getD q 0) : ∀ i,i<m.T.n->Fx.aO (zi m f l S) j (f (m.R j)).1 i=zi m f l (Fx.aO S q true) i:=fun i p=>by
 unfold Fx.aO;by_cases e:i=j
 ·subst e;rw[d_ rfl];unfold zi;rw[d_];rw[tC];exact⟨q,t,by show(if q=q then true else S q)=true; rw[d_ rfl],g.symm⟩
 ·rw[b_ e];unfold zi;have:Ec l S (m.T.x i) l.length=true<->Ec l (fun i=>if i=q then true else S i) (m.T.x i) l.length=true:=by
   rw[tC,tC];constructor
   ·rintro ⟨r,d,a,b⟩;exact⟨r,d,by show(if r=q then true else S r)=true; split <;> first|rfl|exact a,b⟩
   ·rintro ⟨r,d,a,b⟩;by_cases k:r=q
    ·subst k;exact M_ (o.inj i j p s (by rw[g,<- b])) e
    ·exact⟨r,d,by have a:(if r=q then true else S r)=true:=a; rw[b_ k]at a; exact a,b⟩
  by_cases c:Ec l S (m.T.x i) l.length=true
  ·rw[d_ c,d_ (this.1 c)]
  ·rw[b_ c,b_ (fun h=>c (this.2 h))]
theorem WS{m:dN}{f:(Nat->Int)->(Nat->Int) × Int}{l:List Int}{S:Nat->Bool}(h : ∀ q,q<l.length->S q=true):zi m f l S=(rP m f l).R:=by
 funext i
 show _=if m.T.x i∈l then(f (m.R i)).1 else m.R i;unfold zi;have:Ec l S (m.T.x i) l.length=true<->m.T.x i∈l:=by
  rw[tC];constructor
  ·rintro ⟨q,b,_,d⟩;rw[<- d,r_,o_ b]; exact R_ b
  ·intro g;obtain⟨q,a,e⟩:=List.getElem_of_mem g;exact⟨q,a,h q a,by rw[r_,o_ a]; exact e⟩
 by_cases c:m.T.x i∈l
 ·rw[d_ (this.2 c),d_ c]
 rw[b_ (fun h=>c (this.1 h)),b_ c]
def uw(m:dN)(f:(Nat->Int)->(Nat->Int) × Int)(l:List Int):Nat->Value:=fun q => .agg (Fx.aA 54 (Fx.rv .i64 (f (EC m (l.getD q 0))).1))
theorem Jd{m:dN}{f:(Nat->Int)->(Nat->Int) × Int}{l:List Int}{w:World}{b i:Nat}{r:Nat->Int}(h:Fx.Mp w b (i+1) (Fx.aO (fun q=>l.getD q 0) i (l.getD i 0)) (Fx.aO (uw m f l) i (.agg (Fx.aA 54 (Fx.rv .i64 r)))))(e:r=(f (EC m (l.getD i 0))).1):Fx.Mp w b (i+1) (fun q=>l.getD q 0) (uw m f l):=h.vX fun q a=>by
 unfold Fx.aO;by_cases c:q=i
 ·subst c; rw[d_ rfl,d_ rfl,e]; exact⟨rfl,rfl⟩
 ·rw[b_ c,b_ c]; exact⟨rfl,rfl⟩
end Rt
end Go.Proofs.YtcbedgfikejkoaaGreatDoor
namespace Go.Proofs.YtcbedgfikejkoaaGreatDoor
open Go.RowKit Rt
open Fx (bA dQ gy Lv sN Ln Ws Wl Rp Wr Sb Wk rV sR Rs Rn Rd Wb Wx Wo DU Gs zx Bv DN gH uG uW rv aA aP bB aO ev Stp aQ dB Mp aS iI iU aZ iJ jM bE cells_one bJ unseen jS dD bL bP bX bY gP gW pV fP)
theorem WT(x:Nat->Int)(v:EvM)(a:Nat)(w:World)(F:1<=v.o/\v.o<=6)(b:aP w a 14 (bM v) 37) :
 Calls Tryz.prog 220 #[.agg (aA 54 (rv .i64 x)),(pt a)] w fun e C=>e = .returned (.tuple #[.agg (aA 54 (rv .i64 (bG x v.o v.aT).1)),au (bG x v.o v.aT).2])/\Below w.heap.size w C:=by
 have I:=b.lt;refine Kent Tryz.func220 13 ?_;refine ay<|oz fun E Q i c A T => ?_;have⟨k,g⟩:=eU A.old b (Below.refl w.heap.size w);have G:=gD i;have L:=cu i b.lt;have O:=c.lt;refine qR 54 (rv .i64 (fun _=>0)) fun q R j l B U => ?_;have⟨d,m,n⟩:=iy B.old k c g;have H:=iw j g.size;have⟨M,N⟩:=sF j k.lt c.lt;have P:=l.lt;refine av (au 0)<|aC<|ay<|Lv (.agg (aA 54 (rv .i64 x))) (eT m.aH 0)<|av (pt a)<|Lv (au v.o) (aL d.aH 0)<|av (pf a 11)<|Lv (au v.aT) (aL d.aH 11)<|dH (aeL (x) v.o v.aT _ (by omega)) _ rfl ?_;intro S r;have⟨t,u,y,h⟩:=jN r d m l n;refine av (.agg (aA 54 (rv .i64 ((bG (x) v.o v.aT).1))))<|av (au ((bG (x) v.o v.aT).2))<|dU y 0 fun D z f V => ?_;have s:aP D q 54 (rv .i64 ((bG (x) v.o v.aT).1)) 82:=aQ z;have J:=t.cZ f (by omega);have K:=u.cZ f (by omega);have p:=f.below h h.size (by omega);refine av (au ((bG (x) v.o v.aT).2)) (aC (Wr (⟨.tuple #[.agg (aA 54 (rv .i64 ((bG (x) v.o v.aT).1))),au ((bG (x) v.o v.aT).2)],fP Tryz.results220 ⟨_,rfl,aS s.aH (by kernel_rfl) (by kernel_rfl)⟩ (by exact rfl),?_⟩)));exact⟨rfl,p⟩
theorem WU(x:Nat->Int)(v:EvM)(g:Nat->Int)(b c:Nat)(w:World)(L:1<=v.o/\v.o<=6)(d:aP w b 14 (bM v) 37)(f:aP w c 5 (jc g) 106) :
 Calls Tryz.prog 223 #[.agg (aA 54 (rv .i64 x)),(pt b),(pt c)] w fun e I=>e = .returned (.tuple #[.agg (aA 54 (rv .i64 (bH x v.o (g 3)).1)),au (bH x v.o (g 3)).2])/\Below w.heap.size w I:=by
 have O:=d.lt;have P:=f.lt;refine Kent Tryz.func223 14 ?_;refine ay<|oz fun K w1 k h G z1 => ?_;have⟨m,n,i⟩:=iy G.old d f (Below.refl w.heap.size w);have M:=gD k;have⟨T,U⟩:=sF k d.lt f.lt;have Y:=h.lt;refine qR 54 (rv .i64 (fun _=>0)) fun y w2 l p H z2 => ?_;have⟨q,r,s,t⟩:=jN H.old m n h i;have N:=iw l i.size;have⟨V,W,X⟩:=AJ l m.lt n.lt h.lt;have Z:=p.lt;refine av (au 0)<|aC<|ay<|Lv (.agg (aA 54 (rv .i64 x))) (eT s.aH 0)<|av (pt b)<|Lv (au v.o) (aL q.aH 0)<|av (pf c 3)<|Lv (au (g 3)) (aL r.aH 3)<|dH (aeM (x) v.o (g 3) _ (by omega)) _ rfl ?_;intro w3 z;have⟨E,F,A,B,j⟩:=nN z q r s p t;refine av (.agg (aA 54 (rv .i64 ((bH (x) v.o (g 3)).1))))<|av (au ((bH (x) v.o (g 3)).2))<|dU B 0 fun J C a z3 => ?_;have D:aP J y 54 (rv .i64 ((bH (x) v.o (g 3)).1)) 82:=aQ C;have Q:=E.cZ a (by omega);have R:=F.cZ a (by omega);have S:=A.cZ a (by omega);have u:=a.below j j.size (by omega);refine av (au ((bH (x) v.o (g 3)).2)) (aC (Wr (⟨.tuple #[.agg (aA 54 (rv .i64 ((bH (x) v.o (g 3)).1))),au ((bH (x) v.o (g 3)).2)],fP Tryz.results223 ⟨_,rfl,aS D.aH (by kernel_rfl) (by kernel_rfl)⟩ (by exact rfl),?_⟩)));exact⟨rfl,u⟩
theorem MC(m:dN)(j B:Nat)(w:World)(h:mM w B j m)(o:(Nat->Int)->(Nat->Int) × Int)(l:List Int)(s:Nat)(hgM:m.rb≠s/\m.mb≠s/\m.pb≠s/\m.gb≠s/\m.ab≠s)(hlh : ∀ k,k∈l->m.T.has k=true)(I:Mp w s l.length (fun q=>l.getD q 0) (uw m o l))(z:Nat)(A:Nat)(H:aP w z 1 (fun _ => .map (some s)) 109)(Z:aP w A 1 (fun _=>(pt j)) 28) :
 Calls Tryz.prog 232 #[(pt z),(pt A)] w fun e w'=>e = .returned (.tuple #[])/\mM w' B j (rP m o l)/\jM (Gn m j) w w':=by
 have hC:=h.c;have hT:=h.t;have hP:=h.p;have hR:=h.r;have hG:=h.g;have hA:=h.a;have b:=h.ne;have lC:=h.c.lt;have lT:=h.t.lt;have lP:=h.p.lt;have lR:=h.r.lt;have lG:=h.g.lt;have lA:=h.a.lt;have lg8:=H.lt;have YI:=Z.lt;have lF:=I.lt;obtain⟨hg1,hg2,hg3,hg4,hg5⟩:=hgM;refine Kent Tryz.func232 17 ?_;refine ay<|Lv (.map (some s)) (aL H.aH 0)<|Fx.L.range (by rfl) rfl rfl rfl I Tryz.underlying109 fun F w1 kQ m1 s1 z1 => ?_;have⟨m2,m3,m4,m5,m6,m7,m8,m9,m10⟩:=Cw s1.old hC hT hP hR hG hA I H Z;have b1:=(uW (Gn m j) w).then s1 (.inr (uW (Gn m j) w).size);have rF:w.heap.size<=F:=by rw[kQ]; exact(uW (Gn m j) w).size
 have sQ:=m1.lt;refine aC<|Wb ?_;have m11:Mp w1 m.rb m.T.n m.T.x (xR (zi m o l (fun _=>false))):=by rw[OL]; exact m5
 refine DU (fun kE f v => ∃ S:Nat->Bool,∃ K:Nat,K=unseen S l.length/\K=kE/\f 0=(pt z)/\f 1=(pt A)/\f 5=(pt F)/\aP v j 29 (wJ m) 114/\tY v B m.tp m.mb m.T/\Mp v m.pb m.T.n m.T.x (Ey m.T)/\iI v m.gb m.gn (fun i=>m.g i 0) (fun i=>m.g i 1) (vE m.g)/\iI v m.ab m.an m.ao m.ar Ez/\Mp v s l.length (fun q=>l.getD q 0) (uw m o l)/\aP v z 1 (fun _ => .map (some s)) 109/\aP v A 1 (fun _=>(pt j)) 28/\Mp v m.rb m.T.n m.T.x (xR (zi m o l S))/\Fx.It v F s l.length S/\jM (Gn m j) w v) (unseen (fun _=>false) l.length) ⟨(fun _=>false),(unseen (fun _=>false) l.length),rfl,rfl,(by rfl),(by rfl),(by rfl),m2,m3,m4,m6,m7,m8,m9,m10,m11,m1,b1⟩ ?_;rintro kE f1 w2 ⟨S,K,hkk,hkE,W,X,G,m12,m13,m14,m15,m16,m17,m18,m19,m20,M,Q⟩;refine ay<|Fx.L.next (by rfl) rfl rfl G m17 M (fun tX => ?_)<|fun d w3 C hS1 m22 mc1 s2 z2 => ?_
 ·skip
  refine av aF (aC (Ws (aK (Wx (bX (gP (bY (⟨.tuple #[],iJ Tryz.results232,?_⟩))))))));have m23:Mp w2 m.rb m.T.n m.T.x (xR (rP m o l).R):=by rw[<- WS tX]; exact m20
  exact⟨rfl,{ c:=m12,t:=m13,p:=m14,r:=m23,g:=m15,a:=m16,ne:=⟨b.mp,b.mr,b.mg,b.ma,b.pr,b.pg,b.pa,b.rg,b.ra,b.ga⟩,lB:=h.lB,pB:=h.pB,rB:=h.rB,gB:=h.gB,aB:=h.aB },Q⟩
 skip
 have y:=M.Cy s2;have m24:=m12.eB y;have mZ:=m13.eB y (by omega);have nQ:=m14.eB y (by omega);have nH:=m15.eB y (by omega);have og:=m16.eB y (by omega);have N:=m17.eB y (M.rb.symm);have oD:=m18.eB y;have lI:=m19.eB y;have m32:=m20.eB y (by omega);have D:=Q.then s2 (.inr rF);refine av aG<|aC<|Ws<|aM<|Wk<|sN<|Wb<|ay<|Lv (.tuple #[aD (l.getD d 0),.agg (aA 54 (rv .i64 ((o (EC m (l.getD d 0))).1)))]) (Fx.Pz (key:=fun q=>l.getD q 0) (val:=uw m o l) (i:=d) rfl G N mc1 C)<|av (aD (l.getD d 0))<|av (.agg (aA 54 (rv .i64 ((o (EC m (l.getD d 0))).1))))<|qR 54 (rv .i64 (fun _=>0)) fun g2 w4 V O s3 z3 => ?_;have⟨nR,pF,nS,qW,qB,pK,sS,mh,lM,mH,qg⟩:=Fz s3.old m24 mZ nQ nH og N oD lI m32 mc1 m22;have b4:=D.then s3 (.inr D.size);have pO:=iw V D.size;have⟨aqx,aqy,aqz,aqA,aqB,aqC,aqD,aqE⟩:=YE V m24.lt nQ.lt nH.lt og.lt N.lt oD.lt lI.lt m32.lt;have yu:=O.lt;refine av (aD (l.getD d 0))<|dU O 0 fun P qh s4 z4 => ?_;have om:aP P g2 54 (rv .i64 ((o (EC m (l.getD d 0))).1)) 82:=aQ qh;have fV:=gH s4 O.ty;have⟨rW,wh,uD,qX,vJ,uZ,uE,wm,wo,tQ,tT⟩:=abl fV nR pF nS qW qB pK sS mh lM mH qg;have U:=b4.then s4 (.inr pO);refine aC ?_;obtain⟨jz,J,E⟩:=iA (hlh _ (vZ C rfl));have ejx:EC m (l.getD d 0)=m.R jz:=by unfold EC dN.idx; rw[nI h.t.inv.inj J E]
 refine kH [4,0,1,2,3,5,6] [4,0,0,4,0,4,3] [(6,0,[0]),(6,3,[3]),(6,5,[5])] fun rE Y iK => ?_;have s5:Stp P.heap.size P rE:=Sb Y;have⟨uF,yD,rG,vK,pz,uI,m64,xw,wN,vL,xA,tV⟩:=Pw Y rW wh uD qX vJ uZ uE wm wo tQ tT om;have b6:=U.then s5 (.inr U.size);refine aX (aD (l.getD d 0))<|Rs (pt j) (aL xw.aH 0 (ha:=X)) ?_;refine aX (pt j)<|aX (pf j 20)<|Rs (.map (some m.rb)) (aL uF.aH 20) ?_;refine Rs (.agg (aA 54 (rv .i64 ((o (EC m (l.getD d 0))).1)))) (eT tV.aH 0) ?_;refine gZ<|Fx.L.acS (by rfl) rfl rfl rfl rfl rfl wN Tryz.underlying109 Tryz.underlying23 J E fun w6 vM s6 z5 => ?_;have u:=wN.Cy s6;have uP:=uF.eB u;have vN:=yD.eB u (b.mr);have vO:=rG.eB u (b.pr);have zI:=vK.eB u (Ne.symm b.rg);have wO:=pz.eB u (Ne.symm b.ra);have yI:=uI.eB u (by omega);have yJ:=m64.eB u;have yK:=xw.eB u;have yt:=vL.eB u (by omega) (by omega);have xB:=xA.eB u (by omega) (by omega);have xC:=tV.eB u;have b7:=b6.then s6 (.inl (.inr (.inr (.inr (.inl rfl)))));have yR:Mp w6 m.rb m.T.n m.T.x (xR (zi m o l (aO S d true))):=by have q9:=EZ _ _ _ _ vM; rw[ejx]at q9; exact q9.vX fun i hi=>⟨rfl,by unfold xR; rw[Sj h.t.inv C J E i hi]⟩
 refine Ln (Rn (bP (gW ⟨unseen (aO S d true) l.length,(by have W:=Fx.qb hS1 l.length C; omega),(aO S d true),(unseen (aO S d true) l.length),rfl,rfl,W,X,G,uP,vN,vO,zI,wO,yI,yJ,yK,yR,xB,b7⟩ (by decide))))
theorem WV(m:dN)(j B:Nat)(w:World)(h:mM w B j m)(C:Int)(v:EvM)(ho:1<=v.o/\v.o<=6)(E:Nat)(u:aP w E 14 (bM v) 37) :
 Calls Tryz.prog 219 #[(pt j),aD C,.func (.func 220) #[] #[(pt E)]] w fun e w'=>S9 w B j m (rP m (fun x=>bG x v.o v.aT) (m.T.path C)) (dF m (fun x=>bG x v.o v.aT) (m.T.path C)) e w':=by
 have hC:=h.c;have hT:=h.t;have hP:=h.p;have hR:=h.r;have hG:=h.g;have hA:=h.a;have hN:=h.ne;have lC:=h.c.lt;have lT:=h.t.lt;have lP:=h.p.lt;have lR:=h.r.lt;have lG:=h.g.lt;have lA:=h.a.lt;have lge:=u.lt;refine Kent Tryz.func219 44 ?_;refine ay<|vU (pt j) fun A w1 kQ Y s1 z1 => ?_;have⟨m2,m3,m4,m5,m6,m7,m8,b1⟩:=nO s1.old hC hT hP hR hG hA u (Below.refl w.heap.size w);have rF:=gD kQ;have⟨ny,yB,yA,Cg,Aq,LJ⟩:=JE kQ hC.lt hP.lt hR.lt hG.lt hA.lt u.lt;have sQ:=Y.lt;refine av (.nilFunc)<|av (au 0)<|aC<|ay<|Fx.L.K6 (by rfl) rfl rfl fun d w2 yw m9 s2 z2 => ?_;have⟨m10,m11,m12,m13,m14,m15,m16,m17,b2⟩:=Cw s2.old m2 m3 m4 m5 m6 m7 m8 Y b1;have pO:=iw yw b1.size;have⟨Gv,Dk,zf,Dl,AV,NV,UY⟩:=NM yw m2.lt m4.lt m5.lt m6.lt m7.lt m8.lt Y.lt;have yu:=m9.lt;refine qR 1 (fun _ => .map none) fun y w3 yE Z s3 z3 => ?_;have⟨m19,m20,m21,m22,m23,m24,mZ,nQ,nH,b3⟩:=vW s3.old m10 m11 m12 m13 m14 m15 m16 m17 m9 b2;have Bp:=iw yE b2.size;have⟨afo,WW,afp,WX,WY,OC,afq,Kg⟩:=YE yE m10.lt m12.lt m13.lt m14.lt m15.lt m16.lt m17.lt m9.lt;have Hg:=Z.lt;refine ji Z 0 (.map (some d)) fun O og s4 z4 => ?_;have oh:aP O y 1 (fun _ => .map (some d)) 109:=dD og;have fV:=gH s4 Z.ty;have⟨oD,lI,m32,pE,nR,pF,nS,qW,qB⟩:=acR fV m19 m20 m21 m22 m23 m24 mZ nQ nH;have b4:=s4.below b3 b3.size (by omega);refine aC<|Ws<|ay<|Lv (pt j) (aL qW.aH 0)<|av (pt j)<|av (pf j 18)<|Lv (pt m.tp) (aL oD.aH 18)<|av (aD C)<|lD (NW C lI) ?_;rintro e9 w5 ⟨pa1,D,u,pK,hb1⟩;refine⟨_,u,?_⟩;clear u;have⟨sS,mh,lM,mH,qg,qh,om,rW,wh,uD,b5⟩:=Fz hb1 oD lI m32 pE nR pF nS qW qB oh b4;obtain⟨l,H⟩ : ∃ q,q=dM.path m.T C:=⟨_,rfl⟩;rw[<- H]at pK ⊢;have hl4:l.length<=4:=by rw[H]; exact dM.zP
 refine av (au l.length)<|av (au 0)<|aC<|Wb ?_;have qX:Mp w5 d 0 (fun q=>l.getD q 0) (uw m (fun x=>bG x v.o v.aT) l):=wh.vX fun i hi=>M_ hi (z_ _);refine Wo (fun f k => ∃ i:Nat,i<=l.length/\jX (fun x=>bG x v.o v.aT) (fun i=>EC m (l.getD i 0)) i=0/\f 2 = .func (.func 220) #[] #[(pt E)]/\f 3=(pt A)/\f 8=(pt y)/\f 19 = .slice pa1 (l.length) (D)/\f 20=au (l.length:Int)/\f 21=au (i:Int)/\aP k j 29 (wJ m) 114/\tY k B m.tp m.mb m.T/\Mp k m.pb m.T.n m.T.x (Ey m.T)/\Mp k m.rb m.T.n m.T.x (xR m.R)/\iI k m.gb m.gn (fun i=>m.g i 0) (fun i=>m.g i 1) (vE m.g)/\iI k m.ab m.an m.ao m.ar Ez/\aP k E 14 (bM v) 37/\aP k A 1 (fun _=>(pt j)) 28/\aP k y 1 (fun _ => .map (some d)) 109/\Fx.Own k O.heap.size 23 1 (.slice pa1 (l.length) (D)) l.length (yH l)/\Mp k d i (fun q=>l.getD q 0) (uw m (fun x=>bG x v.o v.aT) l)/\Below w.heap.size w k) (fun f _=>((l.length:Int)-intOf (f 21)).toNat) ⟨0,(by omega),rfl,(by rfl),(by rfl),(by rfl),(by rfl),Fx.ic,Fx.ic,sS,mh,lM,mH,qg,qh,om,rW,uD,pK,qX,b5⟩ ?_;rintro f1 w6 ⟨i,hi,K,h1,U,V,h4,W,G,vJ,uZ,uE,wm,wo,tQ,tT,N,aa,rG,ac,P⟩;refine ay ?_;by_cases c22:(i:Int)<(l.length:Int)
 ·refine Lv aG (gM c22 (hx:=G) (hy:=W))<|aC<|Ws<|aM<|Wk<|sN<|Ws<|Wb<|ay ?_;obtain⟨Eu,S⟩:=rG.addr (by omega);have pz:Fx.Own w6 O.heap.size 23 1 (bK Eu l.length D) l.length (yH l):=rG.eY (L_ (fun q=>Value.slice q l.length D) S);refine Lv (pf Eu i) (dw 1 (hx:=(h4.trans (L_ (fun q=>Value.slice q (l.length) (D)) S))) (hi:=G))<|Lv (aD (l.getD i 0)) (aL pz.aH i)<|av (aD (l.getD i 0))<|aC<|Ws ?_;obtain⟨b,hjz,ejz⟩:=iA (dM.oU h.t.inv H _ (vZ (show i<l.length by omega) rfl));have J:EC m (l.getD i 0)=m.R b:=by unfold EC dN.idx; rw[nI h.t.inv.inj hjz ejz]
  refine Wl<|aU h1<|Lv (pt j) (aL N.aH 0 (ha:=U))<|av (pt j)<|av (pf j 20)<|Lv (.map (some m.rb)) (aL vJ.aH 20)<|av (aD (l.getD i 0))<|Lv (.agg (aA 54 (rv .i64 (m.R b)))) (Fx.wZ (z := .agg (aA 54 (rv .i64 (fun _=>0)))) rfl rfl rfl wm Tryz.underlying109 Tryz.underlying23 (by kernel_rfl) hjz ejz rfl)<|zx (by rfl) (Fx.Ai (args := [.agg (aA 54 (rv .i64 (m.R b)))]) rfl rfl rfl (all := #[.agg (aA 54 (rv .i64 (m.R b))),(pt E)]) rfl Tryz.func220 rfl rfl) rfl<|(WT (m.R b) v E _ ho tT).mono ?_;rintro e w7 ⟨u,F⟩;refine⟨.tuple #[.agg (aA 54 (rv .i64 ((bG (m.R b) v.o v.aT).1))),au ((bG (m.R b) v.o v.aT).2)],by rw[u],?_⟩;clear u;have⟨uI,m64,xw,wN,vL,xA,tV,vM,uP,vN,vO,b7⟩:=Pw F vJ uZ uE wm wo tQ tT N aa ac pz P;refine av (.tuple #[.agg (aA 54 (rv .i64 ((bG (m.R b) v.o v.aT).1))),au ((bG (m.R b) v.o v.aT).2)])<|av (.agg (aA 54 (rv .i64 ((bG (m.R b) v.o v.aT).1))))<|av (au ((bG (m.R b) v.o v.aT).2))<|qR 54 (rv .i64 (fun _=>0)) fun g4 w8 KA ad s7 z5 => ?_;have⟨wO,yI,yJ,yK,yt,xB,xC,yR,AP,yS,BI,b8⟩:=Pw s7.old uI m64 xw wN vL xA tV vM uP vN vO b7;have Og:=iw KA b7.size;have⟨aeV,aeW,aeX,aeY,aqG,aqH,afr,aqI,afs,aft⟩:=abm KA uI.lt xw.lt wN.lt vL.lt xA.lt tV.lt vM.lt uP.lt vN.lt vO.lt;have Oh:=ad.lt;refine dU ad 0 fun w9 Bq s8 z6 => ?_;have Br:aP w9 g4 54 (rv .i64 ((bG (m.R b) v.o v.aT).1)) 82:=aQ Bq;have jr:=gH s8 ad.ty;have⟨AQ,AU,BJ,FL,Es,CU,DX,AY,Hl,ET,Ho⟩:=abl jr wO yI yJ yK yt xB xC yR AP yS BI;have Q:=s8.below b8 b8.size (by omega);refine av (au ((bG (m.R b) v.o v.aT).2))<|aC<|Ws<|ay<|av (au ((bG (m.R b) v.o v.aT).2)) ?_;by_cases I:((bG (m.R b) v.o v.aT).2)=0
  ·refine Lv aF (jG I)<|aC<|aK<|Wk<|sN ?_;have hnd:l.Nodup:=(by rw[H]; exact dM.Bg h.t.inv C);have hny : ∀ q,q<i->(fun q=>l.getD q 0) q≠l.getD i 0:=fun q hq e=>by have:=Dq hnd (show q<l.length by omega) (show i<l.length by omega) e; omega
   refine Wl<|Lv (.map (some d)) (aL Hl.aH 0 (ha:=V))<|av (aD (l.getD i 0))<|Lv (.agg (aA 54 (rv .i64 ((bG (m.R b) v.o v.aT).1)))) (eT Br.aH 0)<|Fx.L.Ra (by rfl) rfl rfl rfl rfl rfl ET Tryz.underlying109 Tryz.underlying23 hny fun pJ HY s9 z7 => ?_;have s:=ET.Cy s9;have xL:=AQ.eB s;have yV:=AU.eB s (by omega);have xM:=BJ.eB s (by omega);have vg:=FL.eB s (by omega);have qF:=Es.eB s (by omega);have ql:=CU.eB s (by omega);have rJ:=DX.eB s;have qG:=AY.eB s;have sI:=Hl.eB s;have uo:=Ho.eB s;have wB:=Br.eB s;have b10:=s9.below Q Q.size (by omega);have sJ:Mp pJ d (i+1) (fun q=>l.getD q 0) (uw m (fun x=>bG x v.o v.aT) l):=Jd HY (by rw[J]);refine Ln<|bP<|sN<|Wl<|Lv (au ((i:Int)+1)) (fA (hx:=G))<|av (au ((i:Int)+1))<|Ln ?_;have vk:Fx.Own pJ O.heap.size 23 1 (.slice pa1 (l.length) (D)) l.length (yH l):=uo.eY (L_ (fun q=>Value.slice q l.length D) S.symm);refine gW ⟨i+1,(by omega),(Dr K (by rw[J]; exact I)),h1,U,V,h4,(W.trans Fx.ic),Fx.ic,xL,yV,xM,vg,qF,ql,rJ,qG,sI,vk,sJ,b10⟩ ?_;show((l.length:Int)-intOf (au ((i:Int)+1))).toNat<_;simp only[G,intOf]; omega
  refine Lv aG (mG I)<|aC<|aM<|ay<|av (au ((bG (m.R b) v.o v.aT).2))<|av (.nilFunc)<|av (au ((bG (m.R b) v.o v.aT).2))<|aC<|Wr<|sR<|bL<|sR<|pV<|bL<|sR<|aJ (.tuple #[.nilFunc,au ((bG (m.R b) v.o v.aT).2)]) ?_;have M:dF m (fun x=>bG x v.o v.aT) l=(bG (m.R b) v.o v.aT).2:=by unfold dF; rw[Bh K (by rw[J]; exact I) _ (by omega),J]
  exact⟨⟨.nilFunc,0,#[],by rw[M],rfl,fun e0=>M_ (M.symm.trans e0) (by first|decide|omega|assumption)⟩,Q⟩
 refine Lv aF (gN c22 (hx:=G) (hy:=W))<|aC<|Ws<|aK<|Wx<|bX<|gP<|bY<|sN<|ay<|Lv (.func (.func 232) #[] #[(pt y),(pt A)]) (Fx.lJ (us := []) (vs := [(pt y),(pt A)]) rfl rfl (Fx.args2 V U))<|av (.func (.func 232) #[] #[(pt y),(pt A)])<|av (au 0)<|aC<|Wr<|aJ (.tuple #[.func (.func 232) #[] #[(pt y),(pt A)],au 0]) ?_;have hil:i=l.length:=by omega
 rw[hil]at ac K;have hgm:m.rb≠d/\m.mb≠d/\m.pb≠d/\m.gb≠d/\m.ab≠d:=⟨by omega,by omega,by omega,by omega,by omega⟩;have M:dF m (fun x=>bG x v.o v.aT) l=0:=K;exact⟨⟨_,232,#[(pt y),(pt A)],by rw[M],rfl,fun _=>⟨rfl,⟨_,_,Tryz.func232,rfl,rfl⟩,fun w2 F=>(MC m j B w2 ((h.up P).up F) (fun x=>bG x v.o v.aT) l d hgm (dM.oU h.t.inv H) (ac.up F) _ _ (aa.cZ (Sb F) (u_ aa.lt)) (N.cZ (Sb F) (u_ N.lt))).mono fun _ _ X=>⟨X.1,X.2.1,X.2.2.mono fun _ hk => .inl hk⟩⟩⟩,P⟩
theorem WZ(m:dN)(j B:Nat)(w:World)(h:mM w B j m)(C:Int)(v:EvM)(g:Nat->Int)(ho:1<=v.o/\v.o<=6)(E F:Nat)(u:aP w E 14 (bM v) 37)(Z:aP w F 5 (jc g) 106) :
 Calls Tryz.prog 219 #[(pt j),aD C,.func (.func 223) #[] #[(pt E),(pt F)]] w fun e w'=>S9 w B j m (rP m (fun x=>bH x v.o (g 3)) (m.T.path C)) (dF m (fun x=>bH x v.o (g 3)) (m.T.path C)) e w':=by
 have hC:=h.c;have hT:=h.t;have hP:=h.p;have hR:=h.r;have hG:=h.g;have hA:=h.a;have hN:=h.ne;have lC:=h.c.lt;have lT:=h.t.lt;have lP:=h.p.lt;have lR:=h.r.lt;have lG:=h.g.lt;have lA:=h.a.lt;have lge:=u.lt;have lgg:=Z.lt;refine Kent Tryz.func219 44 ?_;refine ay<|vU (pt j) fun A w1 kQ m1 s1 z1 => ?_;have⟨m2,m3,m4,m5,m6,m7,m8,m9,b1⟩:=Cw s1.old hC hT hP hR hG hA u Z (Below.refl w.heap.size w);have rF:=gD kQ;have⟨ny,yB,yA,Cg,Aq,LJ,aie⟩:=NM kQ hC.lt hP.lt hR.lt hG.lt hA.lt u.lt Z.lt;have sQ:=m1.lt;refine av (.nilFunc)<|av (au 0)<|aC<|ay<|Fx.L.K6 (by rfl) rfl rfl fun d w2 yw m10 s2 z2 => ?_;have⟨m11,m12,m13,m14,m15,m16,m17,m18,m19,b2⟩:=vW s2.old m2 m3 m4 m5 m6 m7 m8 m9 m1 b1;have pO:=iw yw b1.size;have⟨Gp,zf,Dl,AV,NV,UY,afl,aqJ⟩:=YE yw m2.lt m4.lt m5.lt m6.lt m7.lt m8.lt m9.lt m1.lt;have yu:=m10.lt;refine qR 1 (fun _ => .map none) fun y w3 yE m20 s3 z3 => ?_;have⟨m21,m22,m23,m24,mZ,nQ,nH,og,oh,oD,b3⟩:=Fz s3.old m11 m12 m13 m14 m15 m16 m17 m18 m19 m10 b2;have Bp:=iw yE b2.size;have⟨WW,WX,WY,OC,afq,Kg,OD,Wv,Ww⟩:=YF yE m11.lt m13.lt m14.lt m15.lt m16.lt m17.lt m18.lt m19.lt m10.lt;have Hg:=m20.lt;refine ji m20 0 (.map (some d)) fun P lI s4 z4 => ?_;have m32:aP P y 1 (fun _ => .map (some d)) 109:=dD lI;have fV:=gH s4 m20.ty;have⟨pE,nR,pF,nS,qW,qB,pK,sS,mh,lM⟩:=Px fV m21 m22 m23 m24 mZ nQ nH og oh oD;have b4:=s4.below b3 b3.size (by omega);refine aC<|Ws<|ay<|Lv (pt j) (aL mh.aH 0)<|av (pt j)<|av (pf j 18)<|Lv (pt m.tp) (aL pE.aH 18)<|av (aD C)<|lD (NW C nR) ?_;rintro e9 w5 ⟨pa1,D,u,mH,hb1⟩;refine⟨_,u,?_⟩;clear u;have⟨qg,qh,om,rW,wh,uD,qX,vJ,uZ,uE,wm,b5⟩:=Pw hb1 pE nR pF nS qW qB pK sS mh lM m32 b4;obtain⟨l,I⟩ : ∃ q,q=dM.path m.T C:=⟨_,rfl⟩;rw[<- I]at mH ⊢;have hl4:l.length<=4:=by rw[I]; exact dM.zP
 refine av (au l.length)<|av (au 0)<|aC<|Wb ?_;have wo:Mp w5 d 0 (fun q=>l.getD q 0) (uw m (fun x=>bH x v.o (g 3)) l):=uE.vX fun i hi=>M_ hi (z_ _);refine Wo (fun f k => ∃ i:Nat,i<=l.length/\jX (fun x=>bH x v.o (g 3)) (fun i=>EC m (l.getD i 0)) i=0/\f 2 = .func (.func 223) #[] #[(pt E),(pt F)]/\f 3=(pt A)/\f 8=(pt y)/\f 19 = .slice pa1 (l.length) (D)/\f 20=au (l.length:Int)/\f 21=au (i:Int)/\aP k j 29 (wJ m) 114/\tY k B m.tp m.mb m.T/\Mp k m.pb m.T.n m.T.x (Ey m.T)/\Mp k m.rb m.T.n m.T.x (xR m.R)/\iI k m.gb m.gn (fun i=>m.g i 0) (fun i=>m.g i 1) (vE m.g)/\iI k m.ab m.an m.ao m.ar Ez/\aP k E 14 (bM v) 37/\aP k F 5 (jc g) 106/\aP k A 1 (fun _=>(pt j)) 28/\aP k y 1 (fun _ => .map (some d)) 109/\Fx.Own k P.heap.size 23 1 (.slice pa1 (l.length) (D)) l.length (yH l)/\Mp k d i (fun q=>l.getD q 0) (uw m (fun x=>bH x v.o (g 3)) l)/\Below w.heap.size w k) (fun f _=>((l.length:Int)-intOf (f 21)).toNat) ⟨0,(by omega),rfl,(by rfl),(by rfl),(by rfl),(by rfl),Fx.ic,Fx.ic,qg,qh,om,rW,wh,uD,qX,vJ,uZ,wm,mH,wo,b5⟩ ?_;rintro f1 w6 ⟨i,hi,M,h1,V,W,h4,X,H,tQ,tT,uF,yD,rG,vK,pz,uI,O,xw,wN,vL,Q⟩;refine ay ?_;by_cases c22:(i:Int)<(l.length:Int)
 ·refine Lv aG (gM c22 (hx:=H) (hy:=X))<|aC<|Ws<|aM<|Wk<|sN<|Ws<|Wb<|ay ?_;obtain⟨Eu,U⟩:=wN.addr (by omega);have xA:Fx.Own w6 P.heap.size 23 1 (bK Eu l.length D) l.length (yH l):=wN.eY (L_ (fun q=>Value.slice q l.length D) U);refine Lv (pf Eu i) (dw 1 (hx:=(h4.trans (L_ (fun q=>Value.slice q (l.length) (D)) U))) (hi:=H))<|Lv (aD (l.getD i 0)) (aL xA.aH i)<|av (aD (l.getD i 0))<|aC<|Ws ?_;obtain⟨b,hjz,ejz⟩:=iA (dM.oU h.t.inv I _ (vZ (show i<l.length by omega) rfl));have K:EC m (l.getD i 0)=m.R b:=by unfold EC dN.idx; rw[nI h.t.inv.inj hjz ejz]
  refine Wl<|aU h1<|Lv (pt j) (aL O.aH 0 (ha:=V))<|av (pt j)<|av (pf j 20)<|Lv (.map (some m.rb)) (aL tQ.aH 20)<|av (aD (l.getD i 0))<|Lv (.agg (aA 54 (rv .i64 (m.R b)))) (Fx.wZ (z := .agg (aA 54 (rv .i64 (fun _=>0)))) rfl rfl rfl yD Tryz.underlying109 Tryz.underlying23 (by kernel_rfl) hjz ejz rfl)<|zx (by rfl) (Fx.Ai (args := [.agg (aA 54 (rv .i64 (m.R b)))]) rfl rfl rfl (all := #[.agg (aA 54 (rv .i64 (m.R b))),(pt E),(pt F)]) rfl Tryz.func223 rfl rfl) rfl<|(WU (m.R b) v g E F _ ho pz uI).mono ?_;rintro e w7 ⟨u,G⟩;refine⟨.tuple #[.agg (aA 54 (rv .i64 ((bH (m.R b) v.o (g 3)).1))),au ((bH (m.R b) v.o (g 3)).2)],by rw[u],?_⟩;clear u;have⟨tV,vM,uP,vN,vO,zI,wO,yI,yJ,yK,yt,xB,b7⟩:=abk G tQ tT uF yD rG vK pz uI O xw vL xA Q;refine av (.tuple #[.agg (aA 54 (rv .i64 ((bH (m.R b) v.o (g 3)).1))),au ((bH (m.R b) v.o (g 3)).2)])<|av (.agg (aA 54 (rv .i64 ((bH (m.R b) v.o (g 3)).1))))<|av (au ((bH (m.R b) v.o (g 3)).2))<|qR 54 (rv .i64 (fun _=>0)) fun g4 w8 KA xC s7 z5 => ?_;have⟨yR,AP,yS,BI,Bq,Br,AQ,AU,BJ,FL,Es,CU,b8⟩:=abk s7.old tV vM uP vN vO zI wO yI yJ yK yt xB b7;have Og:=iw KA b7.size;have⟨afr,afs,aft,aqK,aqL,aqM,aqN,aqO,aqP,aqQ,aqR⟩:=ahn KA tV.lt uP.lt vN.lt vO.lt zI.lt wO.lt yI.lt yJ.lt yK.lt yt.lt xB.lt;have Oh:=xC.lt;refine dU xC 0 fun w9 DX s8 z6 => ?_;have AY:aP w9 g4 54 (rv .i64 ((bH (m.R b) v.o (g 3)).1)) 82:=aQ DX;have jr:=gH s8 xC.ty;have⟨Hl,ET,Ho,HY,xL,yV,xM,vg,qF,ql,rJ,qG⟩:=ahm jr yR AP yS BI Bq Br AQ AU BJ FL Es CU;have S:=s8.below b8 b8.size (by omega);refine av (au ((bH (m.R b) v.o (g 3)).2))<|aC<|Ws<|ay<|av (au ((bH (m.R b) v.o (g 3)).2)) ?_;by_cases J:((bH (m.R b) v.o (g 3)).2)=0
  ·refine Lv aF (jG J)<|aC<|aK<|Wk<|sN ?_;have hnd:l.Nodup:=(by rw[I]; exact dM.Bg h.t.inv C);have hny : ∀ q,q<i->(fun q=>l.getD q 0) q≠l.getD i 0:=fun q hq e=>by have:=Dq hnd (show q<l.length by omega) (show i<l.length by omega) e; omega
   refine Wl<|Lv (.map (some d)) (aL ql.aH 0 (ha:=W))<|av (aD (l.getD i 0))<|Lv (.agg (aA 54 (rv .i64 ((bH (m.R b) v.o (g 3)).1)))) (eT AY.aH 0)<|Fx.L.Ra (by rfl) rfl rfl rfl rfl rfl rJ Tryz.underlying109 Tryz.underlying23 hny fun pJ sI s9 z7 => ?_;have s:=rJ.Cy s9;have uo:=Hl.eB s;have wB:=ET.eB s (by omega);have sJ:=Ho.eB s (by omega);have vk:=HY.eB s (by omega);have Ad:=xL.eB s (by omega);have wC:=yV.eB s (by omega);have Ae:=xM.eB s;have CV:=vg.eB s;have yF:=qF.eB s;have vo:=ql.eB s;have rM:=qG.eB s;have yX:=AY.eB s;have b10:=s9.below S S.size (by omega);have yY:Mp pJ d (i+1) (fun q=>l.getD q 0) (uw m (fun x=>bH x v.o (g 3)) l):=Jd sI (by rw[K]);refine Ln<|bP<|sN<|Wl<|Lv (au ((i:Int)+1)) (fA (hx:=H))<|av (au ((i:Int)+1))<|Ln ?_;have vw:Fx.Own pJ P.heap.size 23 1 (.slice pa1 (l.length) (D)) l.length (yH l):=rM.eY (L_ (fun q=>Value.slice q l.length D) U.symm);refine gW ⟨i+1,(by omega),(Dr M (by rw[K]; exact J)),h1,V,W,h4,(X.trans Fx.ic),Fx.ic,uo,wB,sJ,vk,Ad,wC,Ae,CV,yF,vo,vw,yY,b10⟩ ?_;show((l.length:Int)-intOf (au ((i:Int)+1))).toNat<_;simp only[H,intOf]; omega
  refine Lv aG (mG J)<|aC<|aM<|ay<|av (au ((bH (m.R b) v.o (g 3)).2))<|av (.nilFunc)<|av (au ((bH (m.R b) v.o (g 3)).2))<|aC<|Wr<|sR<|bL<|sR<|pV<|bL<|sR<|aJ (.tuple #[.nilFunc,au ((bH (m.R b) v.o (g 3)).2)]) ?_;have N:dF m (fun x=>bH x v.o (g 3)) l=(bH (m.R b) v.o (g 3)).2:=by unfold dF; rw[Bh M (by rw[K]; exact J) _ (by omega),K]
  exact⟨⟨.nilFunc,0,#[],by rw[N],rfl,fun e0=>M_ (N.symm.trans e0) (by first|decide|omega|assumption)⟩,S⟩
 refine Lv aF (gN c22 (hx:=H) (hy:=X))<|aC<|Ws<|aK<|Wx<|bX<|gP<|bY<|sN<|ay<|Lv (.func (.func 232) #[] #[(pt y),(pt A)]) (Fx.lJ (us := []) (vs := [(pt y),(pt A)]) rfl rfl (Fx.args2 W V))<|av (.func (.func 232) #[] #[(pt y),(pt A)])<|av (au 0)<|aC<|Wr<|aJ (.tuple #[.func (.func 232) #[] #[(pt y),(pt A)],au 0]) ?_;have hil:i=l.length:=by omega
 rw[hil]at vL M;have hgm:m.rb≠d/\m.mb≠d/\m.pb≠d/\m.gb≠d/\m.ab≠d:=⟨by omega,by omega,by omega,by omega,by omega⟩;have N:dF m (fun x=>bH x v.o (g 3)) l=0:=M;exact⟨⟨_,232,#[(pt y),(pt A)],by rw[N],rfl,fun _=>⟨rfl,⟨_,_,Tryz.func232,rfl,rfl⟩,fun w2 G=>(MC m j B w2 ((h.up Q).up G) (fun x=>bH x v.o (g 3)) l d hgm (dM.oU h.t.inv I) (vL.up G) _ _ (xw.cZ (Sb G) (u_ xw.lt)) (O.cZ (Sb G) (u_ O.lt))).mono fun _ _ Y=>⟨Y.1,Y.2.1,Y.2.2.mono fun _ hk => .inl hk⟩⟩⟩,Q⟩
section
namespace Rt
def Ci(k1 k2:Nat->Int):Nat->Int->Int->Bool
 | 0,_,_=>false
 | n+1,a,b=>(decide (k1 n=a)&&decide (k2 n=b)) || Ci k1 k2 n a b
def xU(k1 k2:Nat->Int):Nat->Int->Int->Nat
 | 0,_,_=>0
 | n+1,a,b=>if k1 n=a/\k2 n=b then n else xU k1 k2 n a b
section
variable {k1 k2:Nat->Int} {a b:Int}
theorem lY : ∀ {n:Nat},Ci k1 k2 n a b=true <-> ∃ j,j<n/\k1 j=a/\k2 j=b
 | 0=>⟨fun h=>(nomatch h),fun⟨j,h,_⟩=>M_ h (z_ _)⟩
 | n+1=>by
   unfold Ci;rw[Bool.or_eq_true,T_,Q_,Q_,lY];constructor
   ·rintro (⟨f,c⟩|⟨j,f,c,d⟩)
    ·exact⟨n,by omega,f,c⟩
    ·exact⟨j,by omega,c,d⟩
   ·rintro ⟨j,f,c,d⟩;by_cases e:j=n
    ·subst e; exact .inl ⟨c,d⟩
    ·exact .inr ⟨j,by omega,c,d⟩
theorem uy{n j:Nat}(e:j<n)(c:k1 j=a)(d:k2 j=b):Ci k1 k2 n a b=true:=lY.2 ⟨j,e,c,d⟩
theorem qy{n:Nat}(h : ∀ i,i<n -> ¬ (k1 i=a/\k2 i=b)):Ci k1 k2 n a b=false:=by
 cases e:Ci k1 k2 n a b with
 | false=>rfl
 | true=>obtain⟨j,f,c,d⟩:=lY.1 e; exact M_ ⟨c,d⟩ (h j f)
theorem zQ{j:Nat} : ∀ {n:Nat},(∀ p q,p<n->q<n->k1 p=k1 q->k2 p=k2 q->p=q)->j<n->k1 j=a->k2 j=b->xU k1 k2 n a b=j
 | 0,_,h,_,_=>M_ h (z_ _)
 | n+1,hi,hj,e1,e2=>by
   unfold xU;by_cases c:k1 n=a/\k2 n=b
   ·rw[d_ c]; exact hi n j (by omega) hj (c.1.trans e1.symm) (c.2.trans e2.symm)
   ·rw[b_ c];refine zQ (fun p q d f=>hi p q (by omega) (by omega)) ?_ e1 e2;by_cases e:j=n
    ·subst e; exact M_ ⟨e1,e2⟩ c
    ·omega
end
theorem E8{v:EvM}(h:bR v=true)(a:gL v):Fx.En v.o v.req/\Fx.En v.o v.of:=by
 have d:=oP h;have b:=a.req;have c:=a.of;unfold iY at b c;exact⟨⟨by omega,by omega⟩,⟨by omega,by omega⟩⟩
theorem ZR{w:World}{b k n:Nat}{g:Nat->Nat->Int}{o r:Int}{y:Nat->Value}(h:iI w b k (aO (fun i=>g i 0) n o) (aO (fun i=>g i 1) n r) (aO (vE g) n (.agg (aA 5 y))))(x:Nat->Int)(e0:x 0=o)(a:x 1=r)(d : ∀ j,j<5->y j=jc x j) :
 iI w b k (fun i=>aO g n x i 0) (fun i=>aO g n x i 1) (vE (aO g n x)):=h.vX fun i _=>by
 unfold aO vE;by_cases c:i=n
 ·subst c;refine⟨?_,?_,?_⟩
  ·show(if i=i then o else g i 0)=(if i=i then x else g i) 0;rw[d_ rfl,d_ rfl,e0]
  ·show(if i=i then r else g i 1)=(if i=i then x else g i) 1;rw[d_ rfl,d_ rfl,a]
  ·show(if i=i then Value.agg (aA 5 y)else _)=Value.agg (aA 5 (jc (if i=i then x else g i)));rw[d_ rfl,d_ rfl,Fx.dZ d]
 ·refine⟨?_,?_,?_⟩
  ·show(if i=n then o else g i 0)=(if i=n then x else g i) 0;rw[b_ c,b_ c]
  ·show(if i=n then r else g i 1)=(if i=n then x else g i) 1;rw[b_ c,b_ c]
  ·show(if i=n then Value.agg (aA 5 y)else Value.agg (aA 5 (jc (g i))))=Value.agg (aA 5 (jc (if i=n then x else g i)));rw[b_ c,b_ c]
theorem ZT{w:World}{b n j:Nat}{g:Nat->Nat->Int}{x:Nat->Int}(h:iI w b n (fun i=>g i 0) (fun i=>g i 1) (aO (vE g) j (.agg (aA 5 (jc x)))))(e0:x 0=g j 0)(a:x 1=g j 1) :
 iI w b n (fun i=>aO g j x i 0) (fun i=>aO g j x i 1) (vE (aO g j x)):=h.vX fun i _=>by
 unfold aO vE;show g i 0=(if i=j then x else g i) 0/\g i 1=(if i=j then x else g i) 1/\_=Value.agg (aA 5 (jc (if i=j then x else g i)));by_cases c:i=j
 ·subst c; rw[d_ rfl,d_ rfl]; exact⟨e0.symm,a.symm,rfl⟩
 ·rw[b_ c,b_ c]; exact⟨rfl,rfl,rfl⟩
theorem QA{w:World}{b k n:Nat}{o r:Nat->Int}{x y:Int}(h:iI w b k (aO o n x) (aO r n y) (aO Ez n (.bool true))):iI w b k (aO o n x) (aO r n y) Ez:=h.vX fun i _=>⟨rfl,rfl,by unfold aO Ez; split <;> rfl⟩
theorem ajm(x:Nat->Int)(r:Int):dB (jc x) 4 (aD r)=jc (upd x 4 r):=by
 funext p
 unfold dB;by_cases c:p=4
 ·subst c; rw[d_ rfl]; rfl
 rw[b_ c]; unfold jc upd;by_cases a:p=0
 ·rw[d_ a,d_ a]; rfl
 rw[b_ a,b_ a];by_cases b:p=3
 ·rw[d_ b,d_ b]; rfl
 rw[b_ b,b_ b,b_ c]
def Hr(a b:Int):Nat->Value:=fun p=>if p=0 then au a else aD b
def W9(m:dN)(a:Nat->Nat->Int)(v:EvM):dN := { m with R:=a,an:=m.an+1,ao:=aO m.ao m.an v.o,ar:=aO m.ar m.an v.req,gn:=m.gn+1,g:=aO m.g m.gn (qx v) }
def QC(m:dN)(a:Nat->Nat->Int)(v:EvM)(j:Nat):dN := { m with R:=a,an:=m.an+1,ao:=aO m.ao m.an v.o,ar:=aO m.ar m.an v.req,g:=aO m.g j (upd (m.g j) 4 v.req) }
structure Bw(w0 w:World):Prop where
 b:Below w0.heap.size w0 w
theorem Bw.up{a w w':World}(h:Bw a w)(c:Below w.heap.size w w'):Bw a w':=⟨Nn h.b c⟩
instance {a w w':World}:Rt.Tr w w' (Bw a w) (Bw a w'):=⟨fun b h=>h.up b⟩
end Rt
theorem afu{y:Nat->Value}{a b:Int}(c:y 0=au a)(h1:y 1=aD b){w:World}{g:Nat}(h:aP w g 2 y 117):aP w g 2 (Hr a b) 117:=h.congr fun j d=>by
 rcases(show j=0\/j=1 by omega)with rfl|rfl
 ·exact c
 ·exact h1
structure LtT(gl gq ge b:Nat):Prop where
 gl:gl<b
 gq:gq<b
 ge:ge<b
structure LtF(gl gq ge gg go b:Nat):Prop where
 gl:gl<b
 gq:gq<b
 ge:ge<b
 gg:gg<b
 go:go<b
theorem Xa(m:dN)(l B:Nat)(w:World)(h:mM w B l m)(v:EvM)(hv:bR v=true)(hwf:gL v)(I:Nat->Nat->Int)(D J G:Nat)(afv:J<=D)(cap:Array Value)(U:V4 w B l m { m with R:=I } D (.func (.func G) #[] cap) G cap)(S:Nat)(K:Nat)(M:Nat)(A:Nat)(Y:aP w S 1 (fun _ => .func (.func G) #[] cap) 123)(hl:aP w K 1 (fun _=>(pt l)) 28)(hq:aP w M 2 (Hr v.o v.req) 117)(E:aP w A 14 (bM v) 37)(N:LtT K M A D)(hnz : ∀ i,i<m.an -> ¬ (m.ao i=v.o/\m.ar i=v.req))(hny : ∀ i,i<m.gn -> ¬ ((fun i=>m.g i 0) i=v.o/\(fun i=>m.g i 1) i=v.req)) :
 Calls Tryz.prog 222 #[(pt S),(pt K),(pt M),(pt A)] w fun e w'=>e = .returned (.tuple #[])/\mM w' B l (W9 m I v)/\jM (R8 m l J) w w':=by
 have hC:=h.c;have hT:=h.t;have hP:=h.p;have hR:=h.r;have hG:=h.g;have hA:=h.a;have d:=h.ne;have lC:=h.c.lt;have lT:=h.t.lt;have lP:=h.p.lt;have lR:=h.r.lt;have lG:=h.g.lt;have lA:=h.a.lt;have lgd:=Y.lt;have YI:=hl.lt;have lgq:=hq.lt;have lge:=E.lt;have Z:=E8 hv hwf;refine Kent Tryz.func222 25 ?_;refine ay<|Lv (.func (.func G) #[] cap) (aL Y.aH 0)<|zx (by rfl) (Fx.Qm (args := []) rfl rfl rfl (by simp) U.f) rfl<|(U.s _ (Below.refl _ _)).mono ?_;rintro e9 z ⟨E,C,H⟩;refine⟨_,E,?_⟩;clear E;have V:=H.mono (S':=R8 m l J) fun k hk=>hk.imp id (m_ afv);have m1:aP z l 29 (wJ m) 114:=C.c;have lm1:=m1.lt;have m2:tY z B m.tp m.mb m.T:=C.t;have lm2:=m2.lt;have m3:Mp z m.pb m.T.n m.T.x (Ey m.T):=C.p;have lm3:=m3.lt;have m4:Mp z m.rb m.T.n m.T.x (xR (I)):=C.r;have lm4:=m4.lt;have m5:iI z m.gb m.gn (fun i=>m.g i 0) (fun i=>m.g i 1) (vE m.g):=C.g;have lm5:=m5.lt;have m6:iI z m.ab m.an m.ao m.ar Ez:=C.a;have lm6:=m6.lt;have m7:=h.J8 hl (by decide) H N.gl;have lm7:=m7.lt;have m8:=h.J8 hq (by decide) H N.gq;have lm8:=m8.lt;have m9:=h.J8 E (by decide) H N.ge;have lm9:=m9.lt;refine aC<|Ws ?_;refine kH [0,1,2,3,4,5] [4,0,0,4,4,3] [(5,0,[0]),(5,3,[3]),(5,4,[4])] fun rE W iK => ?_;have s1:Stp z.heap.size z rE:=Sb W;have⟨m10,m11,m12,m13,m14,m15,m16,m17,m18⟩:=Cw W m1 m2 m3 m4 m5 m6 m7 m8 m9;have D:=V.then s1 (.inr V.size);refine Rs (pt l) (aL m16.aH 0) ?_;refine aX (pt l)<|aX (pf l 28)<|Rs (.map (some m.ab)) (aL m10.aH 28) ?_;refine Rs (.agg (aA 2 (Hr v.o v.req))) (eT m17.aH 0) ?_;refine gZ<|Fx.L.TQ (by rfl) rfl rfl rfl ((show ev _ _ = .agg (aA 2 (Hr v.o v.req))from rfl).trans (Fx.Am (y:=Hr v.o v.req) (a:=v.o) (b:=v.req) rfl rfl)) Z.1 rfl m15 Tryz.underlying112 H8 hnz fun O m19 s2 z1 => ?_;have q:=m15.Cy s2;have m20:=m10.eB q;have m21:=m11.eB q (d.ma);have m22:=m12.eB q (d.pa);have m23:=m13.eB q (d.ra);have m24:=m14.eB q (d.ga);have mZ:=m16.eB q;have nQ:=m17.eB q;have nH:=m18.eB q;have Q:=D.then s2 (.inl (.inl (.inr (.inr (.inr (.inr (.inr rfl)))))));have og:iI O m.ab (m.an+1) (aO m.ao m.an v.o) (aO m.ar m.an v.req) Ez:=QA m19;refine Ln<|bS ?_;refine kH [5,7,9,11,0,1,2,3,4,6,8,10,12,13,14] [4,0,0,4,4,0,4,0,4,0,4,0,4,0,3] [(14,0,[0]),(14,3,[3]),(14,4,[4]),(14,6,[6]),(14,8,[8]),(14,10,[10]),(14,12,[12])] fun CJ X nZ => ?_;have s3:Stp O.heap.size O CJ:=Sb X;have⟨oh,oD,lI,m32,pE,nR,pF,F,qW⟩:=Cw X m20 m21 m22 m23 m24 mZ nQ nH og;have b3:=Q.then s3 (.inr Q.size);refine aX (pt A)<|aX (pf A 12)<|aX (pf A 9)<|aX (pf A 11)<|Rs (pt l) (aL nR.aH 0) ?_;refine aX (pt l)<|aX (pf l 27)<|Rs (.map (some m.gb)) (aL oh.aH 27) ?_;refine Rs (.agg (aA 2 (Hr v.o v.req))) (eT pF.aH 0) ?_;refine Rs (au v.o) (aL F.aH 0) ?_;refine Rs (aD v.req) (aL F.aH 12) ?_;refine Rs (aD v.node) (aL F.aH 9) ?_;refine Rs (au v.aT) (aL F.aH 11) ?_;refine aX (.agg (aA 5 (bB (bB (bB (bB zR0 0 1 (fun _=>au v.o)) 1 1 (fun _=>aD v.req)) 2 1 (fun _=>aD v.node)) 3 1 (fun _=>au v.aT))))<|gZ<|Fx.L.TQ (by rfl) rfl rfl rfl ((show ev _ _ = .agg (aA 2 (Hr v.o v.req))from rfl).trans (Fx.Am (y:=Hr v.o v.req) (a:=v.o) (b:=v.req) rfl rfl)) Z.1 rfl pE Tryz.underlying111 H8 hny fun w3 qB s4 z2 => ?_;have u:=pE.Cy s4;have pK:=oh.eB u;have sS:=oD.eB u (d.mg);have mh:=lI.eB u (d.pg);have lM:=m32.eB u (d.rg);have mH:=nR.eB u;have qg:=pF.eB u;have qh:=F.eB u;have om:=qW.eB u (Ne.symm d.ga);have b4:=b3.then s4 (.inl (.inl (.inr (.inr (.inr (.inr (.inl rfl)))))));have rW:iI w3 m.gb (m.gn+1) (fun i=>aO m.g m.gn (qx v) i 0) (fun i=>aO m.g m.gn (qx v) i 1) (vE (aO m.g m.gn (qx v))):=ZR qB (qx v) rfl rfl (by intro j hj; rcases(show j=0\/j=1\/j=2\/j=3\/j=4 by omega)with rfl|rfl|rfl|rfl|rfl <;> rfl)
 refine Ln (Rn (⟨.tuple #[],iJ Tryz.results222,?_⟩));unfold W9;exact⟨rfl,{ c:=pK,t:=sS,p:=mh,r:=lM,g:=rW,a:=om,ne:=⟨d.mp,d.mr,d.mg,d.ma,d.pr,d.pg,d.pa,d.rg,d.ra,d.ga⟩,lB:=h.lB,pB:=h.pB,rB:=h.rB,gB:=h.gB,aB:=h.aB },b4⟩
theorem Xb(m:dN)(l B:Nat)(w:World)(h:mM w B l m)(v:EvM)(hv:bR v=true)(hwf:gL v)(K:Nat->Nat->Int)(E H I:Nat)(afv:H<=E)(cap:Array Value)(S:V4 w B l m { m with R:=K } E (.func (.func I) #[] cap) I cap)(j:Nat)(Q:Nat)(M:Nat)(N:Nat)(J:Nat)(A:Nat)(go:Nat)(X:aP w Q 1 (fun _ => .func (.func I) #[] cap) 123)(hl:aP w M 1 (fun _=>(pt l)) 28)(hq:aP w N 2 (Hr v.o v.req) 117)(F:aP w J 14 (bM v) 37)(Y:aP w A 5 (jc (m.g j)) 106)(hof:aP w go 2 (Hr v.o v.of) 117)(hgg:H<=A)(G:LtF M N J A go E)(hnz : ∀ i,i<m.an -> ¬ (m.ao i=v.o/\m.ar i=v.req))(Z:j<m.gn)(ejy:(fun i=>m.g i 0) j=v.o)(fjy:(fun i=>m.g i 1) j=v.of) :
 Calls Tryz.prog 225 #[(pt Q),(pt M),(pt N),(pt J),(pt A),(pt go)] w fun e w'=>e = .returned (.tuple #[])/\mM w' B l (QC m K v j)/\jM (R8 m l H) w w':=by
 have hC:=h.c;have hT:=h.t;have hP:=h.p;have hR:=h.r;have hG:=h.g;have hA:=h.a;have d:=h.ne;have lC:=h.c.lt;have lT:=h.t.lt;have lP:=h.p.lt;have lR:=h.r.lt;have lG:=h.g.lt;have lA:=h.a.lt;have lgd:=X.lt;have YI:=hl.lt;have lgq:=hq.lt;have lge:=F.lt;have lgg:=Y.lt;have lgo:=hof.lt;have aa:=E8 hv hwf;have ayn:=Z;refine Kent Tryz.func225 22 ?_;refine ay<|Lv (.func (.func I) #[] cap) (aL X.aH 0)<|zx (by rfl) (Fx.Qm (args := []) rfl rfl rfl (by simp) S.f) rfl<|(S.s _ (Below.refl _ _)).mono ?_;rintro e9 z ⟨F,D,C⟩;refine⟨_,F,?_⟩;clear F;have U:=C.mono (S':=R8 m l H) fun k hk=>hk.imp id (m_ afv);have m1:aP z l 29 (wJ m) 114:=D.c;have lm1:=m1.lt;have m2:tY z B m.tp m.mb m.T:=D.t;have lm2:=m2.lt;have m3:Mp z m.pb m.T.n m.T.x (Ey m.T):=D.p;have lm3:=m3.lt;have m4:Mp z m.rb m.T.n m.T.x (xR (K)):=D.r;have lm4:=m4.lt;have m5:iI z m.gb m.gn (fun i=>m.g i 0) (fun i=>m.g i 1) (vE m.g):=D.g;have lm5:=m5.lt;have m6:iI z m.ab m.an m.ao m.ar Ez:=D.a;have lm6:=m6.lt;have m7:=h.J8 hl (by decide) C G.gl;have lm7:=m7.lt;have m8:=h.J8 hq (by decide) C G.gq;have lm8:=m8.lt;have m9:=h.J8 F (by decide) C G.ge;have lm9:=m9.lt;have m10:=h.J8 Y (by decide) C G.gg;have ayo:=m10.lt;have m11:=h.J8 hof (by decide) C G.go;have ayp:=m11.lt;refine aC<|Ws ?_;refine kH [0,1,2,3,4,5] [4,0,0,4,4,3] [(5,0,[0]),(5,3,[3]),(5,4,[4])] fun rE V iK => ?_;have s1:Stp z.heap.size z rE:=Sb V;have⟨m12,m13,m14,m15,m16,m17,m18,m19,m20,m21,m22⟩:=Fz V m1 m2 m3 m4 m5 m6 m7 m8 m9 m10 m11;have E:=U.then s1 (.inr U.size);refine Rs (pt l) (aL m18.aH 0) ?_;refine aX (pt l)<|aX (pf l 28)<|Rs (.map (some m.ab)) (aL m12.aH 28) ?_;refine Rs (.agg (aA 2 (Hr v.o v.req))) (eT m19.aH 0) ?_;refine gZ<|Fx.L.TQ (by rfl) rfl rfl rfl ((show ev _ _ = .agg (aA 2 (Hr v.o v.req))from rfl).trans (Fx.Am (y:=Hr v.o v.req) (a:=v.o) (b:=v.req) rfl rfl)) aa.1 rfl m17 Tryz.underlying112 H8 hnz fun w2 m23 s2 z1 => ?_;have q:=m17.Cy s2;have m24:=m12.eB q;have mZ:=m13.eB q (d.ma);have nQ:=m14.eB q (d.pa);have nH:=m15.eB q (d.ra);have og:=m16.eB q (d.ga);have oh:=m18.eB q;have oD:=m19.eB q;have lI:=m20.eB q;have m32:=m21.eB q;have pE:=m22.eB q;have b2:=E.then s2 (.inl (.inl (.inr (.inr (.inr (.inr (.inr rfl)))))));have nR:iI w2 m.ab (m.an+1) (aO m.ao m.an v.o) (aO m.ar m.an v.req) Ez:=QA m23;refine Ln<|bS<|ay<|av (pf J 12)<|Lv (aD v.req) (aL lI.aH 12)<|av (pf A 4)<|ji m32 4 (aD v.req) fun O pF s3 z2 => ?_;have nS:aP O A 5 (jc (upd (m.g j) 4 v.req)) 106:=pF.to (ajm _ _);have fV:=gH s3 m32.ty;have⟨qW,qB,pK,sS,mh,lM,mH,qg,qh,om⟩:=Px fV m24 mZ nQ nH og oh oD lI pE nR;have P:=b2.then s3 (.inl (.inr hgg));refine aC ?_;refine kH [0,1,2,3,4,5,6] [4,0,0,4,4,4,3] [(6,0,[0]),(6,3,[3]),(6,4,[4]),(6,5,[5])] fun CJ W nZ => ?_;have s4:Stp O.heap.size O CJ:=Sb W;have⟨rW,wh,uD,qX,vJ,uZ,uE,wm,wo,tQ,tT⟩:=Fz W qW qB pK sS mh lM mH qg qh om nS;have b4:=P.then s4 (.inr P.size);refine Rs (pt l) (aL uZ.aH 0) ?_;refine aX (pt l)<|aX (pf l 27)<|Rs (.map (some m.gb)) (aL rW.aH 27) ?_;refine Rs (.agg (aA 2 (Hr v.o v.of))) (eT wo.aH 0) ?_;refine Rs (.agg (aA 5 (jc (upd (m.g j) 4 v.req)))) (eT tT.aH 0) ?_;refine gZ<|Fx.L.aho (by rfl) rfl rfl rfl ((show ev _ _ = .agg (aA 2 (Hr v.o v.of))from rfl).trans (Fx.Am (y:=Hr v.o v.of) (a:=v.o) (b:=v.of) rfl rfl)) aa.2 rfl vJ Tryz.underlying111 H8 Z ejy fjy fun w4 uF s5 z3 => ?_;have u:=vJ.Cy s5;have yD:=rW.eB u;have rG:=wh.eB u (d.mg);have vK:=uD.eB u (d.pg);have pz:=qX.eB u (d.rg);have uI:=uZ.eB u;have m64:=uE.eB u;have xw:=wm.eB u;have wN:=wo.eB u;have vL:=tQ.eB u (Ne.symm d.ga);have xA:=tT.eB u;have b5:=b4.then s5 (.inl (.inl (.inr (.inr (.inr (.inr (.inl rfl)))))));have tV:iI w4 m.gb m.gn (fun i=>aO m.g j (upd (m.g j) 4 v.req) i 0) (fun i=>aO m.g j (upd (m.g j) 4 v.req) i 1) (vE (aO m.g j (upd (m.g j) 4 v.req))):=ZT uF rfl rfl;refine Ln (Rn (⟨.tuple #[],iJ Tryz.results225,?_⟩));unfold QC;exact⟨rfl,{ c:=yD,t:=rG,p:=vK,r:=pz,g:=tV,a:=vL,ne:=⟨d.mp,d.mr,d.mg,d.ma,d.pr,d.pg,d.pa,d.rg,d.ra,d.ga⟩,lB:=h.lB,pB:=h.pB,rB:=h.rB,gB:=h.gB,aB:=h.aB },b5⟩
end
namespace Rt
def iB(m:dN)(o r:Int):Bool:=Ci m.ao m.ar m.an o r
def iW(m:dN)(o r:Int):Bool:=Ci (fun i=>m.g i 0) (fun i=>m.g i 1) m.gn o r
def fF(m:dN)(o r:Int):Nat:=xU (fun i=>m.g i 0) (fun i=>m.g i 1) m.gn o r
noncomputable def Xc(m:dN)(v:EvM):dN:=rP m (fun x=>bG x v.o v.aT) (m.T.path v.node)
def kF(m:dN)(v:EvM):Int:=if iB m v.o v.req=true then 14 else if m.T.has v.node=false then 9 else dF m (fun x=>bG x v.o v.aT) (m.T.path v.node)
noncomputable def kZ(m:dN)(v:EvM):dN:=W9 m (Xc m v).R v
noncomputable def Xd(m:dN)(v:EvM):dN:=rP m (fun x=>bH x v.o (m.g (fF m v.o v.of) 3)) (m.T.path (m.g (fF m v.o v.of) 2))
def jH(m:dN)(v:EvM):Int:=if iB m v.o v.req=true then 14 else if iW m v.o v.of=false\/m.g (fF m v.o v.of) 4≠0 then 12 else dF m (fun x=>bH x v.o (m.g (fF m v.o v.of) 3)) (m.T.path (m.g (fF m v.o v.of) 2))
noncomputable def iQ(m:dN)(v:EvM):dN:=QC m (Xd m v).R v (fF m v.o v.of)
def Sk(m:dN):Prop := ∀ i,i<m.gn->iB m (m.g i 0) (m.g i 1)=true
end Rt
theorem Fx.ajn{f:Nat->Value}{x1 x2 e g h i:Operand}{v1 v2 a b c d:Value}(h1:ev f x1=v1)(j:ev f x2=v2)(k:ev f e=a)(l:ev f g=b)(m:ev f h=c)(n:ev f i=d) : [x1,x2,e,g,h,i].map (ev f) = [v1,v2,a,b,c,d]:=by rw[List.map_cons,h1,Fx.ahe j k l m n]
theorem V4.up{w w':World}{B d a b:Nat}{m e:dN}{c:Value}{cap:Array Value}(h:V4 w B d m e a c b cap)(f:Below w.heap.size w w'):V4 w' B d m e a c b cap := { h with s:=fun i g=>h.s i (Nn f g) }
instance {w w':World} {B e a c:Nat} {m f:dN} {d:Value} {cap:Array Value}:Rt.Tr w w' (V4 w B e m f a d c cap) (V4 w' B e m f a d c cap):=⟨fun b h=>h.up b⟩
theorem ZU(m:dN)(d B:Nat)(w:World)(h:mM w B d m)(v:EvM)(M:bR v=true)(hwf:gL v)(hga:Sk m) :
 Calls Tryz.prog 209 #[(pt d),.agg (aA 14 (bM v))] w fun e w'=>S9 w B d m (kZ m v) (kF m v) e w':=by
 have hC:=h.c;have hT:=h.t;have hP:=h.p;have hR:=h.r;have hG:=h.g;have hA:=h.a;have hN:=h.ne;have lC:=h.c.lt;have lT:=h.t.lt;have lP:=h.p.lt;have lR:=h.r.lt;have lG:=h.g.lt;have lA:=h.a.lt;obtain⟨a,ha,ho⟩ : ∃ a:Nat,a<6/\v.o=(a:Int)+1:=fq (jg M);have hra:aN v=a:=by unfold aN; omega
 have hko:=E8 M hwf;have hvo:1<=v.o/\v.o<=6:=by omega
 refine Kent Tryz.func209 40 ?_;refine ay<|vU (pt d) fun C w1 kQ N s1 z1 => ?_;have⟨m2,m3,m4,m5,m6,m7,V⟩:=jT s1.old hC hT hP hR hG hA (Below.refl w.heap.size w);have rF:=gD kQ;have⟨ny,yB,yA,Cg,Aq⟩:=AL kQ hC.lt hP.lt hR.lt hG.lt hA.lt;have sQ:=N.lt;refine oz fun f w2 yw D s2 z2 => ?_;have⟨m9,m10,m11,m12,m13,m14,m15,W⟩:=nO s2.old m2 m3 m4 m5 m6 m7 N V;have pO:=iw yw V.size;have⟨Mr,Gp,Dk,zf,Dl,AV⟩:=JE yw m2.lt m4.lt m5.lt m6.lt m7.lt N.lt;have yu:=D.lt;refine av (.nilFunc)<|av (au 0)<|aC<|ay<|av (pt f)<|Lv (au v.o) (aL D.aH 0)<|av (pf f 12)<|Lv (aD v.req) (aL D.aH 12)<|av (.agg (aA 2 (bB (bB zS0 0 1 (fun _=>au v.o)) 1 1 (fun _=>aD v.req))))<|qR 2 zS0 fun l w3 yE O s3 z3 => ?_;have⟨m17,m18,m19,m20,m21,m22,m23,m24,X⟩:=Cw s3.old m9 m10 m11 m12 m13 m14 m15 D W;have Bp:=iw yE W.size;have⟨afw,afo,aqT,WW,afp,WX,WY⟩:=NM yE m9.lt m11.lt m12.lt m13.lt m14.lt m15.lt D.lt;have Hg:=O.lt;refine dU O 0 (h1:=(bJ (bJ (fun jq _=>by show(zS0 jq).oneCell'=true; simp only[zS0]; repeat (first|rfl|split)) (fun _ _=>rfl)) (fun _ _=>rfl))) fun w4 mZ s4 z4 => ?_
 have nQ:aP w4 l 2 (bB (bB zS0 0 1 (fun _=>au v.o)) 1 1 (fun _=>aD v.req)) 117:=aQ mZ;have nH:aP w4 l 2 (Hr v.o v.req) 117:=afu (Fx.zy (by omega) (Fx.qY (j:=0) (by omega) (by omega) rfl)) (Fx.qY (j:=0) (by omega) (by omega) rfl) nQ;have fV:=gH s4 O.ty;have⟨og,oh,oD,lI,m32,pE,nR,pF⟩:=acQ fV m17 m18 m19 m20 m21 m22 m23 m24;have b4:=s4.below X X.size (by omega);refine aC<|Ws<|Ws ?_;refine kH [0,1,2,3,4,5] [4,0,0,4,4,4] [] fun rE dR iK => ?_;have⟨nS,qW,qB,pK,sS,P,lM,mH,qg,Y⟩:=vW dR og oh oD lI m32 pE nR pF nH b4;refine Rs (pt d) (aL lM.aH 0) ?_;refine aX (pt d)<|aX (pf d 28)<|Rs (.map (some m.ab)) (aL nS.aH 28) ?_;refine Rs (.agg (aA 2 (Hr v.o v.req))) (eT qg.aH 0) ?_
 rcases Fx.yP m.ao m.ar m.an v.o v.req with ⟨WK,D9,Ea,ME⟩|jL
 ·refine Rs aG (Fx.La (z := .bool false) rfl rfl ((show ev _ _ = .agg (aA 2 (Hr v.o v.req))from rfl).trans (Fx.Am (y:=Hr v.o v.req) (a:=v.o) (b:=v.req) rfl rfl)) hko.1 P Tryz.underlying112 H8 (by rfl) D9 Ea ME rfl) ?_;refine bS<|aM<|ay<|av (.nilFunc)<|av (au 14)<|aC<|Wr<|sR<|aJ (.tuple #[.nilFunc,au 14]) ?_;have k:kF m v=14:=by unfold kF; exact d_ (uy D9 Ea ME)
  exact⟨⟨.nilFunc,0,#[],by rw[k],rfl,fun A=>M_ (k.symm.trans A) (by first|decide|omega|assumption)⟩,Y⟩
 refine Rs aF (Fx.K9 (z := .bool false) rfl rfl ((show ev _ _ = .agg (aA 2 (Hr v.o v.req))from rfl).trans (Fx.Am (y:=Hr v.o v.req) (a:=v.o) (b:=v.req) rfl rfl)) hko.1 P Tryz.underlying112 H8 (by rfl) jL) ?_;refine bS<|aK<|Wk<|sN<|Ws<|Ws ?_;refine kH [4,0,1,2,3,5,6,7] [4,0,0,4,0,4,3,0] [(6,0,[3,2,1,0]),(6,3,[3]),(6,5,[5]),(7,6,[6])] fun CJ gJ nZ => ?_;have⟨qh,om,rW,wh,uD,qX,Q,G,uE,I⟩:=vW gJ nS qW qB pK sS P lM mH qg Y;refine aX (pf f 9)<|Rs (pt d) (aL Q.aH 0) ?_;refine aX (pt d)<|aX (pf d 18)<|Rs (pt m.tp) (aL qh.aH 18) ?_;refine Rs (aD v.node) (aL G.aH 9) ?_;refine gZ ?_;by_cases s:(dM.has m.T v.node)=true
 ·refine lH (abC v.node om) aG (by rw[s])<|Ln<|aX aF<|bS<|aK<|Wk<|sN<|ay<|Lv (pt d) (aL Q.aH 0)<|av (pf f 9)<|Lv (aD v.node) (aL G.aH 9)<|Lv (.func (.func 220) #[] #[(pt f)]) (Fx.lJ (us := []) (vs := [(pt f)]) rfl rfl rfl)<|lD (WV m d B _ (h.up I) v.node v hvo f G) ?_;rintro e9 H ⟨⟨F,fi1,Rj,he,ho1,hD1⟩,hb1⟩;refine⟨_,he,?_⟩;clear he;have⟨wm,tQ,tT,uF,yD,rG,vK,pz,Z⟩:=Cw hb1 qh rW wh uD qX Q G uE I;have bw1:Bw H H:=⟨Below.refl _ _⟩;refine av (.tuple #[F,au (dF m (fun x=>bG x v.o v.aT) (m.T.path (v.node)))])<|av (F)<|av (au (dF m (fun x=>bG x v.o v.aT) (m.T.path (v.node))))<|qR 1 (fun _ => .nilFunc) fun n w6 K S s8 z5 => ?_;have⟨vM,uP,vN,vO,b8⟩:=nN s8.old rG vK pz bw1 Z;have Og:=iw K Z.size;have⟨aqU,aeP,aeQ,aeR,aeS,aeT,aqV,aeU⟩:=YE K wm.lt tQ.lt tT.lt uF.lt yD.lt rG.lt vK.lt pz.lt;have Oh:=S.lt;have kg4:H.heap.size<=n:=by rw[K]; exact bw1.b.size
  refine ji S 0 F (h1:=ho1) fun w7 zI U z6 => ?_;have wO:aP w7 n 1 (fun _=>F) 123:=dD zI;have jr:=gH U S.ty;have⟨yR,AP,yS⟩:=zZ jr vM uP vN;have BI:=(⟨U.below vO.b vO.b.size kg4⟩:Bw H _);have J:=U.below b8 b8.size (by omega);refine av (au (dF m (fun x=>bG x v.o v.aT) (m.T.path (v.node))))<|aC<|Ws<|ay<|av (au (dF m (fun x=>bG x v.o v.aT) (m.T.path (v.node)))) ?_;by_cases E:(dF m (fun x=>bG x v.o v.aT) (m.T.path (v.node)))=0
  ·refine Lv aF (jG E)<|aC<|aK<|Wk<|sN<|ay<|Lv (.func (.func 222) #[] #[(pt n),(pt C),(pt l),(pt f)]) (Fx.lJ (us := []) (vs := [(pt n),(pt C),(pt l),(pt f)]) rfl rfl rfl)<|av (.func (.func 222) #[] #[(pt n),(pt C),(pt l),(pt f)])<|av (au 0)<|aC<|Wr<|aJ (.tuple #[.func (.func 222) #[] #[(pt n),(pt C),(pt l),(pt f)],au 0]) ?_;have hD0:=hD1 E;have hfe:=hD0.e;subst hfe;have b01:w.heap.size<=CJ.heap.size:=(by omega);have k:kF m v=0:=(by unfold kF; rw[b_ (show ¬ iB m v.o v.req=true by unfold iB; rw[qy jL]; decide)]; rw[b_ (by rw[s]; decide)]; exact E);exact⟨⟨_,222,#[(pt n),(pt C),(pt l),(pt f)],by rw[k],rfl,fun _=>⟨rfl,⟨_,_,Tryz.func222,rfl,rfl⟩,fun w2 u=>(Xa m d B w2 ((h.up J).up u) v M hwf (Xc m v).R CJ.heap.size w.heap.size _ (by omega) _ (hD0.up (Nn BI.b u)) _ _ _ _ (wO.cZ (Sb u) (u_ wO.lt)) (yR.cZ (Sb u) (u_ yR.lt)) (yS.cZ (Sb u) (u_ yS.lt)) (AP.cZ (Sb u) (u_ AP.lt)) ⟨by omega,by omega,by omega⟩ jL (fun i hi e=>by have q9:=hga i hi; obtain⟨j9,hj9,e9,f9⟩:=lY.1 q9; exact jL j9 hj9 ⟨e9.trans e.1,f9.trans e.2⟩)).mono fun _ _ L=>⟨L.1,L.2.1,L.2.2.mono fun _ hk=>hk⟩⟩⟩,J⟩
  refine Lv aG (mG E)<|aC<|aM<|ay<|av (au (dF m (fun x=>bG x v.o v.aT) (m.T.path (v.node))))<|av (.nilFunc)<|av (au (dF m (fun x=>bG x v.o v.aT) (m.T.path (v.node))))<|aC<|Wr<|sR<|aJ (.tuple #[.nilFunc,au (dF m (fun x=>bG x v.o v.aT) (m.T.path (v.node)))]) ?_;have k:kF m v=dF m (fun x=>bG x v.o v.aT) (m.T.path (v.node)):=by unfold kF; rw[b_ (show ¬ iB m v.o v.req=true by unfold iB; rw[qy jL]; decide)]; rw[b_ (by rw[s]; decide)]
  exact⟨⟨.nilFunc,0,#[],by rw[k],rfl,fun A=>M_ (k.symm.trans A) (by first|decide|omega|assumption)⟩,J⟩
 rw[U_]at s;refine lH (abC v.node om) aF (by rw[s])<|Ln<|aX aG<|bS<|aM<|ay<|av (.nilFunc)<|av (au 9)<|aC<|Wr<|sR<|aJ (.tuple #[.nilFunc,au 9]) ?_;have k:kF m v=9:=by unfold kF; rw[b_ (show ¬ iB m v.o v.req=true by unfold iB; rw[qy jL]; decide)]; exact d_ s
 exact⟨⟨.nilFunc,0,#[],by rw[k],rfl,fun A=>M_ (k.symm.trans A) (by first|decide|omega|assumption)⟩,I⟩
theorem ZV(m:dN)(A B:Nat)(w:World)(h:mM w B A m)(v:EvM)(hv:bR v=true)(hwf:gL v) :
 Calls Tryz.prog 210 #[(pt A),.agg (aA 14 (bM v))] w fun e w'=>S9 w B A m (iQ m v) (jH m v) e w':=by
 have hC:=h.c;have hT:=h.t;have hP:=h.p;have hR:=h.r;have hG:=h.g;have hA:=h.a;have hN:=h.ne;have lC:=h.c.lt;have lT:=h.t.lt;have lP:=h.p.lt;have lR:=h.r.lt;have lG:=h.g.lt;have lA:=h.a.lt;obtain⟨a,ha,ho⟩ : ∃ a:Nat,a<6/\v.o=(a:Int)+1:=fq (jg hv);have hra:aN v=a:=by unfold aN; omega
 have ac:=E8 hv hwf;have hvo:1<=v.o/\v.o<=6:=by omega
 refine Kent Tryz.func210 56 ?_;refine ay<|vU (pt A) fun K w1 kQ m1 s1 z1 => ?_;have⟨m2,m4,m5,m6,m7,b1⟩:=oJ s1.old hC hP hR hG hA (Below.refl w.heap.size w);have rF:=gD kQ;have⟨ny,yB,yA,Cg,Aq⟩:=AL kQ hC.lt hP.lt hR.lt hG.lt hA.lt;have sQ:=m1.lt;refine oz fun n w2 yw E s2 z2 => ?_;have⟨m9,m11,m12,m13,m14,m15,b2⟩:=jT s2.old m2 m4 m5 m6 m7 m1 b1;have pO:=iw yw b1.size;have⟨Mr,Gp,Dk,zf,Dl,AV⟩:=JE yw m2.lt m4.lt m5.lt m6.lt m7.lt m1.lt;have yu:=E.lt;refine av (.nilFunc)<|av (au 0)<|aC<|Ws ?_;refine Gs (T1:=117) (T2:=117) (T1':=117) (T2':=117) (a1 := .tmp 6) (v1 := .tmp 16) (a2 := .tmp 7) (v2 := .tmp 21) (m1:=2) (m2:=2) (z1:=fun d=>if d<1 then au 0 else aD 0) (y1:=bB (bB zS0 0 1 (fun _=>au v.o)) 1 1 (fun _=>aD v.req)) (z2:=fun d=>if d<1 then au 0 else aD 0) (y2:=bB (bB zS0 0 1 (fun _=>au v.o)) 1 1 (fun _=>aD v.of)) (u1 := .agg (aA 2 (bB (bB zS0 0 1 (fun _=>au v.o)) 1 1 (fun _=>aD v.req)))) (u2 := .agg (aA 2 (bB (bB zS0 0 1 (fun _=>au v.o)) 1 1 (fun _=>aD v.of)))) 10 11 12 13 [[],[],[],[],[],[],[],[],[],[],[],[],[(0,[10]),(1,[11])],[(0,[10]),(1,[11]),(2,[12])]] [[(2,[0]),(3,[0])],[(2,[1]),(3,[1])],[(2,[2]),(3,[2])],[(2,[3]),(3,[3])],[(2,[4]),(3,[4])],[(3,[5])],[(3,[6])],[(3,[7])],[(3,[8])],[(3,[9])],[(2,[10]),(3,[10])],[(2,[11]),(3,[11])],[(3,[12])],[]] #[(pt n),au v.o,(pf n 12),aD v.req,.agg (aA 2 (bB (bB zS0 0 1 (fun _=>au v.o)) 1 1 (fun _=>aD v.req))),(pt n),au v.o,(pf n 13),aD v.of,.agg (aA 2 (bB (bB zS0 0 1 (fun _=>au v.o)) 1 1 (fun _=>aD v.of))),undef,undef,undef,undef] (by kernel_rfl) (by kernel_rfl) (by kernel_rfl) (by kernel_rfl) (by kernel_rfl) (by kernel_rfl) (by kernel_rfl) (by kernel_rfl) (by kernel_rfl) (by kernel_rfl) rfl rfl (by kernel_rfl) (by kernel_rfl) rfl rfl rfl rfl (by kernel_rfl) (by kernel_rfl) (fun k l=>(show ev _ (.tmp 6)=(pt k)from by kernel_rfl)) (fun k l=>(show ev _ (.tmp 7)=(pt l)from by kernel_rfl)) (fun k l=>(show ev _ (.tmp 16) = .agg (aA 2 (bB (bB zS0 0 1 (fun _=>au v.o)) 1 1 (fun _=>aD v.req)))from by kernel_rfl)) (fun k l=>(show ev _ (.tmp 21) = .agg (aA 2 (bB (bB zS0 0 1 (fun _=>au v.o)) 1 1 (fun _=>aD v.of)))from by kernel_rfl)) (bE _ _) (bE _ _) (bJ (bJ (fun jq _=>by show(zS0 jq).oneCell'=true; simp only[zS0]; repeat (first|rfl|split)) (fun _ _=>rfl)) (fun _ _=>rfl)) (bJ (bJ (fun jq _=>by show(zS0 jq).oneCell'=true; simp only[zS0]; repeat (first|rfl|split)) (fun _ _=>rfl)) (fun _ _=>rfl)) (fun k l => ?_) ?_
 ·refine⟨?_,?_,?_,?_,?_,?_,?_,?_,?_,?_,?_,?_,?_,?_,trivial⟩
  ·exact .inr qV
  ·exact .inr (uH (au v.o) fun G u=>bA (x:=bM v) rfl (show ev _ (.tmp 12)=(pt n)from by kernel_rfl) (by kernel_rfl) (E.aH.below u (by have:=E.lt; omega)) (i:=0) (by omega) (by omega) rfl)
  ·exact .inr qV
  ·exact .inr (uH (aD v.req) fun G u=>bA (x:=bM v) rfl (show ev _ (.tmp 14)=(pf n 12)from by kernel_rfl) (by kernel_rfl) (E.aH.below u (by have:=E.lt; omega)) (i:=12) (by omega) (by omega) rfl)
  ·exact .inr (uH (.agg (aA 2 (bB (bB zS0 0 1 (fun _=>au v.o)) 1 1 (fun _=>aD v.req)))) fun G u=>gy (vs := [(0,au v.o),(1,aD v.req)]) (places := #[(0,1),(1,1)]) (m:=2) (x:=fun d=>if d<1 then au 0 else aD 0) rfl (Fx.NH (show ev _ (.tmp 13)=au v.o from by kernel_rfl) (show ev _ (.tmp 15)=aD v.req from by kernel_rfl)) Tryz.underlying117 (by kernel_rfl) (by kernel_rfl) (by rw[aZ (off:=0) (s:=1) (y:=fun _=>au v.o) (by kernel_rfl) (cells_one (by rfl)) (by rfl)]; rw[aZ (off:=1) (s:=1) (y:=fun _=>aD v.req) (by kernel_rfl) (cells_one (by rfl)) (by rfl)]; rfl))
  ·exact .inr qV
  ·exact .inr (uH (au v.o) fun G u=>bA (x:=bM v) rfl (show ev _ (.tmp 17)=(pt n)from by kernel_rfl) (by kernel_rfl) (E.aH.below u (by have:=E.lt; omega)) (i:=0) (by omega) (by omega) rfl)
  ·exact .inr qV
  ·exact .inr (uH (aD v.of) fun G u=>bA (x:=bM v) rfl (show ev _ (.tmp 19)=(pf n 13)from by kernel_rfl) (by kernel_rfl) (E.aH.below u (by have:=E.lt; omega)) (i:=13) (by omega) (by omega) rfl)
  ·exact .inr (uH (.agg (aA 2 (bB (bB zS0 0 1 (fun _=>au v.o)) 1 1 (fun _=>aD v.of)))) fun G u=>gy (vs := [(0,au v.o),(1,aD v.of)]) (places := #[(0,1),(1,1)]) (m:=2) (x:=fun d=>if d<1 then au 0 else aD 0) rfl (Fx.NH (show ev _ (.tmp 18)=au v.o from by kernel_rfl) (show ev _ (.tmp 20)=aD v.of from by kernel_rfl)) Tryz.underlying117 (by kernel_rfl) (by kernel_rfl) (by rw[aZ (off:=0) (s:=1) (y:=fun _=>au v.o) (by kernel_rfl) (cells_one (by rfl)) (by rfl)]; rw[aZ (off:=1) (s:=1) (y:=fun _=>aD v.of) (by kernel_rfl) (cells_one (by rfl)) (by rfl)]; rfl))
  ·exact .inl rfl
  ·exact .inl rfl
  ·exact .inl rfl
  exact .inl rfl
 rintro k l w3 Z Q H I ne1 m16 m17 hb1;have Wj:A≠k:=u_ (n_ (m9.lt) H);have Xe:m.pb≠k:=u_ (n_ (m11.lt) H);have Xf:m.rb≠k:=u_ (n_ (m12.lt) H);have Xg:m.gb≠k:=u_ (n_ (m13.lt) H);have OM:m.ab≠k:=u_ (n_ (m14.lt) H);have afx:K≠k:=u_ (n_ (m15.lt) H);have Wi:n≠k:=u_ (n_ (E.lt) H);have auJ:A≠l:=u_ (n_ (m9.lt) I);have aqW:m.pb≠l:=u_ (n_ (m11.lt) I);have aqX:m.rb≠l:=u_ (n_ (m12.lt) I);have aqY:m.gb≠l:=u_ (n_ (m13.lt) I);have afy:m.ab≠l:=u_ (n_ (m14.lt) I);have Xh:K≠l:=u_ (n_ (m15.lt) I);have auK:n≠l:=u_ (n_ (E.lt) I);have⟨m18,m20,m21,m22,m23,m24,mZ,b3⟩:=nO hb1 m9 m11 m12 m13 m14 m15 E b2;have H:w.heap.size<=k:=m_ b2.size H;have Hg:=m16.lt;have I:w.heap.size<=l:=m_ b2.size I;have Oh:=m17.lt;have q1:Z 2=(pt K):=by rw[Q]; kernel_rfl
 have q2:Z 3=(pt n):=by rw[Q]; kernel_rfl
 have q5:Z 6=(pt k):=by rw[Q]; kernel_rfl
 have q6:Z 7=(pt l):=by rw[Q]; kernel_rfl
 clear Q;refine sN<|Ws<|Ws ?_;refine kH [0,1,2,3,4,5] [4,0,0,4,4,4] [] fun rE dR iK => ?_;have⟨nQ,og,oh,oD,lI,m32,pE,nR,pF,b4⟩:=vW dR m18 m20 m21 m22 m23 m24 mZ m16 m17 b3;refine Rs (pt A) (aL m32.aH 0 (ha:=q1)) ?_;refine aX (pt A)<|aX (pf A 28)<|Rs (.map (some m.ab)) (aL nQ.aH 28) ?_;refine Rs (.agg (aA 2 (bB (bB zS0 0 1 (fun _=>au v.o)) 1 1 (fun _=>aD v.req)))) (eT nR.aH 0 (ha:=q5)) ?_
 rcases Fx.yP m.ao m.ar m.an v.o v.req with ⟨WK,D9,Ea,ME⟩|jL
 ·refine Rs aG (Fx.La (z := .bool false) rfl rfl ((show ev _ _ = .agg (aA 2 (bB (bB zS0 0 1 (fun _=>au v.o)) 1 1 (fun _=>aD v.req)))from rfl).trans (Fx.Am (y:=bB (bB zS0 0 1 (fun _=>au v.o)) 1 1 (fun _=>aD v.req)) (a:=v.o) (b:=v.req) (Fx.zy (by omega) (Fx.qY (j:=0) (by omega) (by omega) rfl)) (Fx.qY (j:=0) (by omega) (by omega) rfl))) ac.1 lI Tryz.underlying112 H8 (by rfl) D9 Ea ME rfl) ?_;refine bS<|aM<|ay<|av (.nilFunc)<|av (au 14)<|aC<|Wr<|sR<|aJ (.tuple #[.nilFunc,au 14]) ?_;have C:jH m v=14:=by unfold jH; exact d_ (uy D9 Ea ME)
  exact⟨⟨.nilFunc,0,#[],by rw[C],rfl,fun L=>M_ (C.symm.trans L) (by first|decide|omega|assumption)⟩,b4⟩
 refine Rs aF (Fx.K9 (z := .bool false) rfl rfl ((show ev _ _ = .agg (aA 2 (bB (bB zS0 0 1 (fun _=>au v.o)) 1 1 (fun _=>aD v.req)))from rfl).trans (Fx.Am (y:=bB (bB zS0 0 1 (fun _=>au v.o)) 1 1 (fun _=>aD v.req)) (a:=v.o) (b:=v.req) (Fx.zy (by omega) (Fx.qY (j:=0) (by omega) (by omega) rfl)) (Fx.qY (j:=0) (by omega) (by omega) rfl))) ac.1 lI Tryz.underlying112 H8 (by rfl) jL) ?_;refine bS<|aK<|Wk<|sN<|Ws ?_;refine kH [0,1,2,3,4,5,6,7,8,9,10,11] [1,0,0,1,1,1,0,0,0,2,3,0] [(10,0,[0]),(10,3,[3]),(10,4,[4]),(10,5,[5]),(10,9,[9]),(11,9,[9]),(11,10,[10])] fun CJ gJ nZ => ?_;have⟨S,qB,pK,U,mh,V,mH,qg,W,X⟩:=vW gJ nQ og oh oD lI m32 pE nR pF b4;refine Rd (v:=(pt A)) (by rfl) (by rfl) (uG _) (fun G u=>bA (x:=fun _=>(pt A)) rfl q1 (by kernel_rfl) (V.aH.below u (by have:=V.lt; omega)) (i:=0) (by omega) (by omega) rfl) ?_;refine aX (pt A)<|aX (pf A 27)<|Rd (v := .map (some m.gb)) (by rfl) (by rfl) (uG _) (fun G u=>bA (x:=wJ m) rfl rfl (by kernel_rfl) (S.aH.below u (by have:=S.lt; omega)) (i:=27) (by omega) (by omega) rfl) ?_;refine Rd (v := .agg (aA 2 (bB (bB zS0 0 1 (fun _=>au v.o)) 1 1 (fun _=>aD v.of)))) (by rfl) (by rfl) (uG _) (fun G u=>dQ (x:=bB (bB zS0 0 1 (fun _=>au v.o)) 1 1 (fun _=>aD v.of)) (y:=bB (bB zS0 0 1 (fun _=>au v.o)) 1 1 (fun _=>aD v.of)) rfl q6 (by kernel_rfl) (by kernel_rfl) (W.aH.below u (by have:=W.lt; omega)) (i:=0) (by omega) (by omega) (fun j _=>by rw[G_])) ?_
 rcases Fx.yP (fun i=>m.g i 0) (fun i=>m.g i 1) m.gn v.o v.of with ⟨f,P,M,N⟩|abS
 ·refine Rd (v := .tuple #[.agg (aA 5 (jc (m.g f))),.bool true]) (by rfl) (by rfl) (uG _) (fun G u=>Fx.Rf (z := .agg (aA 5 zR0)) rfl rfl ((show ev _ _ = .agg (aA 2 (bB (bB zS0 0 1 (fun _=>au v.o)) 1 1 (fun _=>aD v.of)))from rfl).trans (Fx.Am (y:=bB (bB zS0 0 1 (fun _=>au v.o)) 1 1 (fun _=>aD v.of)) (a:=v.o) (b:=v.of) (Fx.zy (by omega) (Fx.qY (j:=0) (by omega) (by omega) rfl)) (Fx.qY (j:=0) (by omega) (by omega) rfl))) ac.2 (U.up u) Tryz.underlying111 H8 (by kernel_rfl) P M N rfl) ?_;refine aX (.tuple #[.agg (aA 5 (jc (m.g f))),.bool true])<|aX (.agg (aA 5 (jc (m.g f))))<|aX aG<|zD<|qR 5 zR0 fun D w4 eg5 om s6 z3 => ?_;have⟨rW,uD,qX,vJ,uZ,uE,wm,wo,tQ,b6⟩:=vW s6.old S qB pK U mh V mH qg W X;have lg5:=iw eg5 X.size;have⟨aqZ,ara,arb,ard,arf,arh,ari,arj,ark⟩:=YF eg5 S.lt qB.lt pK.lt U.lt mh.lt V.lt mH.lt qg.lt W.lt;have tg5:=om.lt;refine Ln ⟨s6.old,?_⟩;refine gZ<|dU om 0 (h1:=(fun j hj=>by rcases j with _|_|_|_|_|_|_|_|_|_|_|_|_|_|j <;> first|rfl|omega)) fun w5 tT s7 z4 => ?_
  have uF:aP w5 D 5 (jc (m.g f)) 106:=aQ tT;have ad:aP w5 D 5 (jc (m.g f)) 106:=uF;have fV:=gH s7 om.ty;have⟨rG,pz,uI,m64,xw,wN,vL,xA,tV⟩:=acR fV rW uD qX vJ uZ uE wm wo tQ;have b7:=s7.below b6 b6.size (by omega);refine Ln<|aX aG<|bS<|Ws<|ay<|av aG<|av aF<|av aF<|av (pf D 4)<|Lv (aD ((m.g f) 4)) (aL ad.aH 4) ?_;by_cases Uk:((m.g f) 4)=0
  ·refine Lv aF (jG Uk)<|av aF<|aC<|aK<|Wk<|sN<|ay<|Lv (pt A) (aL wN.aH 0 (ha:=q1))<|av (pf D 2)<|Lv (aD ((m.g f) 2)) (aL ad.aH 2)<|Lv (.func (.func 223) #[] #[(pt n),(pt D)]) (Fx.lJ (us := []) (vs := [(pt n),(pt D)]) rfl rfl (Fx.args2 q2 rfl))<|lD (WZ m A B _ (h.up b7) ((m.g f) 2) v (m.g f) hvo n D vL ad) ?_;rintro e9 w6 ⟨⟨aa,fi1,Rj,he,ho1,hD1⟩,F⟩;refine⟨_,he,?_⟩;clear he;have⟨vM,vN,vO,zI,wO,yI,yJ,yK,yt,xB,b8⟩:=Fz F rG pz uI m64 xw wN vL xA tV ad b7;have bw1:Bw w6 w6:=⟨Below.refl _ _⟩;refine av (.tuple #[aa,au (dF m (fun x=>bH x v.o (m.g f 3)) (m.T.path ((m.g f) 2)))])<|av (aa)<|av (au (dF m (fun x=>bH x v.o (m.g f 3)) (m.T.path ((m.g f) 2))))<|qR 1 (fun _ => .nilFunc) fun O w7 eg6 xC s9 z5 => ?_;have⟨AQ,AU,BJ,FL,Es,CU,b9⟩:=jT s9.old yI yJ yK yt xB bw1 b8;have lg6:=iw eg6 b8.size;have⟨arl,arn,aro,arp,arq,ars,aru,arv,arw,arx⟩:=abm eg6 vM.lt vN.lt vO.lt zI.lt wO.lt yI.lt yJ.lt yK.lt yt.lt xB.lt;have tg6:=xC.lt;have kg6:w6.heap.size<=O:=(by rw[eg6]; exact bw1.b.size);refine ji xC 0 aa (h1:=ho1) fun w8 DX s10 z6 => ?_;have AY:aP w8 O 1 (fun _=>aa) 123:=dD DX;have jr:=gH s10 xC.ty;have⟨xM,vg,qF,ql,rJ⟩:=rD jr AQ AU BJ FL Es;have qG:=(⟨s10.below CU.b CU.b.size kg6⟩:Bw w6 _);have b10:=s10.below b9 b9.size (by omega);refine av (au (dF m (fun x=>bH x v.o (m.g f 3)) (m.T.path ((m.g f) 2))))<|aC<|Ws<|ay<|av (au (dF m (fun x=>bH x v.o (m.g f 3)) (m.T.path ((m.g f) 2)))) ?_;by_cases Y:(dF m (fun x=>bH x v.o (m.g f 3)) (m.T.path ((m.g f) 2)))=0
   ·refine Lv aF (jG Y)<|aC<|aK<|Wk<|sN<|ay<|Lv (.func (.func 225) #[] #[(pt O),(pt K),(pt k),(pt n),(pt D),(pt l)]) (Fx.lJ (us := []) (vs := [(pt O),(pt K),(pt k),(pt n),(pt D),(pt l)]) rfl rfl (Fx.ajn rfl q1 q5 q2 rfl q6))<|av (.func (.func 225) #[] #[(pt O),(pt K),(pt k),(pt n),(pt D),(pt l)])<|av (au 0)<|aC<|Wr<|aJ (.tuple #[.func (.func 225) #[] #[(pt O),(pt K),(pt k),(pt n),(pt D),(pt l)],au 0]) ?_;have J:fF m v.o v.of=f:=zQ h.g.inj P M N;have hD0:=hD1 Y;have hfe:=hD0.e;subst hfe;have em:iQ m v=QC m (rP m (fun x=>bH x v.o (m.g f 3)) (m.T.path (m.g f 2))).R v f:=(by unfold iQ Xd; rw[J]);rw[em];have C:jH m v=0:=by unfold jH; rw[b_ (show ¬ iB m v.o v.req=true by unfold iB; rw[qy jL]; decide)]; rw[b_ (show ¬ (iW m v.o v.of=false\/m.g (fF m v.o v.of) 4≠0) by rw[J,show iW m v.o v.of=true from uy P M N]; rintro (q|q) <;> first|(exact M_ q (by decide))|omega),J]; exact Y
    exact⟨⟨_,225,#[(pt O),(pt K),(pt k),(pt n),(pt D),(pt l)],by rw[C],rfl,fun _=>⟨rfl,⟨_,_,Tryz.func225,rfl,rfl⟩,fun w2 F=>(Xb m A B w2 ((h.up b10).up F) v hv hwf _ w5.heap.size w.heap.size _ (by omega) _ (hD0.up (Nn qG.b F)) f _ _ _ _ _ _ (AY.cZ (Sb F) (u_ AY.lt)) (xM.cZ (Sb F) (u_ xM.lt)) (qF.cZ (Sb F) (u_ qF.lt)) (vg.cZ (Sb F) (u_ vg.lt)) (rJ.cZ (Sb F) (u_ rJ.lt)) (ql.cZ (Sb F) (u_ ql.lt)) lg5 ⟨by omega,by omega,by omega,by omega,by omega⟩ jL P M N).mono fun _ _ hc=>⟨hc.1,hc.2.1,hc.2.2.mono fun _ hk=>hk⟩⟩⟩,b10⟩
   refine Lv aG (mG Y)<|aC<|aM<|ay<|av (au (dF m (fun x=>bH x v.o (m.g f 3)) (m.T.path ((m.g f) 2))))<|av (.nilFunc)<|av (au (dF m (fun x=>bH x v.o (m.g f 3)) (m.T.path ((m.g f) 2))))<|aC<|Wr<|sR<|aJ (.tuple #[.nilFunc,au (dF m (fun x=>bH x v.o (m.g f 3)) (m.T.path ((m.g f) 2)))]) ?_;have J:fF m v.o v.of=f:=zQ h.g.inj P M N;have C:jH m v=dF m (fun x=>bH x v.o (m.g f 3)) (m.T.path ((m.g f) 2)):=by unfold jH; rw[b_ (show ¬ iB m v.o v.req=true by unfold iB; rw[qy jL]; decide)]; rw[b_ (show ¬ (iW m v.o v.of=false\/m.g (fF m v.o v.of) 4≠0) by rw[J,show iW m v.o v.of=true from uy P M N]; rintro (q|q) <;> first|(exact M_ q (by decide))|omega),J]
   exact⟨⟨.nilFunc,0,#[],by rw[C],rfl,fun L=>M_ (C.symm.trans L) (by first|decide|omega|assumption)⟩,b10⟩
  refine Lv aG (mG Uk)<|av aG<|aC<|aM<|ay<|av (.nilFunc)<|av (au 12)<|aC<|Wr<|sR<|aJ (.tuple #[.nilFunc,au 12]) ?_;have J:fF m v.o v.of=f:=zQ h.g.inj P M N;have C:jH m v=12:=by unfold jH; rw[b_ (show ¬ iB m v.o v.req=true by unfold iB; rw[qy jL]; decide)]; exact d_ (.inr (by rw[J]; omega))
  exact⟨⟨.nilFunc,0,#[],by rw[C],rfl,fun L=>M_ (C.symm.trans L) (by first|decide|omega|assumption)⟩,b7⟩
 refine Rd (v := .tuple #[.agg (aA 5 zR0),.bool false]) (by rfl) (by rfl) (uG _) (fun G u=>Fx.Rc (z := .agg (aA 5 zR0)) rfl rfl ((show ev _ _ = .agg (aA 2 (bB (bB zS0 0 1 (fun _=>au v.o)) 1 1 (fun _=>aD v.of)))from rfl).trans (Fx.Am (y:=bB (bB zS0 0 1 (fun _=>au v.o)) 1 1 (fun _=>aD v.of)) (a:=v.o) (b:=v.of) (Fx.zy (by omega) (Fx.qY (j:=0) (by omega) (by omega) rfl)) (Fx.qY (j:=0) (by omega) (by omega) rfl))) ac.2 (U.up u) Tryz.underlying111 H8 (by kernel_rfl) abS) ?_;refine aX (.tuple #[.agg (aA 5 zR0),.bool false])<|aX (.agg (aA 5 zR0))<|aX aF<|zD<|qR 5 zR0 fun g7 w9 eg7 sI s11 z7 => ?_;have b11:=bf s11.old X;have lg7:=iw eg7 X.size;have⟨alI,alJ,alK,alL,alM,alN,alO,alP,alQ⟩:=YF eg7 S.lt qB.lt pK.lt U.lt mh.lt V.lt mH.lt qg.lt W.lt;have tg7:=sI.lt;refine Ln ⟨s11.old,?_⟩;refine gZ<|dU sI 0 (h1:=(fun j hj=>by rcases j with _|_|_|_|_|_|_|_|_|_|_|_|_|_|j <;> first|rfl|omega)) fun pJ rM s12 z8 => ?_
 have yX:aP pJ g7 5 zR0 106:=aQ rM;have b12:=s12.below b11 b11.size (by omega);refine Ln<|aX aF<|bS<|Ws<|ay<|av aF<|av aG<|av aG<|bO<|bO<|bO<|av aG<|aC<|aM<|ay<|av (.nilFunc)<|av (au 12)<|aC<|Wr<|sR<|aJ (.tuple #[.nilFunc,au 12]) ?_;have C:jH m v=12:=by unfold jH; rw[b_ (show ¬ iB m v.o v.req=true by unfold iB; rw[qy jL]; decide)]; exact d_ (.inl (qy abS))
 exact⟨⟨.nilFunc,0,#[],by rw[C],rfl,fun L=>M_ (C.symm.trans L) (by first|decide|omega|assumption)⟩,b12⟩
namespace Rt
noncomputable def je(m:dN)(v:EvM):dN:=if v.kind=1 then Eb m v else if v.kind=2 then vG m v else if v.kind=3 then kZ m v else if v.kind=4 then iQ m v else if v.kind=5 then D8 m v else if v.kind=6 then I8 m v else Dj m v
def fM(m:dN)(v:EvM):Int:=if v.kind=1 then jw m v else if v.kind=2 then jR m v else if v.kind=3 then kF m v else if v.kind=4 then jH m v else if v.kind=5 then kY m v else if v.kind=6 then 0 else 0
def cK(m:dN)(v:EvM):Int:=if bR v=false then 1 else if lQ m.known v=true then 14 else if dJ m.known v=false then 13 else if m.inn (aN v)=false\/m.left (aN v)=true then 10 else fM m v
structure QlK(m:dN):Prop where
 own : ∀ a,a<6->0<=m.own a/\m.own a<=1000
 row : ∀ i,i<m.T.n -> ∀ p,p<54->0<=m.R i p/\m.R i p<=1125899906842624
 ga:Sk m
 kn:BL m.known
def kfn(k:Nat):Nat:=if k=1 then 207 else if k=2 then 208 else if k=3 then 209 else if k=4 then 210 else if k=5 then 211 else if k=6 then 212 else 213
def Cj:Nat->Value:=fun p=>if p=0 then .nilFunc else .func (.func (kfn p)) #[] #[]
theorem ZW{p:Nat}(h:1<=p):Cj p = .func (.func (kfn p)) #[] #[]:=b_ (by omega)
end Rt
theorem ajs {k : Nat} (h1 : 1 ≤ k) (b : k ≤ 7) : ∃ a c, Tryz.prog.funcs[kfn k]? = some a ∧ (a.name == "runtime.NumGoroutine") = false ∧ a.body = some c := by
 rcases(show k=1\/k=2\/k=3\/k=4\/k=5\/k=6\/k=7 by omega)with rfl|rfl|rfl|rfl|rfl|rfl|rfl
 ·exact⟨_,_,Tryz.func207,rfl,rfl⟩
 ·exact⟨_,_,Tryz.func208,rfl,rfl⟩
 ·exact⟨_,_,Tryz.func209,rfl,rfl⟩
 ·exact⟨_,_,Tryz.func210,rfl,rfl⟩
 ·exact⟨_,_,Tryz.func211,rfl,rfl⟩
 ·exact⟨_,_,Tryz.func212,rfl,rfl⟩
 exact⟨_,_,Tryz.func213,rfl,rfl⟩
theorem V4.low{w:World}{B f b c d:Nat}{m g:dN}{e:Value}{cap:Array Value}(h:V4 w B f m g b e d cap)(i:c<=b):V4 w B f m g c e d cap := { h with s:=fun n j=>(h.s n j).mono fun _ _ a=>⟨a.1,a.2.1,a.2.2.mono fun k l=>l.imp id (m_ i)⟩ }
theorem ZX(m:dN)(a B:Nat)(w:World)(h:mM w B a m)(v:EvM)(d:bR v=true)(f:gL v)(e:QlK m)(k:Nat)(l:v.kind=(k:Int))(j:1<=k/\k<=7) :
 Calls Tryz.prog (kfn k) #[(pt a),.agg (aA 14 (bM v))] w (S9 w B a m (je m v) (fM m v)):=by
 rcases(show k=1\/k=2\/k=3\/k=4\/k=5\/k=6\/k=7 by omega)with rfl|rfl|rfl|rfl|rfl|rfl|rfl
 ·have c:v.kind=1:=by omega
  rw[show je m v=Eb m v by unfold je; rw[d_ (by omega)],show fM m v=jw m v by unfold fM; rw[d_ (by omega)]];exact ZQ m a B w h v d e.own
 ·have c:v.kind=2:=by omega
  rw[show je m v=vG m v by unfold je; rw[b_ (by omega),d_ (by omega)],show fM m v=jR m v by unfold fM; rw[b_ (by omega),d_ (by omega)]];exact Wu m a B w h v d c e.row
 ·have c:v.kind=3:=by omega
  rw[show je m v=kZ m v by unfold je; rw[b_ (by omega),b_ (by omega),d_ (by omega)],show fM m v=kF m v by unfold fM; rw[b_ (by omega),b_ (by omega),d_ (by omega)]];exact ZU m a B w h v d f e.ga
 ·have c:v.kind=4:=by omega
  rw[show je m v=iQ m v by unfold je; rw[b_ (by omega),b_ (by omega),b_ (by omega),d_ (by omega)],show fM m v=jH m v by unfold fM; rw[b_ (by omega),b_ (by omega),b_ (by omega),d_ (by omega)]];exact ZV m a B w h v d f
 ·have c:v.kind=5:=by omega
  rw[show je m v=D8 m v by unfold je; rw[b_ (by omega),b_ (by omega),b_ (by omega),b_ (by omega),d_ (by omega)],show fM m v=kY m v by unfold fM; rw[b_ (by omega),b_ (by omega),b_ (by omega),b_ (by omega),d_ (by omega)]];exact ZF m a B w h v d c
 ·have c:v.kind=6:=by omega
  rw[show je m v=I8 m v by unfold je; rw[b_ (by omega),b_ (by omega),b_ (by omega),b_ (by omega),b_ (by omega),d_ (by omega)],show fM m v=0 by unfold fM; rw[b_ (by omega),b_ (by omega),b_ (by omega),b_ (by omega),b_ (by omega),d_ (by omega)]];obtain⟨b,g,i⟩:=IU d c;exact ZG m a B w h v d b g i
 have c:v.kind=7:=by omega
 rw[show je m v=Dj m v by unfold je; rw[b_ (by omega),b_ (by omega),b_ (by omega),b_ (by omega),b_ (by omega),b_ (by omega)],show fM m v=0 by unfold fM; rw[b_ (by omega),b_ (by omega),b_ (by omega),b_ (by omega),b_ (by omega),b_ (by omega)]];exact Wy m a B w h v d
theorem QD(m:dN)(b B:Nat)(w:World)(h:mM w B b m)(v:EvM)(n:gL v)(R:QlK m)(hB:1<=B)(N:iU w 0 0 8 Cj) :
 Calls Tryz.prog 52 #[(pt b),.agg (aA 14 (bM v))] w fun e w'=>S9 w B b m (je m v) (cK m v) e w':=by
 have M:=h.c;have hT:=h.t;have hP:=h.p;have hR:=h.r;have hG:=h.g;have hA:=h.a;have hN:=h.ne;have lC:=h.c.lt;have lT:=h.t.lt;have lP:=h.p.lt;have lR:=h.r.lt;have lG:=h.g.lt;have lA:=h.a.lt;obtain⟨s,Q⟩ : ∃ s:Nat,v.kind=(s:Int):=⟨v.kind.toNat,by have:=n.kind; omega⟩;have O:Kr m.known:=fun i hi=>by have:=R.kn i hi; exact⟨by omega,by omega⟩
 refine Kent Tryz.func52 55 ?_;refine ay<|oz fun y w1 A F s1 z1 => ?_;have⟨m2,m8,H⟩:=iy s1.old M N (Below.refl w.heap.size w);have rF:=gD A;have⟨ny,yB,yA,Cg,Aq⟩:=AL A M.lt hP.lt hR.lt hG.lt hA.lt;have LJ:0≠y:=by rw[A]; exact u_ (N.lt (by omega))
 have sQ:=F.lt;refine av (.nilFunc)<|av (au 0)<|aC<|Ws<|Wb<|ay<|av (pt b)<|Lv aF (Fx.oH rfl rfl rfl (by kernel_rfl))<|av aF<|aC<|aK<|ay<|Lv (.agg (aA 14 (bM v))) (eT F.aH 0) ?_;by_cases k:(bR v)=true
 ·have D:bR v=true:=k;obtain⟨a,ha,ho⟩ : ∃ a:Nat,a<6/\v.o=(a:Int)+1:=fq (jg D);have E:aN v=a:=by unfold aN; omega
  have hkr:=jC D;refine dH (I6 v _ n) aG (by rw[k]) ?_;intro w2 hb1;have⟨m9,m15,m16,b2⟩:=jN hb1 m2 m8 F H;refine av aF<|av aF<|aC<|aK<|Ws ?_;refine kH [0,1,2,3,4,5,6] [0,0,0,4,4,3,0] [(5,3,[3]),(5,4,[4]),(6,5,[5])] fun rE dR iK => ?_;have⟨S,m23,T,I⟩:=jN dR m9 m15 m16 b2;refine aX (pt b)<|aX (pt b)<|aX (pf b 12)<|Rs (.agg (aA 6 (rv .u64 m.known))) (eT S.aH 12 (fun j hj=>sZ (p:=j) (by omega) (by omega))) ?_;refine Rs (.agg (aA 14 (bM v))) (eT T.aH 0) ?_;refine gZ ?_;by_cases l:(lQ m.known v)=true
  ·refine dH (Wn m.known v _ n) aG (by rw[l]) ?_;intro w3 hb2;have b4:=bf hb2 I;refine Ln<|aX aG<|bS<|aM<|ay<|av (.nilFunc)<|av (au 14)<|aC<|Wr<|bL<|sR<|aJ (.tuple #[.nilFunc,au 14]) ?_;have d:cK m v=14:=(by unfold cK; rw[b_ (by rw[k]; decide)]; exact d_ l);exact⟨⟨.nilFunc,0,#[],by rw[d],rfl,fun f=>M_ (d.symm.trans f) (by first|decide|omega|assumption)⟩,b4⟩
  rw[U_]at l;refine dH (Wn m.known v _ n) aF (by rw[l]) ?_;intro w4 hb3;have⟨pE,pK,sS,b5⟩:=jN hb3 S m23 T I;refine Ln<|aX aF<|bS<|aK<|Ws ?_;refine kH [0,1,2,3,4,5,6,7] [0,0,0,4,4,3,0,0] [(5,3,[3]),(5,4,[4]),(6,5,[5]),(7,5,[5])] fun CJ gJ nZ => ?_;have⟨U,rW,V,J⟩:=jN gJ pE pK sS b5;refine aX (pt b)<|aX (pt b)<|aX (pf b 12)<|Rs (.agg (aA 6 (rv .u64 m.known))) (eT U.aH 12 (fun j hj=>sZ (p:=j) (by omega) (by omega))) ?_;refine Rs (.agg (aA 14 (bM v))) (eT V.aH 0) ?_;refine gZ ?_;by_cases q:(dJ m.known v)=true
  ·refine dH (Qq m.known v _ n O) aG (by rw[q]) ?_;intro w5 hb4;have⟨uD,wo,tQ,b7⟩:=jN hb4 U rW V J;refine Ln<|aX aF<|aX aF<|bS<|aK<|Ws<|Ws ?_;refine kH [0,1,4,5,2,3,6,7,8,9] [0,0,4,0,0,0,0,4,0,0] [] fun SS mQ BG => ?_;have⟨G,uI,W,K⟩:=jN mQ uD wo tQ b7;refine aX (pt b)<|aX (pt y)<|aX (pt b)<|aX (pt b)<|Rs (au v.o) (aL W.aH 0) ?_;refine Rp (au a) (fun _=>gQ)<|Rp (pf b a) (fun _=>jJ 6 1) ?_;by_cases u:(m.inn a)=true
   ·refine Rs aG (aL G.aH a ((Dh (by omega)).trans (L_ Value.bool u))) ?_;refine aX aF<|aX aF<|bS<|aK ?_;refine kH [0,1,4,5,2,3,6,7,8] [0,0,4,0,0,0,0,4,0] [] fun wt4 rU Iy => ?_;have⟨X,uP,Y,L⟩:=jN rU G uI W K;refine aX (pt b)<|aX (pt y)<|aX (pt b)<|aX (pf b 6)<|Rs (au v.o) (aL Y.aH 0) ?_;refine Rp (au a) (fun _=>gQ)<|Rp (pf b (a+6)) (fun _=>jJ 6 1) ?_;by_cases x:(m.left a)=true
    ·refine Rs aG (aL X.aH (a+6) ((Cc (p:=a) (by omega) (by omega)).trans (L_ Value.bool x))) ?_;refine aX aG<|bS<|aM<|ay<|av (.nilFunc)<|av (au 10)<|aC<|Wr<|bL<|sR<|aJ (.tuple #[.nilFunc,au 10]) ?_;have d:cK m v=10:=(by unfold cK; rw[b_ (by rw[k]; decide)]; rw[b_ (by rw[l]; decide)]; rw[b_ (by rw[q]; decide)]; exact d_ (.inr (by rw[E]; exact x)));exact⟨⟨.nilFunc,0,#[],by rw[d],rfl,fun f=>M_ (d.symm.trans f) (by first|decide|omega|assumption)⟩,L⟩
    rw[U_]at x;refine Rs aF (aL X.aH (a+6) ((Cc (p:=a) (by omega) (by omega)).trans (L_ Value.bool x))) ?_;refine aX aF<|bS<|aK<|Wk<|bP<|sN<|Ws ?_;refine kH [0,4,1,2,3,5,6,7,8,9,10] [0,4,0,4,0,4,3,0,0,0,0] [(6,1,[3,2,1]),(6,3,[3]),(6,5,[5]),(7,6,[6]),(8,6,[6]),(9,6,[6]),(10,6,[6])] fun wt5 Ao Un => ?_;have⟨yt,Z,z⟩:=iy Ao uP Y L;refine aX (pf y 8)<|aX (pt b)<|Rs (.int .u8 (s:Int)) (aL Z.aH 8 (L_ (Value.int IntKind.u8) Q)) ?_;refine Rp (pf 0 s) (fun _=>jJ 8 1)<|Rs (.func (.func (kfn s)) #[] #[]) (aL yt s (ZW (by omega))) ?_;refine Rs (.agg (aA 14 (bM v))) (eT Z.aH 0) ?_;refine gZ<|zx (by rfl) (Fx.Qm (args := [(pt b),.agg (aA 14 (bM v))]) rfl rfl rfl (by rfl) (ajs (by omega) (by omega))) rfl<|(ZX m b B _ (h.up z) v D n R s Q (by omega)).mono ?_;rintro e9 w6 ⟨⟨C,fi1,Rj,P,ho1,hD1⟩,hb5⟩;refine⟨_,P,?_⟩;clear P;have aa:=bf hb5 z;refine Ln<|aX (C)<|aX (au (fM m v))<|aX (C)<|aX (au (fM m v))<|bS<|Wr<|aJ (.tuple #[C,au (fM m v)]) ?_;have d:cK m v=fM m v:=(by unfold cK; rw[b_ (by rw[k]; decide)]; rw[b_ (by rw[l]; decide)]; rw[b_ (by rw[q]; decide)]; exact b_ (by rw[E,u,x]; decide));exact⟨⟨_,_,_,by rw[d],ho1,fun f=>(hD1 (d.symm.trans f)).low z.size⟩,aa⟩
   rw[U_]at u;refine Rs aF (aL G.aH a ((Dh (by omega)).trans (L_ Value.bool u))) ?_;refine aX aG<|aX aG<|bS<|aM<|Wk<|sN<|aM<|ay<|av (.nilFunc)<|av (au 10)<|aC<|Wr<|bL<|sR<|aJ (.tuple #[.nilFunc,au 10]) ?_;have d:cK m v=10:=(by unfold cK; rw[b_ (by rw[k]; decide)]; rw[b_ (by rw[l]; decide)]; rw[b_ (by rw[q]; decide)]; exact d_ (.inl (by rw[E]; exact u)));exact⟨⟨.nilFunc,0,#[],by rw[d],rfl,fun f=>M_ (d.symm.trans f) (by first|decide|omega|assumption)⟩,K⟩
  rw[U_]at q;refine dH (Qq m.known v _ n O) aF (by rw[q]) ?_;intro w7 hb6;have ab:=bf hb6 J;refine Ln<|aX aG<|aX aG<|bS<|aM<|ay<|av (.nilFunc)<|av (au 13)<|aC<|Wr<|bL<|sR<|aJ (.tuple #[.nilFunc,au 13]) ?_;have d:cK m v=13:=by unfold cK; rw[b_ (by rw[k]; decide)]; rw[b_ (by rw[l]; decide)]; exact d_ q
  exact⟨⟨.nilFunc,0,#[],by rw[d],rfl,fun f=>M_ (d.symm.trans f) (by first|decide|omega|assumption)⟩,ab⟩
 rw[U_]at k;refine dH (I6 v _ n) aF (by rw[k]) ?_;intro w8 hb7;have ac:=bf hb7 H;refine av aG<|av aG<|aC<|aM<|ay<|av (.nilFunc)<|av (au 1)<|aC<|Wr<|bL<|sR<|aJ (.tuple #[.nilFunc,au 1]) ?_;have d:cK m v=1:=by unfold cK; exact d_ k
 exact⟨⟨.nilFunc,0,#[],by rw[d],rfl,fun f=>M_ (d.symm.trans f) (by first|decide|omega|assumption)⟩,ac⟩
namespace Rt
noncomputable def jY(m:dN)(v:EvM):dN:=if cK m v=0 then { je m v with known:=aI (je m v).known (aN v) ((je m v).known (aN v)+1) } else m
theorem MF(m:dN)(v:EvM):(je m v).known=m.known:=by
 unfold je
 repeat (first|rfl|split)
def Gw:Nat->Int:=fun _=>0
def aY(m:dN)(k:Int):Nat->Int:=if m.T.has k=true then EC m k else Gw
end Rt
theorem mM.known{w w':World}{B d:Nat}{m:dN}{K:Nat->Int}(h:mM w B d m)(f:Stp d w w')(e:aP w' d 29 (wJ { m with known:=K }) 114):mM w' B d { m with known:=K }:=by
 have b:=gH f h.c.ty;exact { c:=e,t:=h.t.lu b (by decide),p:=h.p.lu b trivial,r:=h.r.lu b trivial,g:=h.g.lu b trivial,a:=h.a.lu b trivial,ne:=⟨h.ne.mp,h.ne.mr,h.ne.mg,h.ne.ma,h.ne.pr,h.ne.pg,h.ne.pa,h.ne.rg,h.ne.ra,h.ne.ga⟩,lB:=h.lB,pB:=h.pB,rB:=h.rB,gB:=h.gB,aB:=h.aB }
theorem qK{m:dN}{v:EvM}(h:cK m v=0):bR v=true:=by
 cases hc:bR v with
 | true=>rfl
 | false=>unfold cK at h; rw[d_ hc]at h; cases h
theorem qL{m:dN}{v:EvM}(h:cK m v=0):v.seq=m.known (aN v)+1/\fM m v=0/\m.inn (aN v)=true/\m.left (aN v)=false:=by
 have d:=qK h;unfold cK at h;rw[b_ (by rw[d]; decide)]at h;by_cases c:lQ m.known v=true
 ·rw[d_ c]at h; cases h
 rw[b_ c]at h;by_cases a:dJ m.known v=false
 ·rw[d_ a]at h; cases h
 rw[b_ a]at h;by_cases b:m.inn (aN v)=false\/m.left (aN v)=true
 ·rw[d_ b]at h; cases h
 rw[b_ b]at h;refine⟨?_,h,?_,?_⟩
 ·have a:dJ m.known v=true:=by cases e:dJ m.known v with|true=>rfl|false=>exact M_ e a
  unfold dJ at a;simp only[T_,Q_]at a;exact a.1.2
 ·cases e:m.inn (aN v)with|true=>rfl|false=>exact M_ (.inl e) b
 cases e:m.left (aN v)with|false=>rfl|true=>exact M_ (.inr e) b
theorem arz(m:dN)(b B:Nat)(w:World)(h:mM w B b m)(v:EvM)(D:gL v)(C:QlK m)(s:1<=B)(j:iU w 0 0 8 Cj) :
 Calls Tryz.prog 19 #[(pt b),.agg (aA 14 (bM v))] w fun e G=>e = .returned (au (cK m v))/\Below w.heap.size w G:=by
 have u:=h.c;have M:=h.t;have y:=h.p;have z:=h.r;have x:=h.g;have q:=h.a;have L:=h.ne;have P:=h.c.lt;have T:=h.t.lt;have R:=h.p.lt;have S:=h.r.lt;have Q:=h.g.lt;have O:=h.a.lt;refine Kent Tryz.func19 14 ?_;refine ay<|oz fun o w1 d l F z1 => ?_;have⟨E,i⟩:=eU F.old j (Below.refl w.heap.size w);have U:=gD d;have⟨V,W,X,Y,Z⟩:=AL d u.lt y.lt z.lt x.lt q.lt;have aa:0≠o:=by rw[d]; exact u_ (j.lt (by omega))
 have ab:=l.lt;refine av (au 0)<|aC<|ay<|av (pt b)<|Lv (.agg (aA 14 (bM v))) (eT l.aH 0)<|lD (QD m b B _ (h.up i) v D C s E) ?_;rintro I w2 ⟨⟨f,J,H,k,N,K⟩,A⟩;refine⟨_,k,?_⟩;clear k;have n:=bf A i;refine av (.tuple #[f,au (cK m v)])<|av (f)<|av (au (cK m v))<|av (f)<|av (au (cK m v))<|aC<|ay<|av (au (cK m v))<|av (au (cK m v))<|aC<|Wr<|aJ (au (cK m v)) ?_;exact⟨rfl,n⟩
theorem ZY(m:dN)(b B:Nat)(w:World)(h:mM w B b m)(v:EvM)(hwf:gL v)(M:QlK m)(hB:1<=B)(I:iU w 0 0 8 Cj) :
 Calls Tryz.prog 20 #[(pt b),.agg (aA 14 (bM v))] w fun e S=>e = .returned (au (cK m v))/\mM S B b (jY m v)/\jM (R8 m b w.heap.size) w S:=by
 have F:=h.c;have hT:=h.t;have hP:=h.p;have hR:=h.r;have hG:=h.g;have Z:=h.a;have hN:=h.ne;have lC:=h.c.lt;have lT:=h.t.lt;have lP:=h.p.lt;have lR:=h.r.lt;have lG:=h.g.lt;have lA:=h.a.lt;refine Kent Tryz.func20 30 ?_;refine ay<|oz fun E w1 x D s1 z1 => ?_;have⟨d,m8,l⟩:=iy s1.old F I (Below.refl w.heap.size w);have rF:=gD x;have⟨ny,yB,yA,Cg,Aq⟩:=AL x F.lt hP.lt hR.lt hG.lt Z.lt;have LJ:0≠E:=by rw[x]; exact u_ (I.lt (by omega))
 have sQ:=D.lt;refine av (au 0)<|aC<|ay<|av (pt b)<|Lv (.agg (aA 14 (bM v))) (eT D.aH 0)<|lD (QD m b B _ (h.up l) v hwf M hB m8) ?_;rintro W w2 ⟨⟨z,Y,V,j,ho1,hD1⟩,hb1⟩;refine⟨_,j,?_⟩;clear j;have⟨O,n⟩:=eU hb1 D l;refine av (.tuple #[z,au (cK m v)])<|av (z)<|av (au (cK m v))<|av (z)<|av (au (cK m v))<|aC<|Ws<|ay<|av (au (cK m v)) ?_;by_cases i:(cK m v)=0
 ·refine Lv aF (jG i)<|aC<|aK<|Wk<|sN<|Ws ?_;have A:=hD1 i;have hfe:=A.e;subst hfe;refine Wl<|av (.func (.func Y) #[] V)<|zx (by rfl) (Fx.Qm (args := []) rfl rfl rfl (by simp) A.f) rfl<|(A.s _ (Below.refl _ _)).mono ?_;rintro W u ⟨j,C,G⟩;refine⟨_,j,?_⟩;clear j;have J:jM (R8 m b w.heap.size) w u:=(Fx.jM.of_below n) |> fun q=>Fx.jM.trans _ _ _ q (G.mono fun k hk=>hk.imp id (m_ l.size));obtain⟨d,y⟩ : ∃ q,q=je m v:=⟨_,rfl⟩;rw[<- y]at C;have X:d.known=m.known:=by rw[y,MF]
  have H:=C.c;have lC2:=H.lt;have hkb:=(qL i).1;have N:=qK i;obtain⟨a,K,ho⟩ : ∃ a:Nat,a<6/\v.o=(a:Int)+1:=fq (jg N);have hra:aN v=a:=by unfold aN; omega
  have hbd:=oP N;have hka:=M.kn a K;have P:=(h.up n).J8 (w':=u) (O) (by decide) G (by have:=O.lt; have:=l.size; omega);have ays:=P.lt;refine aC<|Ws ?_;refine kH [0,1,4,5,9,10,2,3,6,7,8,11,12] [0,0,4,0,0,0,0,4,0,0,0,0,3] [(12,2,[2]),(12,7,[7])] fun rE L iK => ?_;have s3:Stp u.heap.size u rE:=Sb L;have⟨Q,m19,m20⟩:=iy L H C P;have T:=J.then s3 (.inr J.size);refine aX (pt b)<|aX (pt E)<|aX (pt b)<|aX (pf b 12)<|aX (pt b)<|aX (pf b 12)<|Rs (au v.o) (aL m20.aH 0) ?_;refine Rp (au a) (fun _=>gQ)<|Rp (pf b (a+12)) (fun _=>jJ 6 1)<|Rs (aD (d.known a)) (aL Q.aH (a+12) (sZ (p:=a) (by omega) (by omega))) ?_;refine Rp (aD (d.known a+1)) (fun v1=>Fx.KT rfl rfl rfl (jS (by rw[X]; omega) rfl))<|Rp (pf b (a+12)) (fun _=>jJ 6 1)<|gZ<|ji Q (a+12) (aD (d.known a+1)) fun w4 m21 R z2 => ?_;have m22:aP w4 b 29 (wJ { d with known:=aI d.known a (d.known a+1) }) 114:=m21.to (R7 K (by omega) _);have U:=T.then R (.inl (.inl (.inl rfl)));refine Ln (bS (ay (av (au 0) (aC (Wr (aJ (au 0) (⟨by rw[i],?_,U⟩)))))));rw[show jY m v = { d with known:=aI d.known a (d.known a+1) } by unfold jY; rw[d_ i,<- y,hra]];exact m19.known R m22
 refine Lv aG (mG i) (aC (aM (ay (av (au (cK m v)) (av (au (cK m v)) (aC (Wr (sR (aJ (au (cK m v)) (⟨rfl,?_,Fx.jM.of_below n⟩))))))))));rw[show jY m v=m by unfold jY; exact b_ i]; exact h.up n
namespace Rt
def zk(k f c d e b a:Nat):dN := { inn:=fun i=>decide (i<k),left:=fun _=>false,known:=fun _=>0,own:=fun _=>0,T:=dM.zero,R:=fun _ _=>0,gn:=0,g:=fun _ _=>0,an:=0,ao:=fun _=>0,ar:=fun _=>0,tp:=f,mb:=c,pb:=d,rb:=e,gb:=b,ab:=a }
end Rt
theorem Xi(k g c d f b a:Nat)(h:k<6):dB (wJ (zk k g c d f b a)) k (.bool true)=wJ (zk (k+1) g c d f b a):=by
 rw[VY h];have:aI (zk k g c d f b a).inn k true=(zk (k+1) g c d f b a).inn:=by
  funext i
  show(if i=k then true else decide (i<k))=decide (i<k+1);by_cases e:i=k
  ·subst e; rw[d_ rfl]; exact(f_ (by omega)).symm
  ·rw[b_ e]; exact decide_eq_decide.2 (by omega)
 show wJ { zk k g c d f b a with inn:=_ }=_;rw[this]; rfl
theorem Z0(m:dN)(b B:Nat)(w:World)(h:mM w B b m) :
 Calls Tryz.prog 21 #[(pt b)] w fun e D=>e = .returned (.agg (aA 6 (rv .u64 m.known)))/\Below w.heap.size w D:=by
 have i:=h.c;have G:=h.t;have s:=h.p;have u:=h.r;have q:=h.g;have o:=h.a;have F:=h.ne;have J:=h.c.lt;have N:=h.t.lt;have L:=h.p.lt;have M:=h.r.lt;have K:=h.g.lt;have I:=h.a.lt;refine Kent Tryz.func21 10 ?_;refine ay<|Bv (m:=6) (y:=rv .u64 (fun _=>0)) (by rfl) rfl (by kernel_rfl) rfl fun n V f k A W => ?_;have⟨v,d⟩:=eU A.old i (Below.refl w.heap.size w);have O:=gD f;have⟨P,Q,R,S,T⟩:=AL f i.lt s.lt u.lt q.lt o.lt;have U:=k.lt;refine aC<|Ws<|ay<|av (pt b)<|Lv aF (Fx.oH rfl rfl rfl (by kernel_rfl))<|aC<|aK<|Wk<|sN<|ay<|av (pt b)<|av (pt b)<|av (pf b 12)<|Lv (.agg (aA 6 (rv .u64 m.known))) (eT v.aH 12 (fun j H=>sZ (p:=j) (by omega) (by omega)))<|dU k 0 fun E x C X => ?_;have z:aP E n 6 (rv .u64 m.known) 35:=aQ x;have l:=C.below d d.size (by omega);refine aC (Wr (⟨.agg (aA 6 (rv .u64 m.known)),rV Tryz.results21 ⟨_,rfl,aS z.aH (by kernel_rfl) (by kernel_rfl)⟩,?_⟩));exact⟨rfl,l⟩
theorem Z4(m:dN)(f B:Nat)(w:World)(h:mM w B f m)(i b:Int)(hi : -9223372036854775808<=i/\i<=9223372036854775807) :
 Calls Tryz.prog 31 #[(pt f),au i,aD b] w fun e C=>e = .returned (au (bT (aY m b) i))/\Below w.heap.size w C:=by
 have v:=h.c;have H:=h.t;have G:=h.p;have o:=h.r;have E:=h.g;have D:=h.a;have F:=h.ne;have J:=h.c.lt;have N:=h.t.lt;have L:=h.p.lt;have M:=h.r.lt;have K:=h.g.lt;have I:=h.a.lt;refine Kent Tryz.func31 17 ?_;refine ay<|av (au 0)<|aC<|Ws<|ay<|av (pt f)<|Lv aF (Fx.oH rfl rfl rfl (by kernel_rfl))<|aC<|aK<|Wk<|sN<|ay<|av (pt f)<|av (pt f)<|av (pf f 20)<|Lv (.map (some m.rb)) (aL v.aH 20)<|av (aD b) ?_
 rcases Fx.tN m.T.x m.T.n b with ⟨d,l,j⟩|jL
 ·refine Lv (.agg (aA 54 (rv .i64 (m.R d)))) (Fx.wZ (z := .agg (aA 54 (rv .i64 (fun _=>0)))) rfl rfl rfl o Tryz.underlying109 Tryz.underlying23 (by kernel_rfl) l j rfl)<|av (au i)<|dH (uf (m.R d) i _ hi) _ rfl ?_;intro O y;have s:=bf y (Below.refl w.heap.size w);refine av (au (bT (m.R d) i))<|aC<|Wr<|aJ (au (bT (m.R d) i)) ?_;have k:aY m b=m.R d:=by unfold aY EC; rw[d_ (show m.T.has b=true from jU l j),show m.idx b=d from nI h.t.inv.inj l j]
  exact⟨L_ (fun q=>Ending.returned (Value.int .i64 (bT q i))) k.symm,s⟩
 refine Lv (.agg (aA 54 (rv .i64 (fun _=>0)))) (Fx.Py (z := .agg (aA 54 (rv .i64 (fun _=>0)))) rfl rfl rfl o Tryz.underlying109 Tryz.underlying23 (by kernel_rfl) jL)<|av (au i)<|dH (uf (fun _=>0) i _ hi) _ rfl ?_;intro P A;have u:=bf A (Below.refl w.heap.size w);refine av (au (bT (fun _=>0) i))<|aC<|Wr<|aJ (au (bT (fun _=>0) i)) ?_;have k:aY m b=Gw:=by unfold aY; exact b_ (by rw[show m.T.has b=false from zG jL]; decide)
 exact⟨L_ (fun q=>Ending.returned (Value.int .i64 (bT q i))) k.symm,u⟩
theorem ajt(k:Nat)(hk:1<=k/\k<=6)(w:World) :
 Calls Tryz.prog 29 #[au (k:Int)] w fun e w' => ∃ W m,e = .returned (.tuple #[(pt W),au 0])/\(∃ tp mb pb rb gb ab,m=zk k tp mb pb rb gb ab)/\mM w' w.heap.size W m/\Below w.heap.size w w':=by
 refine Kent Tryz.func29 30 ?_;refine ay<|av (.pointer none)<|av (au 0)<|aC<|Ws<|ay<|av (au k)<|Lv aF Ij<|av aF<|av (au k)<|Lv aF yO<|av aF<|aC<|aK<|Wk<|sN<|ay<|lD (abB _) ?_;rintro e9 w1 ⟨n,x,V,hg1,X,hb1⟩;refine⟨_,V,?_⟩;clear V;have J:=bf hb1 (Below.refl w.heap.size w);have m2:tY w1 (w.heap.size) n x dM.zero:=X.weak (Below.refl w.heap.size w).size;clear X hg1;refine Fx.L.K6 (by rfl) rfl rfl fun o w2 Q G s2 z1 => ?_;have⟨m4,K⟩:=eU s2.old m2 J;have rF:=iw Q J.size;have afA:=cu Q m2.lt;have sQ:=G.lt;refine Fx.L.K6 (by rfl) rfl rfl fun q w3 R H s3 z2 => ?_;have⟨m6,m7,M⟩:=iy s3.old m4 G K;have pO:=iw R K.size;have⟨afB,LQ⟩:=sF R m4.lt G.lt;have yu:=H.lt;refine Fx.L.TR (by rfl) rfl rfl fun s w4 S I s4 z3 => ?_;have⟨m9,Y,Z,N⟩:=jN s4.old m6 m7 H M;have Bp:=iw S M.size;have⟨afC,arA,Xe⟩:=AJ S m6.lt m7.lt H.lt;have Hg:=I.lt;refine Fx.L.TR (by rfl) rfl rfl fun u w5 T E s5 z4 => ?_;have⟨m13,aa,ac,ad,O⟩:=nN s5.old m9 Y Z I N;have Og:=iw T N.size;have⟨afD,afy,Xh,OO⟩:=K5 T m9.lt Y.lt Z.lt I.lt;have Oh:=E.lt;refine av (.agg (aA 29 (bB (bB (bB (bB (bB (fun d=>if d<12 then .bool false else if d<18 then aD 0 else if d<19 then .pointer none else if d<21 then .map none else if d<27 then au 0 else .map none) 18 1 (fun _=>(pt n))) 19 1 (fun _ => .map (some o))) 20 1 (fun _ => .map (some q))) 27 1 (fun _ => .map (some s))) 28 1 (fun _ => .map (some u)))))<|DN (m:=29) (y:=bB (bB (bB (bB (bB (fun d=>if d<12 then .bool false else if d<18 then aD 0 else if d<19 then .pointer none else if d<21 then .map none else if d<27 then au 0 else .map none) 18 1 (fun _=>(pt n))) 19 1 (fun _ => .map (some o))) 20 1 (fun _ => .map (some q))) 27 1 (fun _ => .map (some s))) 28 1 (fun _ => .map (some u))) (by rfl) rfl rfl (bE _ _) rfl fun b w6 U ae s6 z5 => ?_;have⟨m18,m19,m20,m21,m22,b6⟩:=oJ s6.old m13 aa ac ad E O;have lg5:=iw U O.size;have⟨arB,arC,arD,arE⟩:=K5 U aa.lt ac.lt ad.lt E.lt;have tg5:=ae.lt;have l:QlN (zk 0 n x o q s u):=⟨afA,afB,afC,afD,by assumption,by assumption,by assumption,by assumption,by assumption,by assumption⟩;have m23:aP w6 b 29 (wJ (zk 0 n x o q s u)) 114:=ae.congr (fun j hj=>match j,hj with|0,_=>rfl|1,_=>rfl|2,_=>rfl|3,_=>rfl|4,_=>rfl|5,_=>rfl|6,_=>rfl|7,_=>rfl|8,_=>rfl|9,_=>rfl|10,_=>rfl|11,_=>rfl|12,_=>rfl|13,_=>rfl|14,_=>rfl|15,_=>rfl|16,_=>rfl|17,_=>rfl|18,_=>rfl|19,_=>rfl|20,_=>rfl|21,_=>rfl|22,_=>rfl|23,_=>rfl|24,_=>rfl|25,_=>rfl|26,_=>rfl|27,_=>rfl|28,_=>rfl|j+29,h=>M_ h (by omega))
 refine av (pt b)<|aC<|Ws<|ay<|av (au k)<|av (au 0)<|aC<|Wb<|Wo (fun f z => ∃ i:Nat,i<=k/\f 4=(pt b)/\f 19=au (k:Int)/\f 20=au (i:Int)/\tY z (w.heap.size) n x dM.zero/\Mp z o 0 (fun _=>0) (fun _ => .pointer none)/\Mp z q 0 (fun _=>0) (fun _ => .pointer none)/\iI z s 0 (fun _=>0) (fun _=>0) (fun _ => .pointer none)/\iI z u 0 (fun _=>0) (fun _=>0) (fun _ => .pointer none)/\aP z b 29 (wJ (zk i n x o q s u)) 114/\Below w.heap.size w z) (fun f _=>((k:Int)-intOf (f 20)).toNat) ⟨0,(by omega),(by rfl),Fx.ic,Fx.ic,m18,m19,m20,m21,m22,m23,b6⟩ ?_;rintro f1 w7 ⟨i,v,C,D,A,m24,mZ,nQ,nH,og,F,B⟩;refine ay ?_;by_cases P:(i:Int)<(k:Int)
 ·refine Lv aG (gM P (hx:=A) (hy:=D))<|aC<|Ws<|aM<|Wk<|sN<|Ws<|Wb<|ay<|aU A<|av (au i)<|aC<|Wl<|aU C<|av (au i)<|av (pt b)<|av (pt b)<|Lv (pf b i) (jJ 6 1)<|ji F i aG fun w8 oD s7 z6 => ?_;have lI:aP w8 b 29 (wJ (zk (i+1) n x o q s u)) 114:=oD.to (Xi i _ _ _ _ _ _ (by omega));have fV:=gH s7 F.ty;have⟨m32,pE,nR,pF,nS⟩:=rD fV m24 mZ nQ nH og;have b8:=s7.below B B.size (by omega);refine Ln<|bP<|sN<|Wl<|Lv (au ((i:Int)+1)) (fA (hx:=A))<|av (au ((i:Int)+1))<|Ln<|gW ⟨i+1,(by omega),C,(D.trans Fx.ic),Fx.ic,m32,pE,nR,pF,nS,lI,b8⟩ ?_;show((k:Int)-intOf (au ((i:Int)+1))).toNat<_;simp only[A,intOf]; omega
 refine Lv aF (gN P (hx:=A) (hy:=D))<|aC<|Ws<|aK<|Wx<|bX<|gP<|bY<|sN<|ay<|aU C<|av (pt b)<|av (au 0)<|aC<|Wr<|aJ (.tuple #[(pt b),au 0]) ?_;have eik:i=k:=by omega
 subst eik;exact⟨b,zk i n x o q s u,rfl,⟨_,_,_,_,_,_,rfl⟩,{ c:=F,t:=m24,p:=mZ.vX fun i v=>M_ v (z_ _),r:=nQ.vX fun i v=>M_ v (z_ _),g:=nH.vX fun i v=>M_ v (z_ _),a:=og.vX fun i v=>M_ v (z_ _),ne:=⟨l.mp,l.mr,l.mg,l.ma,l.pr,l.pg,l.pa,l.rg,l.ra,l.ga⟩,lB:=lg5,pB:=rF,rB:=pO,gB:=Bp,aB:=Og },B⟩
end Go.Proofs.YtcbedgfikejkoaaGreatDoor
namespace Go.Proofs.YtcbedgfikejkoaaGreatDoor.Fx
open Go.RowKit Go.Shelf Go.Sort Go.Lib
def kL(a b:Int):Int:=if a<b then -1 else if b<a then 1 else 0
theorem QE(a b:Int):kL a b<0<->a<b:=by
 unfold kL;split
 ·simp_all
 split <;> simp_all
theorem Z5{c:Type}(ky:c->Int):SWO (ltOf fun x y=>kL (ky x) (ky y)):=by
 have e : ∀ x y,(ltOf fun x y=>kL (ky x) (ky y)) x y=decide (ky x<ky y):=fun x y=>by
  unfold ltOf;exact decide_eq_decide.2 (QE _ _)
 refine⟨fun x => ?_,fun x y z a b => ?_,fun x y z a b => ?_⟩ <;> simp only[e,decide_eq_true_eq,decide_eq_false_iff_not]at * <;> omega
end Go.Proofs.YtcbedgfikejkoaaGreatDoor.Fx
namespace Go.Proofs.YtcbedgfikejkoaaGreatDoor.Fx
open Go.RowKit Go.Shelf Go.Sort Go.Lib
theorem MG{w:World}{B g cap m N s:Nat}{E:TypeId}(a:Array Value)(os:Array Obj){x:Nat->Value}(h:Own w B E s (.slice (some ⟨g,0,none⟩) m cap) m x)(f:a.size=m*s) :
 Own (sortWorld id w g 0 N a os) B E s (.slice (some ⟨g,0,none⟩) m cap) m (fun q=>a[q]!)/\Stp g w (sortWorld id w g 0 N a os):=by
 rcases h.2 with ⟨b,_⟩|⟨g',cap',cur,b,hB,hg,hn,hm,hs,ht⟩
 ·cases b
 simp only[Value.slice.injEq,Option.some.injEq,Addr.mk.injEq]at b;obtain⟨⟨rfl,_⟩,_,rfl⟩:=b;have n:g<w.heap.size:=(t_.1 hg).1;have d:(sortWorld id w g 0 N a os).heap=(w.heap.modify g (onCells (putCells id 0 a)))++os:=rfl;have e : ∀ k,k<w.heap.size->(sortWorld id w g 0 N a os).heap[k]? = (w.heap.modify g (onCells (putCells id 0 a)))[k]? := fun k c=>by
  rw[d,Array.getElem?_append_left (by simpa using c)]
 have p:m*s<=cap*s:=Nat.mul_le_mul_right s hn;refine⟨⟨by simp,.inr ⟨g,cap,putCells id 0 a cur,rfl,hB,?_,hn,hm,?_,?_⟩⟩,⟨rfl,rfl,rfl,by rw[d]; simp,fun k c o => ?_⟩⟩
 ·rw[e g n,Array.getElem?_modify,d_ rfl,hg]; rfl
 ·simp[putCells,hs]
 ·apply List.ext_getElem?;intro i;by_cases j:i<m*s
  ·have l:i<cur.size:=(by omega);rw[List.getElem?_take_of_lt (by omega),Array.getElem?_toList];unfold putCells;rw[Array.getElem?_mapIdx,Array.getElem?_eq_getElem l];simp[j,f]
  rw[List.getElem?_eq_none (by simp; omega),List.getElem?_eq_none (by simp; omega)]
 rw[e k c,Array.getElem?_modify,b_ (Ne.symm o)]
theorem OP{w:World}{B g cap m s:Nat}{E:TypeId}(d:Array Value){x:Nat->Value}(h:Own w B E s (.slice (some ⟨g,0,none⟩) m cap) m x)(n:d.size=m*s)(hx : ∀ q,q<m*s->x q=d[q]!)(i:0<m) :
 Holds id w g 0 d/\g<w.heap.size:=by
 obtain⟨l,k,e,_,f,_,c⟩:=h.form i
 rcases h.2 with ⟨a,_⟩|⟨g2,cap2,cur,a,hB,hg,hn,hm,hs,ht⟩
 ·cases a
 simp only[Value.slice.injEq,Option.some.injEq,Addr.mk.injEq]at a e;obtain⟨⟨rfl,_⟩,_,rfl⟩:=a;obtain⟨⟨rfl,_⟩,_,rfl⟩:=e;refine⟨fun j o=>⟨?_,?_⟩,f⟩
 ·have b:=c j (by omega);rw[b,hx j (by omega)]; rfl
 simp[World.frozen?,hg]
theorem Je{a:Type} [Inhabited a]{s:Nat}{enc:a->Nat->Value}{e0:a}{l:List a}(f:0<s) : ∀ q,q<l.length*s->flat s (fun k=>enc (l.getD k e0)) q=(Go.Sort.flatK (fun x=>(List.range s).map (enc x)) s l.toArray)[q]! := fun q b=>by
 have d:q / s<l.length:=Nat.div_lt_of_lt_mul (by rw[Nat.mul_comm]; exact b);have e:q % s<s:=J_ _ f;rw[Go.Sort.get_flatK _ _ _ q (by simpa using b)];unfold flat;have c:l.toArray[q / s]! = l.getD (q / s) e0:=by simp[d]
 rw[c];simp[e]
theorem Xj{P:Program}{ρ:Ren}(H:SlLaysF0.n6 P ρ){gc:Nat}(T : ∀ I w,(callFunc gc I).run P w = .ok (.enter gc I) w){w:World}{B cap s:Nat}{a:Option Addr}{E:TypeId}(K:0<s)
 (R : ∀ w,(isAgg (ρ.t 24)).run P w = .ok true w) (zE : ∀ w,(Go.sizeOf (ρ.t 24)).run P w = .ok s w) {o:Type} [Inhabited o] {enc:o->Nat->Value} {e0:o} (h1 : ∀ x j,j<s->(enc x j).oneCell'=true) {ky:o->Int} {l:List o}
 (h:Own w B E s (.slice a l.length cap) l.length (flat s fun q=>enc (l.getD q e0)))
 (X : ∀ M x y,Calls P gc #[.agg (aA s (enc x)),.agg (aA s (enc y))] M fun e c=>e = .returned (.int .i64 (kL (ky x) (ky y))) /\ ∃ q os',c=grow (M.drewN q) os') (hm:l.length<4611686018427387904) :
 Calls P (ρ.f 6) #[.slice a l.length cap,.func (.func gc) #[] #[]] w fun e c=>e = .returned (.tuple #[]) /\ ∃ G:List o,G.Perm l/\G.Pairwise (fun x y=>ky x<=ky y)/\Own c B E s (.slice a l.length cap) l.length (flat s fun q=>enc (G.getD q e0))/\(∀ k,k<w.heap.size->(Value.slice a l.length cap).ownBlock≠some k->c.heap[k]? = w.heap[k]?)/\iF [E] w c/\Below B w c:=by
 by_cases U:l.length=0
 ·have D:l = []:=List.length_eq_zero_iff.1 U;subst D;refine(AnyF.slices_SortFunc_none H a cap _ w).mono ?_;rintro e c ⟨C,rfl⟩;exact⟨C,[],List.Perm.refl _,List.Pairwise.nil,h,fun _ _ _=>rfl,vI _,Below.refl _ _⟩
 obtain⟨g,c2,r,hB,hg,hmc,_⟩:=h.form (by omega);simp only[Value.slice.injEq]at r;obtain⟨rfl,_,rfl⟩:=r;have z : ∀ x,((fun x=>(List.range s).map (enc x)) x).length=s:=fun x=>by simp
 have hsz:(Go.Sort.flatK (fun x=>(List.range s).map (enc x)) s l.toArray).size=l.length*s:=by simp
 obtain⟨W,D⟩:=OP _ h hsz (Je K) (by omega);have hty:Ty w g E:=h.ty rfl;have A : ∀ x,((List.range s).map (enc x)).toArray=aA s (enc x):=fun x=>by
  apply Array.ext
  ·simp[cB]
  ·intro i h1 V;have m:i<s:=(by simpa using h1);have:=fQ (enc x) m;rw[Array.getElem?_eq_getElem V]at this;rw[C_ this]; simp
 have J:=AnyQ.slices_SortFunc H s R zE (fun x=>(List.range s).map (enc x)) z (fun x v A=>by
  obtain⟨j,u,rfl⟩:=List.mem_map.1 A;exact h1 x j (O_.1 u)) (fun x y=>kL (ky x) (ky y)) (Z5 _) gc #[] g 0 cap l.toArray w T
  (fun N p dk hdk x y=>by rw[A,A]; exact X _ x y) W D (by simpa using hm)
 rw[show l.toArray.size=l.length by simp]at J;refine J.mono ?_;rintro e c ⟨C,b,N,p,⟨n,_,L⟩,hso,rfl⟩;have n:b.size=l.length:=by simpa using n
 have hw:sortWorldK (fun x=>(List.range s).map (enc x)) s w g 0 N b p=sortWorld id w g 0 N (Go.Sort.flatK (fun x=>(List.range s).map (enc x)) s b) p:=rfl;rw[hw];obtain⟨o1,d⟩:=MG (N:=N) (Go.Sort.flatK (fun x=>(List.range s).map (enc x)) s b) p h (by simp[n]);have r:(b.extract 0 l.length).toList=b.toList:=by
  rw[<- n]; simp
 have S:(l.toArray.extract 0 l.length).toList=l:=by simp
 rw[r,S]at L;refine⟨C,b.toList,L,?_,?_,fun k z hne=>d.block k z (fun e=>hne (by rw[e]; rfl)),gH d hty,⟨d.os,d.tape,d.output,d.size,fun k z=>d.block k (by omega) (by omega)⟩⟩
 ·rw[List.pairwise_iff_getElem];intro i j Y u Z;have m:=hso i j (K_ _) Z (by rw[<- n]; simpa using u);unfold ltOf at m;rw[decide_eq_false_iff_not,QE]at m;have O:b[i]! = b.toList[i]:=by rw[getElem!_pos b i (by simpa using Y)]; simp
  have Q:b[j]! = b.toList[j]:=by rw[getElem!_pos b j (by simpa using u)]; simp
  rw[O,Q]at m;exact Int.not_lt.1 m
 have:=fun q (F:q<l.length*s)=>Je (enc:=enc) (e0:=e0) (l:=b.toList) K q (by simpa [n] using F);have o3:Own (sortWorld id w g 0 N (Go.Sort.flatK (fun x=>(List.range s).map (enc x)) s b) p) B E s (.slice (some ⟨g,0,none⟩) l.length cap) l.length (flat s fun q=>enc (b.toList.getD q e0)):=o1.congr fun q F=>by
  have:=this q F;simp only[Array.toArray_toList]at this;exact this.symm
 exact o3
end Go.Proofs.YtcbedgfikejkoaaGreatDoor.Fx
namespace Go.Proofs.YtcbedgfikejkoaaGreatDoor
open Go.Shelf
def Sl:Go.Shelf.Ren:=⟨fun|6=>47|15=>87|14=>86|28=>137|29=>138|20=>129|21=>130|22=>131|23=>132|24=>133|25=>134|26=>135|27=>136|46=>164|47=>165|48=>166|49=>167|50=>168|57=>185|n=>n,fun|22=>48|24=>106|25=>122|3=>3|39=>161|0=>0|53=>181|55=>23|4=>4|46=>208|45=>207|50=>212|5=>5|9=>9|66=>237|70=>241|76=>251|77=>252|n=>n,fun|n=>n⟩
theorem aju:Go.Proofs.SlLaysF0.n6 Tryz.prog Sl := {
 mixed:=by kernel_rfl
 f6:=⟨Tryz.f47.name,by decide,Tryz.func47.trans (L_ some (by kernel_rfl))⟩
 f14:=⟨Tryz.f86.name,by decide,Tryz.func86.trans (L_ some (by kernel_rfl))⟩
 f15:=Tryz.func87.trans (L_ some (by kernel_rfl))
 f20:=⟨Tryz.f129.name,by decide,Tryz.func129.trans (L_ some (by kernel_rfl))⟩
 f21:=⟨Tryz.f130.name,by decide,Tryz.func130.trans (L_ some (by kernel_rfl))⟩
 f22:=⟨Tryz.f131.name,by decide,Tryz.func131.trans (L_ some (by kernel_rfl))⟩
 f23:=⟨Tryz.f132.name,by decide,Tryz.func132.trans (L_ some (by kernel_rfl))⟩
 f24:=⟨Tryz.f133.name,by decide,Tryz.func133.trans (L_ some (by kernel_rfl))⟩
 f25:=⟨Tryz.f134.name,by decide,Tryz.func134.trans (L_ some (by kernel_rfl))⟩
 f26:=⟨Tryz.f135.name,by decide,Tryz.func135.trans (L_ some (by kernel_rfl))⟩
 f27:=⟨Tryz.f136.name,by decide,Tryz.func136.trans (L_ some (by kernel_rfl))⟩
 f28:=Tryz.func137.trans (L_ some (by kernel_rfl))
 f29:=Tryz.func138.trans (L_ some (by kernel_rfl))
 f46:=⟨Tryz.f164.name,by decide,Tryz.func164.trans (L_ some (by kernel_rfl))⟩
 f47:=Tryz.func165.trans (L_ some (by kernel_rfl))
 f48:=Tryz.func166.trans (L_ some (by kernel_rfl))
 f49:=⟨Tryz.f167.name,by decide,Tryz.func167.trans (L_ some (by kernel_rfl))⟩
 f50:=⟨Tryz.f168.name,by decide,Tryz.func168.trans (L_ some (by kernel_rfl))⟩
 f57:=⟨Tryz.f185.name,by decide,Tryz.func185.trans (L_ some (by kernel_rfl))⟩
 t0:=Tryz.underlying0
 a0:=Tryz.isAgg0
 z0:=Tryz.sizeOf0
 v0:=Tryz.zeroValue0
 t3:=Tryz.underlying3
 a3:=Tryz.isAgg3
 z3:=Tryz.sizeOf3
 v3:=Tryz.zeroValue3
 t4:=Tryz.underlying4
 a4:=Tryz.isAgg4
 z4:=Tryz.sizeOf4
 v4:=Tryz.zeroValue4
 t5:=Tryz.underlying5
 a5:=Tryz.isAgg5
 z5:=Tryz.sizeOf5
 v5:=Tryz.zeroValue5
 t9:=Tryz.underlying9
 a9:=Tryz.isAgg9
 z9:=Tryz.sizeOf9
 v9:=Tryz.zeroValue9
 t22:=Tryz.underlying48
 a22:=Tryz.isAgg48
 z22:=Tryz.sizeOf48
 v22:=Tryz.zeroValue48
 t25:=Tryz.underlying122
 a25:=Tryz.isAgg122
 z25:=Tryz.sizeOf122
 v25:=Tryz.zeroValue122
 t39:=Tryz.underlying161
 a39:=Tryz.isAgg161
 z39:=Tryz.sizeOf161
 v39:=Tryz.zeroValue161
 t45:=Tryz.underlying207
 a45:=Tryz.isAgg207
 z45:=Tryz.sizeOf207
 v45:=Tryz.zeroValue207
 t46:=Tryz.underlying208
 a46:=Tryz.isAgg208
 z46:=Tryz.sizeOf208
 v46:=Tryz.zeroValue208
 t50:=Tryz.underlying212
 a50:=Tryz.isAgg212
 z50:=Tryz.sizeOf212
 v50:=Tryz.zeroValue212
 t53:=Tryz.underlying181
 a53:=Tryz.isAgg181
 z53:=Tryz.sizeOf181
 v53:=Tryz.zeroValue181
 t55:=Tryz.underlying23
 a55:=Tryz.isAgg23
 z55:=Tryz.sizeOf23
 v55:=Tryz.zeroValue23
 t66:=Tryz.underlying237
 a66:=Tryz.isAgg237
 z66:=Tryz.sizeOf237
 v66:=Tryz.zeroValue237
 t70:=Tryz.underlying241
 a70:=Tryz.isAgg241
 z70:=Tryz.sizeOf241
 v70:=Tryz.zeroValue241
 t76:=Tryz.underlying251
 a76:=Tryz.isAgg251
 z76:=Tryz.sizeOf251
 v76:=Tryz.zeroValue251
 t77:=Tryz.underlying252
 a77:=Tryz.isAgg252
 z77:=Tryz.sizeOf252
 v77:=Tryz.zeroValue252 }
end Go.Proofs.YtcbedgfikejkoaaGreatDoor
namespace Go.Proofs.YtcbedgfikejkoaaGreatDoor
open Go.RowKit Go.Sort Rt
namespace Fx
def Z6(w w':World):Prop := ∃ q a,w'=grow (w.drewN q) a
theorem Z6.refl(w:World):Z6 w w:=⟨0,#[],by rw[grow_empty]; rfl⟩
theorem Z6.alloc{w a b:World}(h:Z6 w a)(z : ∃ o,b=a.alloc o):Z6 w b:=by
 obtain⟨q,c,rfl⟩:=h;obtain⟨o,rfl⟩:=z;exact⟨q,c ++ #[o],by rw[alloc_eq_grow,grow_grow]⟩
theorem Z6.drew{w a b:World}(h:Z6 w a)(z:b=a.drew):Z6 w b:=by
 obtain⟨q,c,rfl⟩:=h;subst z;exact⟨q+1,c,rfl⟩
section
variable {P:Program} {n:Nat} {Q:Post} {f:Nat->Value} {w:World} {ops:Array Oper} {rest:List Oper} {o:Oper}
theorem L.ajv{T:TypeId}{x:Operand}{v:Value}{m:Nat}{y:Nat->Value}(i:Region.wanted o (yf ops f)=true)(d:o.op = .box T x)(hx:ev f x=v)(b:v.cells=aA m y)(c:inn n o.dst=true)
 (h : ∀ g a,g=w.heap.size->aP a g m y T->Stp w.heap.size w a->(∃ o,a=w.alloc o)->L P n ops Q rest (put f o.dst (.pointer (some ⟨g,0,none⟩))) a):L P n ops Q (o::rest) f w:=by
 have e:(execOp (ev f) o).run P w = .ok (.value (.pointer (some ⟨w.heap.size,0,none⟩))) (w.alloc (.cells v.cells T)):=by
  unfold execOp;simp[d,hx,Instr.box,newVar,newRow]
 refine L.val i e c (h _ _ rfl ?_ (Stp.alloc _ _) ⟨_,rfl⟩);show(w.alloc _).heap[w.heap.size]? = _;rw[alloc_at,d_ rfl,b]
theorem L.Z7{T E:TypeId}{len s:Nat}{l:List (Nat × Operand)}{vs:List (Nat × Value)}{zc y:Nat->Value}(I:Region.wanted o (yf ops f)=true)(B:o.op = .buildSlice T len l.toArray)(C:l.map (fun p=>(p.1,ev f p.2))=vs)(H:P.underlying T=some (.slice E))(k:(P.info? E).map (·.size)=some s)
 (q:Nat.ble (len*s) 16777216=true) (d:Nat.beq (len*s) 0=false) (J:((P.info? E).bind (·.zero)).map (·.cells)=some (aA s zc)) (u:Instr.fill (fun i=>some (i*s,s)) (aA (len*s) (fun j=>zc (j % s))) vs=some (aA (len*s) y)) (t:inn n o.dst=true)
 (h : ∀ g a,g=w.heap.size->aP a g (len*s) y E->Stp w.heap.size w a->(∃ o,a=w.alloc o)->L P n ops Q rest (put f o.dst (.slice (some ⟨g,0,none⟩) len len)) a):L P n ops Q (o::rest) f w:=by
 obtain⟨z,K,M⟩:=Option.map_eq_some_iff.1 J;obtain⟨i,c,N⟩:=Option.bind_eq_some_iff.1 K;have G:i.size=s:=by rw[c]at k; simpa using k
 have O : ¬ len*s>2^24:=by have:=Nat.le_of_ble_eq_true q; omega
 have b:len*s≠0:=fun e=>by rw[e]at d; exact M_ d (by decide)
 have F:0<s:=Nat.pos_of_ne_zero fun e=>b (by rw[e,Nat.mul_zero]);have r:(Array.range (len*s)).map (fun j=>z.cells[j % z.cells.size]!)=aA (len*s) (fun j=>zc (j % s)):=by
  refine vR (by simp) fun j x => ?_;have A:j % s<s:=J_ _ F;have v:=fQ zc A;rw[M];simp[x,cB];rw[getElem!_def,v]
 have D:(execOp (ev f) o).run P w = .ok (.value (.slice (some ⟨w.heap.size,0,none⟩) len len)) (w.alloc (.cells (aA (len*s) y) E)):=by
  unfold execOp;simp only[B,List.map_toArray,C];unfold Instr.buildSlice;have m : ¬ 16777216<len*s:=by omega
  simp[underlying,sizeOf,typeInfo,zeroValue,H,c,G,N,m];simp[b,r,u,newRow]
 refine L.val I D t (h _ _ rfl ?_ (Stp.alloc _ _) ⟨_,rfl⟩);show(w.alloc _).heap[w.heap.size]? = _;rw[alloc_at,d_ rfl]
end
section
variable {P:Program} {n:Nat} {ops:List Oper} {Q:Post}
theorem W.afE{f:Nat->Value}{w:World}{id:Nat}(l:List Nat)(cs:List Nat)(S:World->World->Prop)(j : ∀ w,S w w)(m : ∀ a b c,S a b->S b c->S a c)(fJ:List (Nat × Nat × List Nat))(t:P.follows .mixedOrders=true)(u:mO n ops=true)(x:Region.noSelect ops.toArray=true)(e:AA ops l=true)(v:wW ops cs fJ l=true)
 (h : ∀ g,Below w.heap.size w g->g=w.drew->R P n ops cs S Q l f g):W P n (.region id ops.toArray true) Q f w:=fun a o=>by
 refine wp_region_any t ?_;unfold AA at e;rw[T_,T_,T_,List.all_eq_true,List.all_eq_true]at e;obtain⟨⟨⟨y,z⟩,p3⟩,p4⟩:=e;have s:=B_ y;have A:l.Nodup:=h_ p3;have:=R.any (P:=P) (Q:=Q) (fJ:=fJ) u x j m ops.length l (Array.replicate ops.length false) a f w.drew s (by simp) (Kz.start _ _ _) (fun i=>by
  have p : ∀ i,(Array.replicate ops.length false).getD i false=false:=fun i=>getD_replicate_false _ _;constructor
  ·intro d; exact⟨by simpa [Nat.blt_eq] using z i d,p i⟩
  ·intro d;obtain⟨k,q,r⟩:=List.any_eq_true.1 (p4 i (by simpa using d.1));rw[B_ r]; exact q) A (wX v) o (h w.drew (Below.refl _ _).drew rfl)
 simpa using this
end
end Fx
namespace Rt
structure Kj where
 x:Nat->Int
 h:0<=x 1/\x 1<=18446744073709551615
def g0:Kj:=⟨fun _=>0,by decide⟩
instance:Inhabited Kj:=⟨g0⟩
def KH(x:Nat->Int):Kj:=if h:0<=x 1/\x 1<=18446744073709551615 then⟨x,h⟩else g0
def MH(x:Kj):Int:=x.x 0*18446744073709551616+x.x 1
theorem abT{x:Nat->Int}(h:0<=x 1/\x 1<=18446744073709551615):(KH x).x=x:=by unfold KH; rw[dif_pos h]
def Td(a b:Int):Int:=if a=0 then b else a
def OQ(a b:Int)(i:Nat):Int:=if i=0 then a else b
def orW(a b:Int):Nat->Value:=fun j => .int .i64 (OQ a b j)
section
variable {a b:Int} {i:Nat}
theorem arF(d:i=0\/a=0)(c:OQ a b i=0):i+1=0\/a=0:=by
 unfold OQ at c
 rcases d with rfl|e
 ·exact .inr (by simpa using c)
 exact .inr e
theorem arG(d:i=0\/a=0)(c:OQ a b i=0):i+1<2\/Td a b=0:=by
 unfold OQ at c;by_cases e:i=0
 ·exact .inl (by omega)
 rw[b_ e]at c
 rcases d with h|h
 ·exact M_ h e
 exact .inr (by unfold Td; rw[d_ h]; exact c)
theorem arH(d:i=0\/a=0)(c : ¬ OQ a b i=0):Td a b=OQ a b i:=by
 unfold OQ at c ⊢;unfold Td;by_cases e:i=0
 ·rw[d_ e]at c ⊢; rw[b_ c]
 rw[b_ e]
 rcases d with h|h
 ·exact M_ h e
 rw[d_ h]
theorem arI(h:i<2\/Td a b=0)(c : ¬ (i:Int)<2):Td a b=0:=by
 rcases h with h|h
 ·omega
 exact h
end
theorem afF(x y:Kj):Td (Fx.kL (x.x 0) (y.x 0)) (Fx.kL (x.x 1) (y.x 1))=Fx.kL (MH x) (MH y):=by
 have a:=x.h;have b:=y.h;unfold Td Fx.kL MH
 repeat' split
 all_goals first|rfl|omega
structure Sn(n:Nat)(S:Nat->Bool)(il:List Nat):Prop where
 nd:il.Nodup
 mem : ∀ i,i∈il<->(i<n/\S i=true)
theorem Sn.start(n:Nat):Sn n (fun _=>false) []:=⟨List.nodup_nil,fun i=>⟨fun h=>(nomatch h),fun h=>(nomatch h.2)⟩⟩
theorem Sn.step{n i:Nat}{S:Nat->Bool}{c:List Nat}(h:Sn n S c)(hi:i<n)(l:S i=false):Sn n (Fx.aO S i true) (c ++ [i]):=by
 have k:i ∉ c:=fun g=>by have:=((h.mem i).1 g).2; rw[l]at this; cases this
 refine⟨List.nodup_append.2 ⟨h.nd,by simp,fun a f b d e => ?_⟩,fun j => ?_⟩
 ·rw[List.mem_singleton]at d; subst d; subst e; exact k f
 rw[List.mem_append,List.mem_singleton,h.mem];show _<->(j<n/\(if j=i then true else S j)=true);by_cases e:j=i
 ·subst e; rw[d_ rfl]; exact⟨fun _=>⟨hi,rfl⟩,fun _ => .inr rfl⟩
 rw[b_ e]; exact⟨fun h=>h.elim id fun h=>M_ h e,fun h => .inl h⟩
theorem Sn.len{n:Nat}{S:Nat->Bool}{c:List Nat}(h:Sn n S c):c.length<=n :=
 Dm n c.length (fun q=>c.getD q 0) (fun q d=>by
  have:c.getD q 0∈c:=by rw[r_,o_ d]; exact R_ d
  exact((h.mem _).1 this).1) fun a b f g e=>by
  have e:c.getD a 0=c.getD b 0:=e;rw[r_,r_,o_ f,o_ g]at e;exact(List.getElem_inj h.nd).1 e
structure GrS(m:dN)(l:List Kj):Prop where
 mem : ∀ x,x∈l -> ∃ i,i<m.gn/\x.x=m.g i
 all : ∀ i,i<m.gn -> ∃ x,x∈l/\x.x=m.g i
 up:l.Pairwise fun x y=>MH x<MH y
theorem GrS.of{m:dN}{w:World}{b:Nat}{t:List Nat}{l:List Kj}{S:Nat->Bool}(o:Fx.iI w b m.gn (fun i=>m.g i 0) (fun i=>m.g i 1) (vE m.g))(hi:Sn m.gn S t)(z : ∀ i,i<m.gn->S i=true)(r:l.Perm (t.map fun i=>KH (m.g i)))(B:l.Pairwise fun x y=>MH x<=MH y):GrS m l:=by
 have k : ∀ i,i<m.gn->(KH (m.g i)).x=m.g i:=fun i hi=>abT (o.ok hi).b;have f : ∀ i,i∈t<->i<m.gn:=fun i=>by rw[hi.mem]; exact⟨fun h=>h.1,fun h=>⟨h,z i h⟩⟩
 have p : ∀ x,x∈l -> ∃ i,i<m.gn/\x=KH (m.g i):=fun x s=>by
  obtain⟨i,c,d⟩:=List.mem_map.1 (r.mem_iff.1 s);exact⟨i,(f i).1 c,d.symm⟩
 have A:l.Nodup:=by
  rw[r.nodup_iff,List.nodup_iff_pairwise_ne,List.pairwise_map];refine(List.nodup_iff_pairwise_ne.1 hi.nd).imp_of_mem fun {a b} ha hb q e=>q ?_;have c:=L_ Kj.x e;rw[k a ((f a).1 ha),k b ((f b).1 hb)]at c;exact o.inj a b ((f a).1 ha) ((f b).1 hb) (by show m.g a 0=m.g b 0; rw[c]) (by show m.g a 1=m.g b 1; rw[c])
 refine⟨fun x s => ?_,fun i c => ?_,?_⟩
 ·obtain⟨i,c,d⟩:=p x s;exact⟨i,c,by rw[d,k i c]⟩
 ·exact⟨KH (m.g i),r.mem_iff.2 (List.mem_map.2 ⟨i,(f i).2 c,rfl⟩),k i c⟩
 refine(B.and (List.nodup_iff_pairwise_ne.1 A)).imp_of_mem fun {a b} ha hb h => ?_;obtain⟨i,c,u⟩:=p a ha;obtain⟨j,d,v⟩:=p b hb;have q:=h.2
 rcases Int.lt_or_eq_of_le h.1 with h3|h3
 ·exact h3
 exfalso;have C:=a.h;have D:=b.h;unfold MH at h3;refine q ?_;have n:a.x 0=b.x 0/\a.x 1=b.x 1:=by omega
 rw[u,v,k i c,k j d]at n;have:=o.inj i j c d n.1 n.2;rw[u,v,this]
def Xk(m:dN)(l:List Int)(k:Nat):Nat->Value:=jW (l.getD k 0) (m.T.par (l.getD k 0)) (EC m (l.getD k 0))
def Yq(l:List Kj)(k:Nat):Nat->Value:=jc (l.getD k g0).x
theorem MI{id par:Int}{R:Nat->Int}{z:Nat->Value} : ∀ j,j<56->Fx.bB (Fx.bB (Fx.bB z 0 1 (fun _ => .int .u64 id)) 1 1 (fun _ => .int .u64 par)) 2 54 (Fx.rv .i64 R) j=jW id par R j:=fun j a=>by
 unfold Fx.bB jW
 rcases(show j=0\/j=1\/2<=j by omega)with rfl|rfl|h
 ·rfl
 ·rfl
 ·rw[d_ (by omega),b_ (by omega),b_ (by omega)]; rfl
theorem Z8{m:dN}{l:List Int}{n:Nat}{id par:Int}{R:Nat->Int}{z z2:Nat->Value}(b:l.getD n 0=id)(c:m.T.par id=par)(d:EC m id=R) : ∀ j,j<(n+1)*56->Fx.ig (Fx.flat 56 (Xk m l)) (n*56) (Fx.bB z (0*56) 56 (Fx.bB (Fx.bB (Fx.bB z2 0 1 (fun _ => .int .u64 id)) 1 1 (fun _ => .int .u64 par)) 2 54 (Fx.rv .i64 R))) j=Fx.flat 56 (Xk m l) j:=fun j a =>
 (Fx.vS j a).trans (Fx.bI (fun k _ q f=>by
  unfold Fx.rz;by_cases e:k=n
  ·subst e; rw[d_ rfl,MI q f]; unfold Xk; rw[b,c,d]
  ·rw[b_ e]) j a)
theorem Z9{g:Nat->Nat->Int}{a:List Nat}{i:Nat}{z:Nat->Value} : ∀ j,j<(a.length+1)*5->Fx.ig (Fx.flat 5 fun k=>jc (g (a.getD k 0))) (a.length*5) (Fx.bB z (0*5) 5 (jc (g i))) j=Fx.flat 5 (fun k=>jc (g ((a ++ [i]).getD k 0))) j:=fun j b =>
 (Fx.vS j b).trans (Fx.bI (fun k c q _=>by
  unfold Fx.rz;by_cases e:k=a.length
  ·subst e; rw[d_ rfl]; simp[r_]
  ·rw[b_ e]; show jc (g (a.getD k 0)) q=_; rw[r_,r_,List.getElem?_append_left (by omega)]) j b)
theorem aac{m:dN}{a:List Nat}{S:Nat->Bool}{w:World}{b:Nat}(d:Fx.iI w b m.gn (fun i=>m.g i 0) (fun i=>m.g i 1) (vE m.g))(hi:Sn m.gn S a) : ∀ j,j<(a.map fun i=>KH (m.g i)).length*5->Fx.flat 5 (fun k=>jc (m.g (a.getD k 0))) j=Fx.flat 5 (Yq (a.map fun i=>KH (m.g i))) j:=fun j f =>
 Fx.bI (n:=(a.map fun i=>KH (m.g i)).length) (fun k c q _=>by
  rw[List.length_map]at c;unfold Yq;have h:a.getD k 0∈a:=by rw[r_,o_ c]; exact R_ c
  have e:((a.map fun i=>KH (m.g i)).getD k g0)=KH (m.g (a.getD k 0)):=by
   rw[r_,r_,o_ (by rw[List.length_map]; exact c),o_ c,List.getElem_map]; rfl
  rw[e,abT (d.ok ((hi.mem _).1 h).1).b]) j f
theorem Sq(s:uR)(a:Option Addr)(n c:Nat):Fx.dB (kI s) 18 (.slice a n c)=kI { s with na:=a,nn:=n,nc:=c }:=by
 funext p
 unfold Fx.dB kI;by_cases e:p=18
 ·subst e; rw[d_ rfl,b_ (by omega),b_ (by omega),b_ (by omega),d_ rfl]
 rw[b_ e]
 repeat' split
 all_goals first|rfl|omega
theorem OT(s:uR)(a:Option Addr)(n c:Nat) : ∀ p,p<20->Fx.dB (kI s) 19 (.slice a n c) p=kI { s with ga:=a,gn:=n,gc:=c } p:=fun p b=>by
 unfold Fx.dB kI;by_cases e:p=19
 ·subst e; rw[d_ rfl,b_ (by omega),b_ (by omega),b_ (by omega),b_ (by omega)]
 ·rw[b_ e]
  repeat' split
  all_goals first|rfl|omega
def Xl(m:dN)(na:Option Addr)(b nc:Nat)(ga:Option Addr)(a gc:Nat):uR:=⟨m.inn,m.left,m.known,na,b,nc,ga,a,gc⟩
theorem aad{id par:Int}{R:Nat->Int}{z z2:Nat->Value} : ∀ j,j<1*56->(Fx.bB z (0*56) 56 (Fx.bB (Fx.bB (Fx.bB z2 0 1 (fun _ => .int .u64 id)) 1 1 (fun _ => .int .u64 par)) 2 54 (Fx.rv .i64 R)) j).oneCell'=true:=fun j a=>by
 rw[show Fx.bB z (0*56) 56 (Fx.bB (Fx.bB (Fx.bB z2 0 1 (fun _ => .int .u64 id)) 1 1 (fun _ => .int .u64 par)) 2 54 (Fx.rv .i64 R)) j=Fx.bB (Fx.bB (Fx.bB z2 0 1 (fun _ => .int .u64 id)) 1 1 (fun _ => .int .u64 par)) 2 54 (Fx.rv .i64 R) (j-0*56) by unfold Fx.bB; rw[d_ (by omega)],MI _ (by omega)];exact qE _ _ _ _
theorem aae{x:Nat->Int}{z:Nat->Value} : ∀ j,j<1*5->(Fx.bB z (0*5) 5 (jc x) j).oneCell'=true:=fun j a=>by
 unfold Fx.bB; rw[d_ (by omega)]; exact sH x _
theorem afG{m:dN}{c:List Nat}{S:Nat->Bool}{w f:World}{b B cap d:Nat}{a:Option Addr}{T:TypeId}(l:Fx.iI w b m.gn (fun i=>m.g i 0) (fun i=>m.g i 1) (vE m.g))(hi:Sn m.gn S c)(e:d=c.length)(n:Fx.Own f B T 5 (.slice a d cap) d (Fx.flat 5 fun k=>jc (m.g (c.getD k 0)))) :
 Fx.Own f B T 5 (.slice a (c.map fun i=>KH (m.g i)).length cap) (c.map fun i=>KH (m.g i)).length (Fx.flat 5 (Yq (c.map fun i=>KH (m.g i)))):=by
 have h:=n.congr (y:=Fx.flat 5 (Yq (c.map fun i=>KH (m.g i)))) (fun j o=>aac l hi j (by rw[List.length_map,<- e]; exact o));rw[List.length_map,<- e]; exact h
theorem Xm(m:dN){z:Nat->Value}(e : ∀ j,18<=j->z j = .slice none 0 0){x1 x2:Nat->Value}(h1 : ∀ j,j<6->x1 j = .bool (m.inn j))(d : ∀ j,j<6->x2 j = .bool (m.left j)) : ∀ j,j<20->Fx.bB (Fx.bB (Fx.bB z 0 6 x1) 6 6 x2) 12 6 (Fx.rv .u64 m.known) j=kI (Xl m none 0 0 none 0 0) j:=fun j f=>by
 unfold Fx.bB kI;by_cases a:j<6
 ·rw[b_ (by omega),b_ (by omega),d_ (by omega),d_ a]; exact h1 _ (by omega)
 ·by_cases b:j<12
  ·rw[b_ (by omega),d_ (by omega),b_ a,d_ b]; exact d _ (by omega)
  ·by_cases c:j<18
   ·rw[d_ (by omega),b_ a,b_ b,d_ c]; rfl
   ·rw[b_ (by omega),b_ (by omega),b_ (by omega),b_ a,b_ b,b_ c,e j (by omega)];split <;> rfl
end Rt
structure StQ(w:World)(B:Nat)(m:dN)(s:uR)(l:List Int)(gl:List Kj):Prop where
 inn:s.inn=m.inn
 left:s.left=m.left
 known:s.known=m.known
 nn:s.nn=l.length
 gn:s.gn=gl.length
 ls:l.Pairwise (· < ·) /\ ∀ k,k∈l<->m.T.has k=true
 len:l.length<=32
 gs:GrS m gl
 glb:gl.length<=m.gn
 n:Fx.Own w B 84 56 (.slice s.na s.nn s.nc) s.nn (Fx.flat 56 (Xk m l))
 g:Fx.Own w B 106 5 (.slice s.ga s.gn s.gc) s.gn (Fx.flat 5 (Yq gl))
end Go.Proofs.YtcbedgfikejkoaaGreatDoor
namespace Go.Proofs.YtcbedgfikejkoaaGreatDoor
open Go.RowKit Rt
open Fx (bA Lv sN Ln Ws Wl Rp Wr Wk rV sR Rs Rn Rd Wb Wx Wo DU Wt wV yc Bv qO gH yC uG vI tK xZ zX rv aA aP bB aO aQ flat Mp aS iI iU aZ kL bE cells_one iF bJ unseen bL bP bX bY gP gW pV)
theorem QF(n:Int)(w:World) :
 Calls Tryz.prog 88 #[au n] w fun e a=>e = .returned (.bool false)/\a=w:=by
 refine Kent Tryz.func88 6 ?_;refine ay<|av aF<|aC<|ay<|av (au n)<|av (au n)<|Lv aF (jG rfl)<|av aF<|aC<|Wr<|aJ aF ?_;exact⟨rfl,rfl⟩
theorem aaf(a b:Int)(w:World) :
 Calls Tryz.prog 50 #[au a,au b] w fun e f=>e = .returned (au (kL a b))/\f=w:=by
 refine Kent Tryz.func50 20 ?_;refine ay<|av (au 0)<|aC<|ay<|av (au a)<|lH (QF a _) _ rfl<|av aF<|aC<|ay<|av (au b)<|lH (QF b _) _ rfl<|av aF<|aC<|Ws<|ay<|av aF<|aC<|aK<|Wk<|sN<|Ws<|ay<|av aF<|aC<|aK<|Wk<|sN<|Ws<|ay<|av (au a)<|av (au b) ?_;by_cases c:a<b
 ·refine Lv aG (gM c)<|aC<|aM<|ay<|av (au (-1))<|aC<|Wr<|sR<|aJ (au (-1)) ?_;exact⟨by unfold kL; simp[c],rfl⟩
 refine Lv aF (gN c)<|aC<|aK<|Wk<|sN<|Ws<|ay<|av (au a)<|av (au b) ?_;by_cases d:b<a
 ·refine Lv aG (ni d)<|aC<|aM<|ay<|av (au 1)<|aC<|Wr<|sR<|aJ (au 1) ?_;exact⟨by unfold kL; simp[c,d],rfl⟩
 refine Lv aF (nk d)<|aC<|aK<|Wk<|sN<|ay<|av (au 0)<|aC<|Wr<|aJ (au 0) ?_;exact⟨by unfold kL; simp[c,d],rfl⟩
theorem QG(n:Int)(w:World) :
 Calls Tryz.prog 89 #[aD n] w fun e a=>e = .returned (.bool false)/\a=w:=by
 refine Kent Tryz.func89 6 ?_;refine ay<|av aF<|aC<|ay<|av (aD n)<|av (aD n)<|Lv aF (jG rfl)<|av aF<|aC<|Wr<|aJ aF ?_;exact⟨rfl,rfl⟩
theorem aag(a b:Int)(w:World) :
 Calls Tryz.prog 51 #[aD a,aD b] w fun e f=>e = .returned (au (kL a b))/\f=w:=by
 refine Kent Tryz.func51 20 ?_;refine ay<|av (au 0)<|aC<|ay<|av (aD a)<|lH (QG a _) _ rfl<|av aF<|aC<|ay<|av (aD b)<|lH (QG b _) _ rfl<|av aF<|aC<|Ws<|ay<|av aF<|aC<|aK<|Wk<|sN<|Ws<|ay<|av aF<|aC<|aK<|Wk<|sN<|Ws<|ay<|av (aD a)<|av (aD b) ?_;by_cases c:a<b
 ·refine Lv aG (gM c)<|aC<|aM<|ay<|av (au (-1))<|aC<|Wr<|sR<|aJ (au (-1)) ?_;exact⟨by unfold kL; simp[c],rfl⟩
 refine Lv aF (gN c)<|aC<|aK<|Wk<|sN<|Ws<|ay<|av (aD a)<|av (aD b) ?_;by_cases d:b<a
 ·refine Lv aG (ni d)<|aC<|aM<|ay<|av (au 1)<|aC<|Wr<|sR<|aJ (au 1) ?_;exact⟨by unfold kL; simp[c,d],rfl⟩
 refine Lv aF (nk d)<|aC<|aK<|Wk<|sN<|ay<|av (au 0)<|aC<|Wr<|aJ (au 0) ?_;exact⟨by unfold kL; simp[c,d],rfl⟩
theorem arJ(a b:Int)(c:Nat)(w:World)(q:iU w c 0 2 (orW a b)) :
 Calls Tryz.prog 49 #[bK c 2 2] w fun e s=>e = .returned (au (Td a b))/\s=w:=by
 refine Kent Tryz.func49 18 ?_;refine ay<|av (au 0)<|aC<|ay<|av (au 0)<|aC<|Ws<|ay<|av (bK c 2 2)<|av (au 2)<|av (au 0)<|aC<|Wb<|Wo (fun f p => ∃ i:Nat,i<=2/\(i=0\/a=0)/\(i<2\/Td a b=0)/\p=w/\f 3=au 0/\f 6=bK c 2 2/\f 7=au 2/\f 8=au (i:Int)/\iU p c 0 2 (orW a b)) (fun f _=>(2-intOf (f 8)).toNat) ⟨0,(by omega),(.inl rfl),(.inl (by decide)),rfl,Fx.ic,(by rfl),Fx.ic,Fx.ic,q⟩ ?_;rintro t v ⟨i,u,m,r,l,j,n,k,g,o⟩;refine ay ?_;by_cases h:(i:Int)<2
 ·refine Lv aG (gM h (hx:=g) (hy:=k))<|aC<|Ws<|aM<|Wk<|sN<|Ws<|Wb<|ay<|Lv (pf c i) (dw 1 (hx:=n) (hi:=g))<|Lv (au (OQ a b i)) (aL o i)<|av (au (OQ a b i))<|aC<|ay<|av (au (OQ a b i))<|aU j ?_;by_cases d:(OQ a b i)=0
  ·refine Lv aF (jG d)<|aC<|aK<|Wk<|bP<|sN<|Wl<|Lv (au ((i:Int)+1)) (fA (hx:=g))<|av (au ((i:Int)+1))<|Ln<|gW ⟨i+1,(by omega),(arF m d),(arG m d),l,(j.trans Fx.ic),n,(k.trans Fx.ic),Fx.ic,o⟩ ?_;show(2-intOf (au ((i:Int)+1))).toNat<_;simp only[g,intOf]; omega
  refine Lv aG (mG d)<|aC<|aM<|ay<|av (au (OQ a b i))<|av (au (OQ a b i))<|aC<|Wr<|bL<|sR<|pV<|bL<|sR<|aJ (au (OQ a b i)) ?_;exact⟨by rw[arH m d],l⟩
 refine Lv aF (gN h (hx:=g) (hy:=k))<|aC<|Ws<|aK<|Wx<|bX<|gP<|bY<|sN<|ay<|aU j<|av (au 0)<|aC<|Wr<|aJ (au 0) ?_;exact⟨by rw[arI r h],l⟩
theorem Rt.afH{w:World}{g:Nat}{a b:Int}{z:Nat->Value}{T:TypeId}(h:aP w g 2 (bB (bB z (0*1) 1 (fun _=>au a)) (1*1) 1 (fun _=>au b)) T):iU w g 0 2 (orW a b):=(h.congr (y:=orW a b) fun j c=>by
 rcases(show j=0\/j=1 by omega)with rfl|rfl <;> rfl).aH
theorem afI(x y:Kj)(w:World) :
 Calls Tryz.prog 48 #[.agg (aA 5 (jc x.x)),.agg (aA 5 (jc y.x))] w fun e H=>e = .returned (au (kL (MH x) (MH y))) /\ ∃ q C,H=Go.Sort.grow (w.drewN q) C:=by
 refine Kent Tryz.func48 17 ?_;refine ay<|Fx.L.ajv (m:=5) (y:=jc x.x) (by rfl) rfl rfl (bE _ _) rfl fun k V t d D I => ?_;have f:=bf D.old (Below.refl w.heap.size w);have M:=gD t;have S:=d.lt;refine Fx.L.ajv (m:=5) (y:=jc y.x) (by rfl) rfl rfl (bE _ _) rfl fun l X g n E J => ?_;have⟨B,p⟩:=eU E.old d f;have N:=iw g f.size;have P:=cu g d.lt;have T:=n.lt;refine av (au 0)<|aC<|Ws ?_;refine Fx.W.afE [0,2,5,7,1,3,6,8,4,9,10,11,12] [0,4,0,4,2,0,1,0,1,2,2,3,0] Fx.Mk uG Fx.Mk.trans (fJ := [(4,1,[1]),(9,1,[4,1]),(10,1,[4,1]),(11,1,[10,4,1]),(4,3,[3]),(9,3,[4,3]),(10,3,[4,3]),(11,3,[10,4,3]),(11,6,[9,6]),(11,8,[9,8]),(9,4,[4]),(10,4,[4]),(11,4,[10,4]),(12,4,[4]),(10,9,[9]),(11,9,[9]),(12,9,[9]),(11,10,[10]),(12,10,[10]),(12,11,[11])]) (by kernel_rfl) (by kernel_rfl) (by kernel_rfl) (by kernel_rfl) (by kernel_rfl) fun Z z A => ?_;have⟨a,b,r⟩:=iy z B n p;refine aX (pt k)<|aX (pt l)<|aX (pf k 1)<|aX (pf l 1)<|Rs (au (x.x 0)) (aL a.aH 0) ?_;refine Rs (au (y.x 0)) (aL b.aH 0) ?_;refine Rd (v:=aD (x.x 1)) (by rfl) (by rfl) (uG _) (fun G c=>bA (x:=jc x.x) rfl rfl (by kernel_rfl) (a.aH.below c (by have:=a.lt; omega)) (i:=1) (by omega) (by omega) rfl) ?_;refine Rd (v:=aD (y.x 1)) (by rfl) (by rfl) (uG _) (fun G c=>bA (x:=jc y.x) rfl rfl (by kernel_rfl) (b.aH.below c (by have:=b.lt; omega)) (i:=1) (by omega) (by omega) rfl) ?_;refine zD (lH (aaf (x.x 0) (y.x 0) _) _ rfl (Ln ⟨Below.refl _ _,?_⟩));refine zD (lH (aag (x.x 1) (y.x 1) _) _ rfl (Ln ⟨Below.refl _ _,?_⟩));refine zD<|Fx.L.Z7 (vs := [(0,au (kL (x.x 0) (y.x 0))),(1,au (kL (x.x 1) (y.x 1)))]) (s:=1) (zc:=rv .i64 (fun _=>0)) (y:=bB (bB (fun j=>(rv .i64 (fun _=>0)) (j % 1)) (0*1) 1 (fun _=>au (kL (x.x 0) (y.x 0)))) (1*1) 1 (fun _=>au (kL (x.x 1) (y.x 1)))) (by rfl) rfl rfl Tryz.underlying90 (by kernel_rfl) (by rfl) (by rfl) (by kernel_rfl) (by rw[aZ (off:=0*1) (s:=1) (y:=fun _=>au (kL (x.x 0) (y.x 0))) rfl (cells_one (by rfl)) (by rfl)]; rw[aZ (off:=1*1) (s:=1) (y:=fun _=>au (kL (x.x 1) (y.x 1))) rfl (cells_one (by rfl)) (by rfl)]; rfl) rfl fun u Y h o F K => ?_;have O:=iw h r.size;have⟨Q,R⟩:=sF h a.lt b.lt;have U:=o.lt;refine Ln ⟨F.old,?_⟩;refine gZ<|lH (arJ (kL (x.x 0) (y.x 0)) (kL (x.x 1) (y.x 1)) u _ (afH o)) _ rfl<|Ln<|aX (au (Td (kL (x.x 0) (y.x 0)) (kL (x.x 1) (y.x 1))))<|bS<|Wr<|aJ (au (Td (kL (x.x 0) (y.x 0)) (kL (x.x 1) (y.x 1)))) ?_;exact⟨by rw[<- afF],(((((Fx.Z6.refl w).alloc I).alloc J).drew A).alloc K)⟩
theorem afJ{w:World}{B cap:Nat}{a:Option Addr}{l:List Kj}(h:Fx.Own w B 106 5 (.slice a l.length cap) l.length (flat 5 (Yq l)))(i:l.length<=1000000) :
 Calls Tryz.prog 47 #[.slice a l.length cap,.func (.func 48) #[] #[]] w fun e b=>e = .returned (.tuple #[]) /\ ∃ c:List Kj,c.Perm l/\c.Pairwise (fun x y=>MH x<=MH y)/\Fx.Own b B 106 5 (.slice a l.length cap) l.length (flat 5 (Yq c))/\(∀ k,k<w.heap.size->(Value.slice a l.length cap).ownBlock≠some k->b.heap[k]? = w.heap[k]?)/\iF [106] w b/\Below B w b:=by
 have f:Fx.Own w B 106 5 (.slice a l.length cap) l.length (flat 5 fun q=>(fun x:Kj=>jc x.x) (l.getD q g0)):=h
 have:=Fx.Xj aju (fun d w=>enters_of Tryz.func48 (by kernel_rfl) rfl d w) (by decide) Tryz.isAgg106 Tryz.sizeOf106 (enc:=fun x:Kj=>jc x.x) (e0:=g0) (ky:=MH) (fun x j _=>sH x.x j) f
  (by intro g x y; refine(afI x y g).mono fun e b h => ?_; exact h) (by omega)
 exact this
theorem aah{m:dN}{d:List Nat}{S:Nat->Bool}{p w:World}{b B cap c:Nat}{a:Option Addr}(n:iI p b m.gn (fun i=>m.g i 0) (fun i=>m.g i 1) (vE m.g))(hi:Sn m.gn S d)(e:c=d.length)(o:Fx.Own w B 106 5 (.slice a c cap) c (flat 5 fun k=>jc (m.g (d.getD k 0))))(q:c<=1000000) :
 Calls Tryz.prog 47 #[.slice a c cap,.func (.func 48) #[] #[]] w fun e f=>e = .returned (.tuple #[]) /\ ∃ h:List Kj,h.Perm (d.map fun i=>KH (m.g i))/\h.Pairwise (fun x y=>MH x<=MH y)/\Fx.Own f B 106 5 (.slice a c cap) c (flat 5 (Yq h))/\(∀ k,k<w.heap.size->(Value.slice a c cap).ownBlock≠some k->f.heap[k]? = w.heap[k]?)/\iF [106] w f/\Below B w f:=by
 have j:(d.map fun i=>KH (m.g i)).length=c:=by rw[List.length_map]; exact e.symm
 have l:=afJ (afG n hi e o) (by rw[j]; omega);rw[j]at l;exact l
set_option maxHeartbeats 1000000 in
theorem aai(m:dN)(u B:Nat)(w:World)(h:mM w B u m)(hgn:m.gn<=900000) :
 Calls Tryz.prog 18 #[(pt u)] w fun e w' => ∃ s l gl,e = .returned (.agg (aA 20 (kI s)))/\StQ w' w.heap.size m s l gl/\Below w.heap.size w w':=by
 have hC:=h.c;have hT:=h.t;have hP:=h.p;have hR:=h.r;have hG:=h.g;have hA:=h.a;have hN:=h.ne;have lC:=h.c.lt;have lT:=h.t.lt;have lP:=h.p.lt;have lR:=h.r.lt;have lG:=h.g.lt;have lA:=h.a.lt;refine Kent Tryz.func18 72 ?_;refine ay<|Bv (m:=20) (y:=fun d=>if d<12 then .bool false else if d<18 then aD 0 else .slice none 0 0) (by rfl) rfl (by kernel_rfl) rfl fun D w1 kQ m1 s1 z1 => ?_;have⟨m2,m3,m4,m5,m6,m7,b1⟩:=jT s1.old hC hT hP hR hG hA (Below.refl w.heap.size w);have rF:=gD kQ;have⟨ny,yB,yA,Cg,Aq⟩:=AL kQ hC.lt hP.lt hR.lt hG.lt hA.lt;have sQ:=m1.lt;refine aC<|Ws<|ay<|av (pt u)<|Lv aF (Fx.oH rfl rfl rfl (by kernel_rfl))<|aC<|aK<|Wk<|sN<|Ws ?_;refine Wt 13 (by kernel_rfl) (by kernel_rfl) fun rE dR iK => ?_;have⟨m8,m9,m10,m11,m12,m13,m14,b2⟩:=nO dR m2 m3 m4 m5 m6 m7 m1 b1;refine Fy (pt u)<|Fy (pt u)<|Fy (pt u)<|qO (.agg (aA 6 (fun j => .bool (m.inn j)))) (eT m8.aH 0 (fun j J=>by rw[G_]; exact Dh J))<|Fy (pt u)<|Fy (pt u)<|Fy (pf u 6)<|qO (.agg (aA 6 (fun j => .bool (m.left j)))) (eT m8.aH 6 (fun j J=>Cc (p:=j) J (by omega)))<|Fy (pt u)<|Fy (pt u)<|Fy (pf u 12)<|qO (.agg (aA 6 (rv .u64 m.known))) (eT m8.aH 12 (fun j J=>sZ (p:=j) (by omega) (by omega)))<|Fy (.agg (aA 20 (bB (bB (bB zP0 0 6 (fun j => .bool (m.inn j))) 6 6 (fun j => .bool (m.left j))) 12 6 (rv .u64 m.known))))<|Fx.St.nil ?_;refine dU m14 0 (h1:=(bJ (bJ (bJ (fun jq _=>by show(zP0 jq).oneCell'=true; simp only[zP0]; repeat (first|rfl|split)) (fun _ _=>rfl)) (fun _ _=>rfl)) (fun _ _=>rfl))) fun V m15 s3 z2 => ?_
 have m16:aP V D 20 (bB (bB (bB zP0 0 6 (fun j => .bool (m.inn j))) 6 6 (fun j => .bool (m.left j))) 12 6 (rv .u64 m.known)) 50:=aQ m15;have m17:aP V D 20 (kI (Xl m none 0 0 none 0 0)) 50:=m16.congr (Xm m (fun j J=>by show(if j<12 then _ else if j<18 then _ else _)=_; rw[b_ (by omega),b_ (by omega)]) (fun _ _=>rfl) (fun _ _=>rfl));have fV:=gH s3 m14.ty;have⟨m18,m19,m20,m21,m22,m23⟩:=TK fV m8 m9 m10 m11 m12 m13;have b3:=s3.below b2 b2.size (by omega);refine aC<|Ws<|ay<|av (pt u)<|av (pt u)<|av (pf u 18)<|Lv (pt m.tp) (aL m18.aH 18)<|lD (UZ m19) ?_;rintro e9 w3 ⟨la1,N,b,he,m24,hq1,ajh,hb1⟩;refine⟨_,he,?_⟩;clear he;have⟨mZ,nQ,nH,og,oh,oD,lI,b4⟩:=nO hb1 m18 m19 m20 m21 m22 m23 m17 b3;refine av (au b.length)<|av (au 0)<|aC<|Wb ?_;have m32:Fx.Own w3 w.heap.size 84 56 (.slice none 0 0) 0 (flat 56 (Xk m b)):=tK _ _ _ _ _;have kll:=ajh;refine Wo (fun f A => ∃ i:Nat,∃ E:Option Addr,∃ F:Nat,i<=b.length/\f 0=(pt u)/\f 2=(pt D)/\f 27 = .slice la1 (b.length) (N)/\f 28=au (b.length:Int)/\f 29=au (i:Int)/\aP A u 29 (wJ m) 114/\tY A B m.tp m.mb m.T/\Mp A m.pb m.T.n m.T.x (Ey m.T)/\Mp A m.rb m.T.n m.T.x (xR m.R)/\iI A m.gb m.gn (fun i=>m.g i 0) (fun i=>m.g i 1) (vE m.g)/\iI A m.ab m.an m.ao m.ar Ez/\Fx.Own A V.heap.size 23 1 (.slice la1 (b.length) (N)) b.length (yH b)/\aP A D 20 (kI (Xl m E i F none 0 0)) 50/\Fx.Own A w.heap.size 84 56 (.slice E (i) (F)) i (flat 56 (Xk m b))/\Below w.heap.size w A) (fun f _=>((b.length:Int)-intOf (f 29)).toNat) ⟨0,none,0,(by omega),(by rfl),(by rfl),(by rfl),Fx.ic,Fx.ic,mZ,nQ,nH,og,oh,oD,m24,lI,m32,b4⟩ ?_;rintro f1 w4 ⟨i,E,F,hi,P,h2,h3,h4,Q,pE,nR,pF,nS,qW,qB,pK,sS,mh,b5⟩;refine ay ?_;by_cases c30:(i:Int)<(b.length:Int)
 ·refine Lv aG (gM c30 (hx:=Q) (hy:=h4))<|aC<|Ws<|aM<|Wk<|sN<|Ws<|Wb<|ay ?_;obtain⟨Eu,eq1⟩:=pK.addr (by omega);have lM:Fx.Own w4 V.heap.size 23 1 (bK Eu b.length N) b.length (yH b):=pK.eY (L_ (fun q=>Value.slice q b.length N) eq1);refine Lv (pf Eu i) (dw 1 (hx:=(h3.trans (L_ (fun q=>Value.slice q (b.length) (N)) eq1))) (hi:=Q))<|Lv (aD (b.getD i 0)) (aL lM.aH i)<|av (aD (b.getD i 0))<|aC ?_;obtain⟨I,hjz,aa⟩:=iA ((hq1.2 _).1 (vZ (show i<b.length by omega) rfl));have ejx:EC m (b.getD i 0)=m.R I:=by unfold EC dN.idx; rw[nI h.t.inv.inj hjz aa]
  have ejp:m.T.par (b.getD i 0)=m.T.p I:=BA h.t.inv.inj hjz aa;refine zX [0,2,3,4,5,7,9,10,11,13,1,6,8,12,14,15,16,17,18,19] [0,1,0,0,0,0,4,0,4,0,0,0,4,0,4,0,2,2,0,3] (iF [84]) vI Fx.iF.trans (fJ := [(19,1,[1]),(16,6,[15,8,6]),(17,6,[16,15,8,6]),(19,6,[6]),(16,8,[15,8]),(17,8,[16,15,8]),(19,8,[8]),(16,12,[15,14,12]),(17,12,[16,15,14,12]),(19,12,[12]),(16,14,[15,14]),(17,14,[16,15,14]),(19,14,[14]),(17,16,[16]),(18,16,[16]),(19,16,[16]),(18,17,[17]),(19,17,[17])]) (by kernel_rfl) (by kernel_rfl) (by kernel_rfl) (by kernel_rfl) (by kernel_rfl) fun CJ gJ nZ => ?_;have⟨mH,qg,qh,om,rW,wh,uD,qX,vJ,b6⟩:=vW gJ pE nR pF nS qW qB sS mh lM b5;refine Rp (pf D 18) (fun _=>iL h2 18)<|aX (aD (b.getD i 0))<|bZ P<|aX (pt u)<|aX (pf u 19)<|aX (aD (b.getD i 0))<|bZ P<|aX (pt u)<|aX (pf u 20)<|aX (aD (b.getD i 0))<|Rd (v := .slice E (i) (F)) (by rfl) (by rfl) (vI _) (fun v1 hv1=>bA (x:=kI (Xl m E i F none 0 0)) rfl rfl (by kernel_rfl) (uD.lu hv1 (by decide)).aH (i:=18) (by omega) (by omega) rfl) ?_;refine Rs (.map (some m.pb)) (aL mH.aH 19) ?_;refine Rs (aD (m.T.p I)) (Fx.wZ (z:=aD 0) rfl rfl rfl qh Tryz.underlying108 Tryz.underlying23 (by rfl) hjz aa rfl) ?_;refine Rs (.map (some m.rb)) (aL mH.aH 20) ?_;refine Rs (.agg (aA 54 (rv .i64 (m.R I)))) (Fx.wZ (z := .agg (aA 54 (rv .i64 (fun _=>0)))) rfl rfl rfl om Tryz.underlying109 Tryz.underlying23 (by kernel_rfl) hjz aa rfl) ?_;refine aX (.agg (aA 56 (bB (bB (bB zK0 0 1 (fun _=>aD (b.getD i 0))) 1 1 (fun _=>aD (m.T.p I))) 2 54 (rv .i64 (m.R I)))))<|zD<|wV (vs := [(0,.agg (aA 56 (bB (bB (bB zK0 0 1 (fun _=>aD (b.getD i 0))) 1 1 (fun _=>aD (m.T.p I))) 2 54 (rv .i64 (m.R I)))))]) (s:=56) (zc:=fun d=>if d<2 then aD 0 else au 0) (y:=bB (fun j=>zK0 (j % 56)) (0*56) 56 (bB (bB (bB zK0 0 1 (fun _=>aD (b.getD i 0))) 1 1 (fun _=>aD (m.T.p I))) 2 54 (rv .i64 (m.R I)))) (by rfl) rfl rfl Tryz.underlying47 (by kernel_rfl) (by rfl) (by rfl) (by kernel_rfl) (by rw[aZ (off:=0*56) (s:=56) (y:=bB (bB (bB zK0 0 1 (fun _=>aD (b.getD i 0))) 1 1 (fun _=>aD (m.T.p I))) 2 54 (rv .i64 (m.R I))) rfl (bE _ _) (by rfl)]; rfl) rfl fun g2 w5 Y uZ s6 z3 => ?_;have⟨uE,wm,wo,tQ,tT,uF,yD,rG,vK,b7⟩:=vW s6.old mH qg qh om rW wh uD qX vJ b6;have pO:=iw Y b6.size;have⟨arK,aeo,aep,arL,arM,aer⟩:=JE Y mH.lt qh.lt om.lt rW.lt wh.lt uD.lt;have arN:(.slice E (i) (F):Value).ownBlock≠some g2:=by rw[Y]; exact qX.jF (A_ _)
  have arO:=cu Y vJ.lt;have yu:=uZ.lt;refine Ln ⟨Fx.iF.of_below s6.old,?_⟩;refine zD<|yc (B:=w.heap.size) (s:=56) (bytes:=448) (k:=i) (m:=1) (v := .slice E (i) (F)) (x:=flat 56 (Xk m b)) (by rfl) rfl rfl rfl Tryz.underlying47 (by kernel_rfl) (by kernel_rfl) rfl rfl rG uZ.aH aad (by omega) (by omega) (by omega) b7.size fun g3 W w6 ho1 hg1 tO hlt1 => ?_;have jr:=yC hg1 rG;have⟨uI,m64,xw,wN,vL,xA,tV,vM⟩:=acQ jr uE wm wo tQ tT uF yD vK;have pz:Fx.Own w6 w.heap.size 84 56 (bK g3 (i+1) W) (i+1) (flat 56 (Xk m b)):=(ho1.congr (fun j J=>Z8 rfl ejp ejx j J));have b8:Below w.heap.size w w6:=xZ b7 hg1 b7.size (fun q hq=>(rG.ge hq).1);refine Ln ⟨jr,?_⟩;refine Rp (pf D 18) (fun _=>iL h2 18)<|gZ<|ji tV 18 (bK g3 (i+1) W) fun w7 uP s7 z4 => ?_;have vN:aP w7 D 20 (kI (Xl m (some ⟨g3,0,none⟩) (i+1) W none 0 0)) 50:=uP.to (Sq _ _ _ _);have qc:=gH s7 tV.ty;have⟨vO,zI,wO,yI,yJ,yK,yt,xB⟩:=acQ qc uI m64 xw wN vL xA vM pz;have b9:=s7.below b8 b8.size (by omega);refine Ln<|Rn<|bP<|sN<|Wl<|Lv (au ((i:Int)+1)) (fA (hx:=Q))<|av (au ((i:Int)+1))<|Ln ?_;have xC:Fx.Own w7 V.heap.size 23 1 (.slice la1 (b.length) (N)) b.length (yH b):=yt.eY (L_ (fun q=>Value.slice q b.length N) eq1.symm)
  skip
  refine gW ⟨i+1,(some ⟨g3,0,none⟩),W,(by omega),P,h2,h3,(h4.trans Fx.ic),Fx.ic,vO,zI,wO,yI,yJ,yK,xC,vN,xB,b9⟩ ?_;show((b.length:Int)-intOf (au ((i:Int)+1))).toNat<_;simp only[Q,intOf]; omega
 refine Lv aF (gN c30 (hx:=Q) (hy:=h4))<|aC<|Ws<|aK<|Wx<|bX<|gP<|bY<|sN<|Ws<|ay<|aU P<|av (pt u)<|av (pf u 27)<|Lv (.map (some m.gb)) (aL pE.aH 27)<|Fx.L.acU (by rfl) rfl rfl rfl qW Tryz.underlying111 fun g4 w8 KA yR s8 z5 => ?_;have⟨Br,BJ,FL,b10⟩:=jN s8.old qW sS mh b5;have Og:=iw KA b5.size;have Oh:=yR.lt;refine aC<|Wb ?_;have Es:Fx.Own w8 w.heap.size 106 5 (.slice none 0 0) 0 (flat 5 (fun k=>jc (m.g (([]:List Nat).getD k 0)))):=tK _ _ _ _ _;refine DU (fun kE f A => ∃ S:Nat->Bool,∃ kk:Nat,∃ K:List Nat,∃ o:Nat,∃ G:Option Addr,∃ H:Nat,kk=unseen S m.gn/\kk=kE/\Sn m.gn S K/\o=K.length/\f 2=(pt D)/\f 57=(pt g4)/\iI A m.gb m.gn (fun i=>m.g i 0) (fun i=>m.g i 1) (vE m.g)/\Fx.Own A w.heap.size 84 56 (.slice E (i) (F)) i (flat 56 (Xk m b))/\aP A D 20 (kI (Xl m E i F G o H)) 50/\Fx.Own A w.heap.size 106 5 (.slice G (o) (H)) o (flat 5 (fun k=>jc (m.g (K.getD k 0))))/\Fx.It A g4 m.gb m.gn S/\Below w.heap.size w A) (unseen (fun _=>false) m.gn) ⟨(fun _=>false),(unseen (fun _=>false) m.gn),[],0,none,0,rfl,rfl,(Sn.start _),rfl,h2,(by rfl),Br,FL,BJ,Es,yR,b10⟩ ?_;rintro kE f2 w9 ⟨S,kk,K,o,G,H,hkk,hkE,U,hgl,M,h7,CU,DX,AY,Hl,ET,b11⟩;refine ay<|Fx.L.ahp (by rfl) rfl rfl h7 CU ET (fun tX => ?_)<|fun C pJ hi1 hS1 Ho mc1 s9 z6 => ?_
 ·skip
  refine av aF<|aC<|Ws<|aK<|Wx<|bX<|gP<|bY<|sN<|Ws ?_;have eL:(K.map fun i=>KH (m.g i)).length=o:=by rw[List.length_map]; exact hgl.symm
  have arP:=U.len;refine Wl<|Lv (pf D 19) (iL M 19)<|Lv (.slice G (o) (H)) (aL AY.aH 19)<|dH (aah h.g U hgl Hl (by omega)) _ rfl ?_;rintro DV ⟨gl,hpm,hup,HY,_,xu,hb2⟩;have b12:=b11.trans hb2;have⟨xL,yV⟩:=Cx xu DX AY;have auO:=yV.lt;refine aC<|ay<|Lv (.agg (aA 20 (kI (Xl m E i F G o H)))) (eT yV.aH 0 (ha:=M))<|dU yV 0 (ha:=M) (h1:=(fun j _=>P6 _ j)) fun Ct xM s10 z7 => ?_;have vg:aP Ct D 20 (kI (Xl m E i F G o H)) 50:=aQ xM;have Aa:=gH s10 yV.ty;have⟨ql,rJ⟩:=Cx Aa xL HY;have b13:=s10.below b12 b12.size (by omega);refine aC (Wr (⟨.agg (aA 20 (kI (Xl m E i F G o H))),rV Tryz.results18 ⟨_,M,aS vg.aH (by kernel_rfl) (by kernel_rfl)⟩,?_⟩));have eil:i=b.length:=by omega
  have egl:o=gl.length:=by rw[hpm.length_eq,eL]
  exact⟨Xl m E i F G o H,b,gl,rfl,{ inn:=rfl,left:=rfl,known:=rfl,nn:=eil,gn:=egl,ls:=hq1,len:=kll,gs:=GrS.of h.g U tX hpm hup,glb:=by omega,n:=ql,g:=rJ },b13⟩
 skip
 have hcm1:=ET.Cy s9;have qG:=CU.eB hcm1 (ET.rb.symm);have sI:=DX.eB hcm1;have uo:=AY.eB hcm1;have wB:=Hl.eB hcm1;have b14:=s9.below b11 b11.size (by omega);refine av aG<|aC<|Ws<|aM<|Wk<|sN<|Wb<|ay<|Lv (.tuple #[Fx.kS (m.g C 0) (m.g C 1),.agg (aA 5 (jc (m.g C)))]) (Fx.TS (k1:=fun i=>m.g i 0) (k2:=fun i=>m.g i 1) (val:=vE m.g) (i:=C) rfl h7 qG mc1 hi1)<|av (.agg (aA 5 (jc (m.g C))))<|qR 5 zR0 fun g5 EM eg5 sJ s11 z8 => ?_;have⟨vk,Ad,wC,Ae,yF,b15⟩:=oJ s11.old qG sI uo wB Ho b14;have lg5:=iw eg5 b14.size;have⟨alS,alT⟩:=sF eg5 qG.lt uo.lt;have QH:(.slice G (o) (H):Value).ownBlock≠some g5:=by rw[eg5]; exact wB.jF (A_ _)
 have tg5:=sJ.lt;refine dU sJ 0 (h1:=(fun j _=>sH _ j)) fun KD vo s12 z9 => ?_;have rM:aP KD g5 5 (jc (m.g C)) 106:=aQ vo;have Ac:=gH s12 sJ.ty;have⟨yX,yY,vw⟩:=zZ Ac vk Ad wC;have CW:=Ae.cZ s12 QH;have FX:=jo Ac yF;have b16:=s12.below b15 b15.size (by omega);refine aC ?_;have arP:=U.len;have hgn1:o<=m.gn:=by omega
 refine Wl<|Lv (pf D 19) (iL M 19)<|Lv (.slice G (o) (H)) (aL vw.aH 19)<|Lv (.agg (aA 5 (jc (m.g C)))) (eT rM.aH 0)<|wV (vs := [(0,.agg (aA 5 (jc (m.g C))))]) (s:=5) (zc:=fun d=>if d<1 then au 0 else if d<3 then aD 0 else if d<4 then au 0 else aD 0) (y:=bB (fun j=>zR0 (j % 5)) (0*5) 5 (jc (m.g C))) (by rfl) rfl rfl Tryz.underlying48 (by kernel_rfl) (by rfl) (by rfl) (by kernel_rfl) (by rw[aZ (off:=0*5) (s:=5) (y:=jc (m.g C)) rfl (bE _ _) (by rfl)]; rfl) rfl fun g6 Lp Z BP s13 z10 => ?_;have⟨FY,HZ,CX,AZ,J3,LV,b17⟩:=jT s13.old yX yY vw CW FX rM b16;have lg6:=iw Z b16.size;have⟨alU,alV⟩:=sF Z yX.lt vw.lt;have alW:(.slice G (o) (H):Value).ownBlock≠some g6:=by rw[Z]; exact CW.jF (A_ _)
 have alX:=cu Z rM.lt;have tg6:=BP.lt;refine yc (B:=w.heap.size) (s:=5) (bytes:=40) (k:=o) (m:=1) (v := .slice G (o) (H)) (x:=flat 5 (fun k=>jc (m.g (K.getD k 0)))) (by rfl) rfl rfl rfl Tryz.underlying48 (by kernel_rfl) (by kernel_rfl) rfl rfl AZ BP.aH aae (by omega) (by omega) (by omega) b17.size fun O X w16 ho2 hg2 NZ hlt2 => ?_;have BO:=yC hg2 AZ;have⟨F3,H6,H7,CY⟩:=K4 BO FY HZ CX J3;have alY:g5≠O:=fun e=>NZ.elim (fun e2=>QH (by rw[e]; exact e2)) (fun e2=>by have:=LV.lt; omega);have FZ:Fx.Own w16 w.heap.size 106 5 (bK O (o+1) X) (o+1) (flat 5 (fun k=>jc (m.g ((K ++ [C]).getD k 0)))):=(ho2.congr (fun j J=>by rw[hgl]at J ⊢; exact Z9 j J));have b18:Below w.heap.size w w16:=xZ b17 hg2 b17.size (fun q hq=>(AZ.ge hq).1);refine Lv (pf D 19) (iL M 19)<|ji H7 19 (bK O (o+1) X) fun Ur CZ Cr z11 => ?_;have Gb:aP Ur D 20 (kI (Xl m E i F (some ⟨O,0,none⟩) (o+1) X)) 50:=CZ.congr (OT _ _ _ _);have FV:=gH Cr H7.ty;have⟨F5,A8,C8,JV⟩:=K4 FV F3 H6 CY FZ;have b19:=Cr.below b18 b18.size (by omega);refine Ln<|bP ?_
 skip
 refine gW ⟨unseen (aO S C true) m.gn,(by have P:=Fx.qb hS1 m.gn hi1; omega),(aO S C true),(unseen (aO S C true) m.gn),(K ++ [C]),o+1,(some ⟨O,0,none⟩),X,rfl,rfl,(U.step hi1 hS1),(by rw[E_,<- hgl]; rfl),M,h7,F5,A8,Gb,JV,C8,b19⟩ (by decide)
end Go.Proofs.YtcbedgfikejkoaaGreatDoor
namespace Go.Proofs.YtcbedgfikejkoaaGreatDoor
open Go.RowKit Go
namespace Rt
section
variable {f:(Nat->Int)->(Nat->Int) × Int} {idx:Nat->Nat} {R:Nat->Nat->Int} {r r':Nat->Nat->Int} {n K k:Nat}
theorem Ed : ∀ {n:Nat},(∀ i,i<n->r i=r' i)->jX f r n=jX f r' n
 | 0,_=>rfl
 | n+1,h=>by unfold jX; rw[Ed (n:=n) fun i a=>h i (by omega),h n (by omega)]
theorem Gx : ∀ {K:Nat},(∀ i j,i<K->j<K->idx i=idx j->i=j)->(dz f idx R K).2=jX f (fun i=>R (idx i)) K/\((dz f idx R K).2=0 -> ∀ k,(dz f idx R K).1 k=R k/\(∀ i,i<K->idx i≠k)\/(dz f idx R K).1 k=(f (R k)).1 /\ ∃ i,i<K/\idx i=k)
 | 0,_=>⟨rfl,fun _ k => .inl ⟨rfl,fun _ h=>M_ h (z_ _)⟩⟩
 | K+1,hi=>by
   obtain⟨q,r⟩:=Gx (K:=K) fun i j a b=>hi i j (by omega) (by omega);unfold jX;rw[<- q];by_cases c:(dz f idx R K).2=0
   ·have n:=r c;have p:(dz f idx R K).1 (idx K)=R (idx K):=by
     rcases n (idx K)with h|⟨_,i,d,g⟩
     ·exact h.1
     ·have:=hi i K (by omega) (by omega) g; omega
    rw[d_ c];have e:dz f idx R (K+1)=(if(f ((dz f idx R K).1 (idx K))).2=0 then(aI (dz f idx R K).1 (idx K) (f ((dz f idx R K).1 (idx K))).1,0)else((dz f idx R K).1,(f ((dz f idx R K).1 (idx K))).2)):=(by show(if _ then _ else _)=_; rw[d_ c]);rw[e,p];by_cases l:(f (R (idx K))).2=0
    ·rw[d_ l];refine⟨l.symm,fun _ k => ?_⟩;show aI (dz f idx R K).1 (idx K) _ k=R k/\_\/aI (dz f idx R K).1 (idx K) _ k=(f (R k)).1/\_;unfold aI;by_cases e:k=idx K
     ·subst e; rw[d_ rfl]; exact .inr ⟨rfl,K,by omega,rfl⟩
     ·rw[b_ e]
      rcases n k with ⟨d,g⟩|⟨d,i,g,h5⟩
      ·refine .inl ⟨d,fun i s m => ?_⟩;by_cases o:i=K
       ·subst o; exact e m.symm
       ·exact g i (by omega) m
      ·exact .inr ⟨d,i,by omega,h5⟩
    ·rw[b_ l]; exact⟨rfl,fun h=>M_ h l⟩
   ·rw[b_ c];have e:dz f idx R (K+1)=dz f idx R K:=(by show(if _ then _ else _)=_; rw[b_ c]);rw[e];exact⟨rfl,fun h=>M_ h c⟩
end
structure Dt(T:dM)(L:dP):Prop where
 has : ∀ k,T.has k=true <-> ∃ i,i<L.nn/\L.id i=k
 n:T.n=L.nn
 par : ∀ i,i<L.nn->T.par (L.id i)=L.par i
section
variable {T:dM} {L:dP} {N:Nat} {x:Int}
theorem Dt.find(h:Dt T L)(b:Inv0 L N)(x:Int):T.has x=true<->0<=bC L.t L.tn x:=by
 rw[h.has,iV,b.Db];constructor
 ·rintro ⟨i,a,e⟩; exact⟨i,a,by rw[(b.tid i a).1]; exact e⟩
 rintro ⟨i,a,e⟩; exact⟨i,a,by rw[<- (b.tid i a).1]; exact e⟩
theorem Dt.findF(h:Dt T L)(a:Inv0 L N)(x:Int):T.has x=false<->bC L.t L.tn x<0:=by
 have:=h.find a x
 cases e:T.has x with
 | false=>rw[e]at this; exact⟨fun _=>by rcases ilt (bC L.t L.tn x)with h1|h1; exact h1; exact M_ (this.2 h1) (by decide),fun _=>rfl⟩
 | true=>rw[e]at this; have:=this.1 rfl; exact⟨fun h=>(nomatch h),fun h=>by omega⟩
theorem Inv0.at(c:Inv0 L N){i:Nat}(hi:i<L.nn):L.node (L.id i)=(i:Int):=by
 rw[c.node,<- (c.tid i hi).1];exact wH (fun a b d f e=>c.aiM a b d f e) (by rw[c.Db]; exact hi)
theorem Dt.next(h:Dt T L)(a:Inv0 L N)(hx:T.has x=true):T.par x=L.t (bC L.t L.tn x).toNat 1:=by
 obtain⟨i,b,rfl⟩:=(h.has x).1 hx;have e:=a.at b;rw[a.node]at e;rw[e,h.par i b];exact((a.tid i b).2).symm
theorem Dt.path(h:Dt T L)(f:T.ok)(a:Inv0 L N)(x:Int):(T.path x).length=fB L.t L.tn x /\ ∀ q,q<(T.path x).length->(T.path x).getD q 0=bF L.t L.tn q x:=by
 have g : ∀ q,q<(T.path x).length->T.has ((T.path x).getD q 0)=true/\(q+1<(T.path x).length->(T.path x).getD (q+1) 0=T.par ((T.path x).getD q 0))/\(q+1=(T.path x).length->T.has (T.par ((T.path x).getD q 0))=false):=tu (f.stop x);have j : ∀ q,q<(T.path x).length->(T.path x).getD q 0=bF L.t L.tn q x:=by
  intro q
  induction q with
  | zero =>
    intro b
    cases hx:T.has x with
    | false=>rw[show T.path x = []from lK hx]at b; exact M_ b (z_ _)
    | true=>rw[dM.step f hx]; rfl
  | succ q ih =>
    intro b;have l:=ih (by omega);have c:=(g q (by show q<(T.path x).length; omega));have e:=c.2.1 b;show(T.path x).getD (q+1) 0=L.t (bC L.t L.tn (bF L.t L.tn q x)).toNat 1;rw[<- l,<- h.next a c.1]
    exact e
 refine⟨?_,j⟩;obtain⟨D,n,m⟩:=a.dep x;refine wD (D:=D) (fun i k => ?_) ?_ m (by omega)
 ·rw[<- j i k,<- h.find a]; exact(g i k).1
 by_cases d:(T.path x).length=0
 ·rw[d];show bC L.t L.tn x<0;rw[<- h.findF a]
  cases hx:T.has x with
  | false=>rfl
  | true=>rw[dM.step f hx]at d; simp at d
 obtain⟨q,b⟩ : ∃ q,(T.path x).length=q+1:=⟨(T.path x).length-1,by omega⟩;have c:=g q (by show q<(T.path x).length; omega);have e:=c.2.2 (by show q+1=(T.path x).length; omega);rw[b];show bC L.t L.tn (L.t (bC L.t L.tn (bF L.t L.tn q x)).toNat 1)<0;rw[<- j q (by omega),<- h.next a c.1,<- h.findF a]
 exact e
theorem aaj(d:Inv0 L N)(x:Int):bC L.t L.tn (bF L.t L.tn (fB L.t L.tn x) x)<0:=by
 obtain⟨D,e,b⟩:=d.dep x;obtain⟨K,f,a,c⟩:=wI D b;rw[<- wD c a b (by omega)]; exact a
theorem Dt.mem(h:Dt T L)(f:T.ok)(d:Inv0 L N)(x y:Int):y∈T.path x <-> ∃ i,i<fB L.t L.tn x/\bF L.t L.tn i x=y:=by
 obtain⟨c,b⟩:=h.path f d x;rw[<- c];constructor
 ·intro g;obtain⟨i,a,e⟩:=List.getElem_of_mem g;refine⟨i,a,?_⟩;rw[<- b i a,r_,o_ a]; exact e
 rintro ⟨i,a,rfl⟩;rw[<- b i a,r_,o_ a]; exact R_ a
theorem Dt.err(h:Dt T L)(l:T.ok)(a:Inv0 L N)(id pa:Int):T.err id pa=jP L.t L.tn id pa:=by
 unfold dM.err sG jP;by_cases c:id=0
 ·rw[d_ c,d_ c]
 rw[b_ c,b_ c];by_cases d:dW T.x T.n id=true
 ·rw[d_ d,d_ ((h.find a id).1 d)]
 rw[b_ d,b_ (fun e=>d ((h.find a id).2 e))];have j:(¬ pa=0/\dW T.x T.n pa=false)<->(pa≠0/\bC L.t L.tn pa<0):=by
  rw[<- h.findF a]; exact Iff.rfl
 by_cases f : ¬ pa=0/\dW T.x T.n pa=false
 ·rw[d_ f,d_ (j.1 f)]
 rw[b_ f,b_ (fun e=>f (j.2 e))];have k:(32<=T.n\/4<=(jO T.x T.p T.n 4 pa).length)<->(32<=L.tn\/DW L.t L.tn pa):=by
  obtain⟨q,r⟩:=h.path l a pa;have v:(T.path pa).length<=4:=dM.zP;have:4<=(T.path pa).length<->DW L.t L.tn pa:=by
   constructor
   ·intro s i u;have b:=(tu (l.stop pa)) i (by show i<(T.path pa).length; omega);rw[<- r i (by omega),<- h.find a]; exact b.1
   ·intro o
    rcases Nat.lt_or_ge (T.path pa).length 4 with b|b
    ·exfalso;have m:=o _ b;rw[q]at m;have:=aaj a pa;omega
    ·exact b
  show(32<=T.n\/4<=(T.path pa).length)<->_;rw[this,h.n,a.Db]
 by_cases g:32<=T.n\/4<=(jO T.x T.p T.n 4 pa).length
 ·rw[d_ g,d_ (k.1 g)]
 rw[b_ g,b_ (fun e=>g (k.2 e))]
end
end Rt
namespace Rt
section
variable {m:dN} {k:Int} {i:Nat}
theorem dN.Ee(b:m.T.ok)(c:m.T.has k=true):m.idx k<m.T.n/\m.T.x (m.idx k)=k:=by
 obtain⟨j,a,e⟩:=iA c;have:m.idx k=j:=nI b.inj a e;rw[this]; exact⟨a,e⟩
theorem MJ(x:Nat->Int)(id:Int) : ∀ n,(∀ i,i<n->x i≠id)->Ag (Fx.aO x n id) (n+1) id=n:=fun n _=>by
 unfold Ag;rw[d_];unfold Fx.aO;rw[d_ rfl]
theorem Jf{x y:Nat->Int}{k:Int} : ∀ {n:Nat},(∀ i,i<n->x i=y i)->Ag x n k=Ag y n k
 | 0,_=>rfl
 | n+1,h=>by unfold Ag; rw[h n (by omega),Jf (n:=n) fun i a=>h i (by omega)]
theorem MK(x:Nat->Int){id k:Int}(n:Nat)(b:id≠k):Ag (Fx.aO x n id) (n+1) k=Ag x n k:=by
 have a:Fx.aO x n id n=id:=by unfold Fx.aO; rw[d_ rfl]
 show(if Fx.aO x n id n=k then n else Ag (Fx.aO x n id) n k)=_;rw[a,b_ b];exact Jf fun i c=>by unfold Fx.aO; rw[b_ (by omega)]
theorem Jg{f g:Nat->Int}{o:Int} : ∀ {n:Nat},(∀ i,i<n->f i=g i)->nC f o n=nC g o n
 | 0,_=>rfl
 | n+1,h=>by unfold nC; rw[Jg (n:=n) fun i a=>h i (by omega),h n (by omega)]
theorem ML{f:Nat->Int}{o v:Int}{k:Nat} : ∀ n,k<=n->nC (Fx.cO f k v) o (n+1)=nC f o n+if v / 1099511627776=o then 1 else 0
 | 0,h=>by
   obtain rfl:k=0:=(by omega);show 0+(if Fx.cO f 0 v 0 / 1099511627776=o then 1 else 0)=0+_;rw[dI]
 | n+1,h=>by
   by_cases e:k=n+1
   ·subst e;show nC (Fx.cO f (n+1) v) o (n+1)+(if Fx.cO f (n+1) v (n+1) / 1099511627776=o then 1 else 0)=_;rw[dI,Jg (g:=f) fun i a=>EU a]
   ·show nC (Fx.cO f k v) o (n+1)+(if Fx.cO f k v (n+1) / 1099511627776=o then 1 else 0)=nC f o n+(if f n / 1099511627776=o then 1 else 0)+_;rw[ML n (by omega),EW (by omega)];show _+(if f n / 1099511627776=o then 1 else 0)=_;omega
theorem QI{f:Nat->Int}{o:Int} : ∀ n,nC f o n<=n
 | 0=>A_ _
 | n+1=>by have:=QI (f:=f) (o:=o) n; unfold nC; split <;> omega
theorem Du{P:Nat->Bool}{n:Nat}:0<=fK P n <-> ∃ j,j<n/\P j=true:=by
 rcases iR P n with ⟨k,c,e,a⟩|⟨e,h⟩
 ·rw[e]; exact⟨fun _=>⟨k,c,a⟩,fun _=>by omega⟩
 rw[e]; exact⟨fun h=>by omega,fun⟨j,b,a⟩=>by rw[h j b]at a; cases a⟩
end
structure fZ(m:dN)(L:dP):Prop where
 T:Dt m.T L
 inn:m.inn=L.inn
 left:m.left=L.left
 known:m.known=L.known
 row : ∀ i,i<L.nn->EC m (L.id i)=L.R i
 own : ∀ a,a<6->m.own a=((nC L.id ((a:Int)+1) L.nn:Nat):Int)
 gi : ∀ i j,i<m.gn->j<m.gn->m.g i 0=m.g j 0->m.g i 1=m.g j 1->i=j
 gn:m.gn=L.gn
 g1 : ∀ q,q<L.gn -> ∃ j,j<m.gn/\m.g j=L.g q
 g2 : ∀ j,j<m.gn -> ∃ q,q<L.gn/\L.g q=m.g j
 ask : ∀(a:Nat) (r:Int),a<6->(iB m ((a:Int)+1) r=true <-> ∃ j,j<L.rn a/\L.rq a j=r)
 ga:Sk m
 li : ∀ p q,p<L.gn->q<L.gn->L.g p 0=L.g q 0->L.g p 1=L.g q 1->p=q
section
variable {m:dN} {L:dP} {N:Nat} {v:EvM} {x:Int}
theorem fZ.node(h:fZ m L)(a:Inv0 L N)(x:Int):m.T.has x=true<->0<=L.node x:=by rw[h.T.find a,a.node]
theorem fZ.MN(h:fZ m L)(a:Inv0 L N)(x:Int):m.T.has x=false<->L.node x<0:=by rw[h.T.findF a,a.node]
theorem Inv0.aak(a:Inv0 L N)(hx:0<=L.node x):(L.node x).toNat<L.nn/\L.id (L.node x).toNat=x:=by
 rw[a.node]at hx ⊢;obtain⟨j,b,e,c⟩:=wz hx;rw[e];rw[a.Db]at b;exact⟨b,by show L.id j=x; rw[<- (a.tid j b).1]; exact c⟩
theorem fZ.rk(h:fZ m L)(c:Inv0 L N)(hx:0<=L.node x):EC m x=L.R (L.node x).toNat:=by
 obtain⟨a,b⟩:=c.aak hx;rw[<- h.row _ a,b]
theorem fZ.Di(h:fZ m L)(f:m.T.ok)(a:Inv0 L N)(hx:m.T.has x=true)(r:Nat->Int):fZ (Di m x r) { L with R:=aI L.R (L.node x).toNat r }:=by
 have l:=(h.node a x).1 hx;obtain⟨j,c⟩:=a.aak l;refine { h with row:=fun i b => ?_,T:=⟨h.T.has,h.T.n,h.T.par⟩ };show Fx.aO m.R (m.idx x) r (m.idx (L.id i))=aI L.R (L.node x).toNat r i;unfold Fx.aO aI;by_cases e:i=(L.node x).toNat
 ·subst e; rw[c,d_ rfl,d_ rfl]
 rw[b_ e,b_]
 ·exact h.row i b
 intro g;have d:=(dN.Ee f ((h.T.has _).2 ⟨i,b,rfl⟩)).2;have k:=(dN.Ee f hx).2;rw[g,k]at d;exact e (a.inj i _ b j (by rw[c]; exact d.symm))
theorem fZ.along(h:fZ m L)(l:m.T.ok)(g:Inv0 L N)(f:(Nat->Int)->(Nat->Int) × Int)(x:Int) :
 dF m f (m.T.path x)=(dz f (pG L x) L.R (fB L.t L.tn x)).2/\((dz f (pG L x) L.R (fB L.t L.tn x)).2=0 -> ∀ i,i<L.nn->(rP m f (m.T.path x)).R (m.idx (L.id i))=(dz f (pG L x) L.R (fB L.t L.tn x)).1 i):=by
 obtain⟨z,p⟩:=h.T.path l g x;have w:(m.T.path x).Nodup:=dM.Bg l x;have o : ∀ i,i<fB L.t L.tn x->0<=L.node (bF L.t L.tn i x):=fun i c=>by rw[g.node]; exact BZ c
 have y : ∀ i j,i<fB L.t L.tn x->j<fB L.t L.tn x->pG L x i=pG L x j->i=j:=fun i j c v e=>by
  have a:=g.aak (o i c);have b:=g.aak (o j v);have e:(L.node (bF L.t L.tn i x)).toNat=(L.node (bF L.t L.tn j x)).toNat:=e;rw[e]at a;have k:bF L.t L.tn i x=bF L.t L.tn j x:=a.2.symm.trans b.2;rw[<- p i (by omega),<- p j (by omega)]at k;exact Dq w (by omega) (by omega) k
 obtain⟨A,B⟩:=Gx (f:=f) (idx:=pG L x) (R:=L.R) y;refine⟨?_,fun s i c => ?_⟩
 ·rw[A];unfold dF;rw[z];exact Ed fun i c=>by
   rw[p i (by omega)];exact h.rk g (o i c)
 have u:=(dN.Ee l ((h.T.has _).2 ⟨i,c,rfl⟩)).2;show(if m.T.x (m.idx (L.id i))∈m.T.path x then(f (m.R (m.idx (L.id i)))).1 else m.R (m.idx (L.id i)))=_;rw[u,show m.R (m.idx (L.id i))=L.R i from h.row i c];have r:L.id i∈m.T.path x <-> ∃ q,q<fB L.t L.tn x/\pG L x q=i:=by
  rw[h.T.mem l g];constructor
  ·rintro ⟨q,d,e⟩;exact⟨q,d,(EX g c d).2 e⟩
  ·rintro ⟨q,d,e⟩;exact⟨q,d,(EX g c d).1 e⟩
 rcases B s i with ⟨n,k⟩|⟨n,q,d,k⟩
 ·rw[n,b_];rw[r]; rintro ⟨q,d,e⟩; exact k q d e
 rw[n,d_ (r.2 ⟨q,d,k⟩)]
theorem fZ.asked(h:fZ m L)(f:bR v=true)(r:Int):iB m v.o r=true<->0<=L.lU (aN v) r:=by
 obtain⟨a,c,d⟩:=fq (jg f);have:aN v=a:=by unfold aN; omega
 rw[this,d,h.ask a r c];unfold dP.lU;rw[Du];constructor
 ·rintro ⟨j,b,e⟩; exact⟨j,b,f_ e⟩
 rintro ⟨j,b,e⟩; exact⟨j,b,h_ e⟩
theorem fZ.grant(h:fZ m L)(o r:Int):(iW m o r=true<->0<=L.grant o r)/\(0<=L.grant o r->(L.grant o r).toNat<L.gn/\fF m o r<m.gn/\m.g (fF m o r)=L.g (L.grant o r).toNat/\L.g (L.grant o r).toNat 0=o/\L.g (L.grant o r).toNat 1=r):=by
 have k1:iW m o r=true <-> ∃ j,j<m.gn/\m.g j 0=o/\m.g j 1=r:=lY;have k2:0<=L.grant o r <-> ∃ q,q<L.gn/\L.g q 0=o/\L.g q 1=r:=by
  unfold dP.grant;rw[Du];constructor
  ·rintro ⟨j,a,e⟩; rw[T_]at e; exact⟨j,a,h_ e.1,h_ e.2⟩
  ·rintro ⟨j,a,b,c⟩; exact⟨j,a,by rw[f_ b,f_ c]; rfl⟩
 refine⟨?_,fun l => ?_⟩
 ·rw[k1,k2];constructor
  ·rintro ⟨j,a,b,c⟩;obtain⟨q,d,e⟩:=h.g2 j a;exact⟨q,d,by rw[e]; exact b,by rw[e]; exact c⟩
  rintro ⟨q,d,b,c⟩;obtain⟨j,a,e⟩:=h.g1 q d;exact⟨j,a,by rw[e]; exact b,by rw[e]; exact c⟩
 have : ∃ q,q<L.gn/\L.grant o r=(q:Int)/\L.g q 0=o/\L.g q 1=r:=by
  unfold dP.grant at l ⊢
  rcases iR (fun i=>decide (L.g i 0=o)&&decide (L.g i 1=r)) L.gn with ⟨q,d,e,k⟩|⟨e,_⟩
  ·rw[T_]at k; exact⟨q,d,e,h_ k.1,h_ k.2⟩
  ·omega
 obtain⟨q,d,e,b,c⟩:=this;rw[e];obtain⟨j,a,f⟩:=h.g1 q d;have:fF m o r=j:=zQ h.gi a (by show m.g j 0=o; rw[f]; exact b) (by show m.g j 1=r; rw[f]; exact c);rw[this];exact⟨d,a,f,b,c⟩
theorem fZ.ajx(h:fZ m L)(i:m.T.ok)(g:Inv0 L N)(e:bR v=true)(l:v.kind=1):jw m v=kW L v:=by
 obtain⟨a,j,d⟩:=fq (jg e);have k:aN v=a:=by unfold aN; omega
 unfold jw kW;rw[k,h.own a j,d];have b:(5<=((nC L.id ((a:Int)+1) L.nn:Nat):Int)\/140737488355328<v.aT)<->(5<=nC L.id ((a:Int)+1) L.nn\/140737488355328<v.aT):=by omega
 have f:oC v=jE ((a:Int)+1) v.seq:=by rw[<- d,sK e]; rfl
 by_cases c:5<=nC L.id ((a:Int)+1) L.nn\/140737488355328<v.aT
 ·rw[d_ c,d_ (b.2 c)]
 rw[b_ c,b_ (fun q=>c (b.1 q)),h.T.err i g,f]
theorem fZ.make(h:fZ m L)(A:m.T.ok)(r:Inv0 L N)(l:bR v=true)(D:v.kind=1)(z:kW L v=0):fZ (Eb m v) (rH L v):=by
 obtain⟨k,g,H,I,J,K,M,y,P,Q,G⟩:=xQ r l D z;have t:=sK l;have O:=oP l;have f:oC v=jE v.o v.seq:=by rw[t]; rfl
 have w:m.T.has (oC v)=false:=by
  rw[h.T.findF r,f,wG];exact G.no
 have E : ∀ i,i<m.T.n->m.T.x i≠oC v:=fun i d e=>by
  have:=dM.Au d; rw[e,w]at this; cases this
 rw[y];have C : ∀ q,(m.T.put (oC v) v.node).has q=true<->(m.T.has q=true\/q=oC v):=fun q=>by
  rw[dM.jQ,Bool.or_eq_true,Q_];exact⟨fun h=>h.imp id Eq.symm,fun h=>h.imp id Eq.symm⟩
 have u : ∀ q,q<L.nn->L.id q≠oC v:=fun q F e=>by
  have:=(h.T.has _).2 ⟨q,F,rfl⟩; rw[e,w]at this; cases this
 refine {
  T:=⟨fun q => ?_,?_,fun i d => ?_⟩
  inn:=h.inn
  left:=h.left
  known:=h.known
  row:=fun i d => ?_
  own:=fun a s => ?_
  gi:=h.gi
  gn:=h.gn
  g1:=h.g1
  g2:=h.g2
  ask:=h.ask
  ga:=h.ga
  li:=h.li }
 ·show(m.T.put (oC v) v.node).has q=true <-> ∃ i,i<L.nn+1/\Fx.cO L.id k (jE v.o v.seq) i=q;rw[C,h.T.has];constructor
  ·rintro (⟨i,d,e⟩|e)
   ·obtain⟨j,b,_,c⟩:=BX (k:=k) d;exact⟨j,b,by rw[c]; exact e⟩
   exact⟨k,by omega,by rw[dI,e,f]⟩
  rintro ⟨i,d,e⟩
  rcases dY g d with rfl|⟨j,b,c,_,_⟩
  ·rw[dI]at e; exact .inr (by rw[<- e,f])
  rw[c]at e; exact .inl ⟨j,b,e⟩
 ·show m.T.n+1=L.nn+1;rw[h.T.n]
 ·show(m.T.put (oC v) v.node).par (Fx.cO L.id k (jE v.o v.seq) i)=Fx.cO L.par k v.node i;rw[dM.uM]
  rcases dY g d with rfl|⟨j,b,c,_,_⟩
  ·rw[dI,dI,d_ f]
  rw[c,c,b_ (fun e=>u j b e.symm)]; exact h.T.par j b
 ·show Fx.aO m.R m.T.n _ (Ag (Fx.aO m.T.x m.T.n (oC v)) (m.T.n+1) (Fx.cO L.id k (jE v.o v.seq) i))=Fx.cO L.R k _ i
  rcases dY g d with rfl|⟨j,b,c,_,_⟩
  ·rw[dI,dI,<- f,MJ _ _ _ E]; unfold Fx.aO; rw[d_ rfl]
  rw[c,c,MK _ _ (fun e=>u j b e.symm)];have p:=(dN.Ee A ((h.T.has _).2 ⟨j,b,rfl⟩)).1;have p:Ag m.T.x m.T.n (L.id j)<m.T.n:=p;unfold Fx.aO;rw[b_ (by omega)];exact h.row j b
 show aI m.own (aN v) (m.own (aN v)+1) a=((nC (Fx.cO L.id k (jE v.o v.seq)) ((a:Int)+1) (L.nn+1):Nat):Int);rw[ML _ g,t];have B:(1099511627776*v.o+v.seq) / 1099511627776=v.o:=by omega
 rw[B];unfold aI;by_cases e:a=aN v
 ·rw[d_ e,<- e,h.own a s,d_ (by unfold aN at e; omega)]; rfl
 rw[b_ e,h.own a s,b_ (by unfold aN at e; omega)]; rfl
attribute [local irreducible] fB dz dF in
theorem fZ.qC(h:fZ m L)(d:m.T.ok)(g:Inv0 L N)(i:bR v=true):kF m v=jv L v:=by
 unfold kF jv;by_cases c:iB m v.o v.req=true
 ·rw[d_ c,d_ ((h.asked i _).1 c)]
 rw[b_ c,b_ (fun e=>c ((h.asked i _).2 e))];obtain⟨j,_⟩:=h.T.path d g v.node;have f:m.T.has v.node=false<->fB L.t L.tn v.node=0:=by
  rw[<- j];constructor
  ·intro b; rw[show m.T.path v.node = []from lK b]; rfl
  ·intro b
   cases e:m.T.has v.node with
   | false=>rfl
   | true=>rw[dM.step d e]at b; simp at b
 by_cases a:m.T.has v.node=false
 ·rw[d_ a,d_ (f.1 a)]
 rw[b_ a,b_ (fun e=>a (f.2 e))];exact(h.along d g _ _).1
theorem Gy{k1 k2:Nat->Int}{n:Nat}{a b o r:Int}:Ci (Fx.aO k1 n a) (Fx.aO k2 n b) (n+1) o r=true<->(Ci k1 k2 n o r=true\/(a=o/\b=r)):=by
 rw[lY,lY];unfold Fx.aO;constructor
 ·rintro ⟨j,f,c,d⟩;by_cases e:j=n
  ·subst e; rw[d_ rfl]at c d; exact .inr ⟨c,d⟩
  rw[b_ e]at c d; exact .inl ⟨j,by omega,c,d⟩
 rintro (⟨j,f,c,d⟩|⟨c,d⟩)
 ·exact⟨j,by omega,by rw[b_ (by omega)]; exact c,by rw[b_ (by omega)]; exact d⟩
 exact⟨n,by omega,by rw[d_ rfl]; exact c,by rw[d_ rfl]; exact d⟩
theorem fZ.QJ(h:fZ m L)(w:bR v=true)(d:dN)(f:dP)(i:d.an=m.an+1)(k:d.ao=Fx.aO m.ao m.an v.o)(l:d.ar=Fx.aO m.ar m.an v.req)(n:f.rn=aI L.rn (aN v) (L.rn (aN v)+1))(p:f.rq=aI L.rq (aN v) (aI (L.rq (aN v)) (L.rn (aN v)) v.req)) :
 (∀(a:Nat) (r:Int),a<6->(iB d ((a:Int)+1) r=true <-> ∃ j,j<f.rn a/\f.rq a j=r))/\(∀ o r,iB m o r=true->iB d o r=true)/\iB d v.o v.req=true:=by
 obtain⟨b,x,t⟩:=fq (jg w);have u:aN v=b:=by unfold aN; omega
 have g : ∀ o r,iB d o r=true<->(iB m o r=true\/(v.o=o/\v.req=r)):=fun o r=>by
  unfold iB; rw[i,k,l]; exact Gy
 refine⟨fun a r q => ?_,fun o r h=>(g o r).2 (.inl h),(g _ _).2 (.inr ⟨rfl,rfl⟩)⟩;rw[g,h.ask a r q,n,p,u];unfold aI;by_cases e:a=b
 ·subst e;rw[d_ rfl,d_ rfl];constructor
  ·rintro (⟨j,s,e⟩|⟨_,e⟩)
   ·exact⟨j,by omega,by show(if j=L.rn a then v.req else L.rq a j)=r; rw[b_ (by omega)]; exact e⟩
   exact⟨L.rn a,by omega,by show(if L.rn a=L.rn a then v.req else _)=r; rw[d_ rfl]; exact e⟩
  rintro ⟨j,s,e⟩;have e:(if j=L.rn a then v.req else L.rq a j)=r:=e;by_cases c:j=L.rn a
  ·rw[d_ c]at e; exact .inr ⟨t,e⟩
  rw[b_ c]at e; exact .inl ⟨j,by omega,e⟩
 rw[b_ e,b_ e];exact⟨fun h=>h.elim id fun h=>by omega,.inl⟩
attribute [local irreducible] fB dz dF in
theorem fZ.take(h:fZ m L)(F:m.T.ok)(E:Inv0 L N)(D:bR v=true)(t:jv L v=0):fZ (kZ m v) (mW L v):=by
 unfold jv at t;split at t
 ·cases t
 rename_i c1;split at t
 ·cases t
 have I:=(h.along F E (fun x=>bG x v.o v.aT) v.node).2 t;have G : ¬ iB m v.o v.req=true:=fun e=>c1 ((h.asked D _).1 e);obtain⟨k1,k2,J⟩:=h.QJ D (kZ m v) (mW L v) rfl rfl rfl rfl rfl;have s : ∀ j,(kZ m v).g j=if j=m.gn then qx v else m.g j:=fun j=>rfl;have A:qx v 0=v.o:=rfl;have B:qx v 1=v.req:=rfl;have y : ∀ j,j<m.gn -> ¬ (m.g j 0=v.o/\m.g j 1=v.req):=fun j d e=>G (by have:=h.ga j d; rw[e.1,e.2]at this; exact this);have u:=Fx.wY (fun i=>DY v (L.g i)) L.gn
 refine {
  T:=⟨h.T.has,h.T.n,h.T.par⟩
  inn:=h.inn
  left:=h.left
  known:=h.known
  row:=I
  own:=h.own
  gi:=fun i j r d b a => ?_
  gn:=by show m.gn+1=L.gn+1; rw[h.gn]
  g1:=fun q f => ?_
  g2:=fun j d => ?_
  ask:=k1
  ga:=fun i r => ?_
  li:=fun p q z f b a => ?_ }
 ·have r:i<m.gn+1:=r;have d:j<m.gn+1:=d;rw[s,s]at b a;by_cases c:i=m.gn
  ·by_cases l:j=m.gn
   ·omega
   rw[d_ c,b_ l,A]at b; rw[d_ c,b_ l,B]at a;exact M_ ⟨b.symm,a.symm⟩ (y j (by omega))
  by_cases l:j=m.gn
  ·rw[b_ c,d_ l,A]at b; rw[b_ c,d_ l,B]at a;exact M_ ⟨b,a⟩ (y i (by omega))
  rw[b_ c,b_ l]at b a; exact h.gi i j (by omega) (by omega) b a
 ·have f:q<L.gn+1:=f;show ∃ j,j<m.gn+1/\(kZ m v).g j=Fx.cO L.g (Fx.down (fun i=>DY v (L.g i)) L.gn) (qx v) q
  rcases dY u f with e|⟨j,d,a,_,_⟩
  ·rw[e,dI]; exact⟨m.gn,by omega,by rw[s,d_ rfl]⟩
  rw[a];obtain⟨i,r,w⟩:=h.g1 j d;exact⟨i,by omega,by rw[s,b_ (by omega)]; exact w⟩
 ·have d:j<m.gn+1:=d;show ∃ q,q<L.gn+1/\Fx.cO L.g (Fx.down (fun i=>DY v (L.g i)) L.gn) (qx v) q=(kZ m v).g j;rw[s];by_cases c:j=m.gn
  ·rw[d_ c]; exact⟨_,by omega,dI⟩
  rw[b_ c];obtain⟨q,f,e⟩:=h.g2 j (by omega);obtain⟨K,H,_,a⟩:=BX (k:=Fx.down (fun i=>DY v (L.g i)) L.gn) f;exact⟨K,H,by rw[a]; exact e⟩
 ·have r:i<m.gn+1:=r;rw[s];by_cases c:i=m.gn
  ·rw[d_ c]; exact J
  rw[b_ c]; exact k2 _ _ (h.ga i (by omega))
 have z:p<L.gn+1:=z;have f:q<L.gn+1:=f;have C : ∀ j,j<L.gn -> ¬ (L.g j 0=v.o/\L.g j 1=v.req):=fun j d e=>by
  obtain⟨i,r,w⟩:=h.g1 j d;rw[<- w]at e;exact y i r e
 have b:Fx.cO L.g (Fx.down (fun i=>DY v (L.g i)) L.gn) (qx v) p 0=Fx.cO L.g (Fx.down (fun i=>DY v (L.g i)) L.gn) (qx v) q 0:=b;have a:Fx.cO L.g (Fx.down (fun i=>DY v (L.g i)) L.gn) (qx v) p 1=Fx.cO L.g (Fx.down (fun i=>DY v (L.g i)) L.gn) (qx v) q 1:=a;generalize Fx.down (fun i=>DY v (L.g i)) L.gn=k at b a u
 rcases dY u z with c|⟨j,d,f1,f2,f3⟩
 ·rcases dY u f with l|⟨j',hj',f1',f2',f3'⟩
  ·omega
  rw[c,dI,f1']at b a; exact M_ ⟨b.symm,a.symm⟩ (C j' hj')
 rcases dY u f with l|⟨j',hj',f1',f2',f3'⟩
 ·rw[l,dI,f1]at b a; exact M_ ⟨b,a⟩ (C j d)
 rw[f1,f1']at b a;have:=h.li j j' d hj' b a;omega
attribute [local irreducible] fB dz dF in
theorem fZ.qD(h:fZ m L)(l:m.T.ok)(k:Inv0 L N)(f:bR v=true):jH m v=jd L v:=by
 unfold jH jd;by_cases c:iB m v.o v.req=true
 ·rw[d_ c,d_ ((h.asked f _).1 c)]
 rw[b_ c,b_ (fun e=>c ((h.asked f _).2 e))];obtain⟨d,j⟩:=h.grant v.o v.of;by_cases b:0<=L.grant v.o v.of
 ·obtain⟨p,r,i,s,t⟩:=j b;have n:=d.2 b;have e:(iW m v.o v.of=false\/m.g (fF m v.o v.of) 4≠0)<->(L.grant v.o v.of<0\/L.g (yZ L v) 4≠0):=by
   rw[i,n];show _<->_\/L.g (L.grant v.o v.of).toNat 4≠0;constructor
   ·rintro (h|h)
    ·cases h
    ·exact .inr h
   ·rintro (h|h)
    ·omega
    ·exact .inr h
  by_cases a:L.grant v.o v.of<0\/L.g (yZ L v) 4≠0
  ·rw[d_ a,d_ (e.2 a)]
  rw[b_ a,b_ (fun q=>a (e.1 q)),i];exact(h.along l k _ _).1
 rw[d_ (.inl (by
  cases e:iW m v.o v.of with
  | false=>rfl
  | true=>exact M_ (d.1 e) b)),d_ (.inl (by omega))]
attribute [local irreducible] fB dz dF in
theorem fZ.free(h:fZ m L)(G:m.T.ok)(F:Inv0 L N)(I:bR v=true)(k:jd L v=0):fZ (iQ m v) (kX L v):=by
 unfold jd at k;split at k
 ·cases k
 split at k
 ·cases k
 rename_i c2;have E:0<=L.grant v.o v.of:=by rcases ilt (L.grant v.o v.of)with h1|h1; exact M_ (.inl h1) c2; exact h1
 obtain⟨C,D,t,K,M⟩:=(h.grant v.o v.of).2 E;have H:=(h.along G F (fun x=>bH x v.o (L.g (yZ L v) 3)) (L.g (yZ L v) 2)).2 k;obtain⟨k1,k2,J⟩:=h.QJ I (iQ m v) (kX L v) rfl rfl rfl rfl rfl;have A:yZ L v=(L.grant v.o v.of).toNat:=rfl;have w : ∀ j,(iQ m v).g j=if j=fF m v.o v.of then upd (m.g (fF m v.o v.of)) 4 v.req else m.g j:=fun j=>rfl;have u : ∀ q,(kX L v).g q=if q=yZ L v then aI (L.g (yZ L v)) 4 v.req else L.g q:=fun q=>rfl;have B:upd (m.g (fF m v.o v.of)) 4 v.req=aI (L.g (yZ L v)) 4 v.req:=by rw[t]; rfl
 have f : ∀ j p,(p=0\/p=1)->(iQ m v).g j p=m.g j p:=fun j p s=>by
  rw[w];by_cases c:j=fF m v.o v.of
  ·subst c; rw[d_ rfl]; rcases s with rfl|rfl <;> rfl
  ·rw[b_ c]
 have z : ∀ j p,(p=0\/p=1)->(kX L v).g j p=L.g j p:=fun j p s=>by
  rw[u];by_cases c:j=yZ L v
  ·subst c; rw[d_ rfl]; rcases s with rfl|rfl <;> rfl
  ·rw[b_ c]
 refine {
  T:=⟨h.T.has,h.T.n,h.T.par⟩
  inn:=h.inn
  left:=h.left
  known:=h.known
  row:=fun i r => ?_
  own:=h.own
  gi:=fun i j r a l d=>h.gi i j r a (by rw[f i 0 (.inl rfl),f j 0 (.inl rfl)]at l; exact l) (by rw[f i 1 (.inr rfl),f j 1 (.inr rfl)]at d; exact d)
  gn:=h.gn
  g1:=fun q b => ?_
  g2:=fun j a => ?_
  ask:=k1
  ga:=fun i r=>by rw[f i 0 (.inl rfl),f i 1 (.inr rfl)]; exact k2 _ _ (h.ga i r)
  li:=fun p q s b l d=>h.li p q s b (by rw[z p 0 (.inl rfl),z q 0 (.inl rfl)]at l; exact l) (by rw[z p 1 (.inr rfl),z q 1 (.inr rfl)]at d; exact d) }
 ·have:=H i r;show(rP m (fun x=>bH x v.o (m.g (fF m v.o v.of) 3)) (m.T.path (m.g (fF m v.o v.of) 2))).R (m.idx (L.id i))=_;rw[t]; exact this
 ·have b:q<L.gn:=b;rw[u];by_cases c:q=yZ L v
  ·rw[d_ c]; exact⟨fF m v.o v.of,D,by rw[w,d_ rfl,B]⟩
  rw[b_ c];obtain⟨j,a,y⟩:=h.g1 q b;refine⟨j,a,?_⟩;rw[w,b_]
  ·exact y
  intro e;rw[e,t]at y;exact c (h.li q _ b C (congrFun y.symm 0) (congrFun y.symm 1))
 have a:j<m.gn:=a;rw[w];by_cases c:j=fF m v.o v.of
 ·rw[d_ c]; exact⟨yZ L v,C,by rw[u,d_ rfl,B]⟩
 rw[b_ c];obtain⟨q,b,e⟩:=h.g2 j a;refine⟨q,b,?_⟩;rw[u,b_]
 ·exact e
 intro d;rw[d]at e;exact c (h.gi j _ a D (by rw[t,<- e,A]) (by rw[t,<- e,A]))
theorem fZ.move(h:fZ m L)(i:m.T.ok)(a:Inv0 L N)(k:bR v=true)(j:v.kind=5):kY m v=oO L v/\(oO L v=0->fZ (D8 m v) (Bc L v)):=by
 obtain⟨b,l,n⟩:=Qr k j;unfold kY oO;by_cases c:L.node v.node<0
 ·rw[d_ c,d_ ((h.MN a _).2 c)];exact⟨rfl,fun h=>by cases h⟩
 have f:0<=L.node v.node:=by omega
 rw[b_ c,b_ (fun e=>c ((h.MN a _).1 e)),h.inn];have g:uq m v=wF L v:=by unfold uq wF; rw[<- h.rk a f]; rfl
 have e:(v.dst<1\/6<v.dst\/L.inn (v.dst-1).toNat=false)<->L.inn (v.dst-1).toNat=false:=⟨fun h=>by rcases h with h|h|h; omega; omega; exact h,fun h => .inr (.inr h)⟩
 by_cases d:L.inn (v.dst-1).toNat=false
 ·rw[d_ d,d_ (e.2 d)];exact⟨rfl,fun h=>by cases h⟩
 rw[b_ d,b_ (fun q=>d (e.1 q)),g];refine⟨rfl,fun _ => ?_⟩;have:=h.Di i a ((h.node a _).2 f) (wF L v).1;unfold D8 Bc;rw[g]; exact this
theorem fZ.raise(h:fZ m L)(f:m.T.ok)(a:Inv0 L N):jR m v=xP L v/\(xP L v=0->fZ (vG m v) (Gd L v)):=by
 unfold jR xP;by_cases c:L.node v.node<0
 ·rw[d_ c,d_ ((h.MN a _).2 c)];exact⟨rfl,fun h=>by cases h⟩
 have b:0<=L.node v.node:=by omega
 have d:m.R (m.idx v.node)=L.R (L.node v.node).toNat:=h.rk a b;rw[b_ c,b_ (fun e=>c ((h.MN a _).1 e)),d];refine⟨rfl,fun _ => ?_⟩;unfold vG Gd;rw[d];exact h.Di f a ((h.node a _).2 b) _
theorem fZ.does(h:fZ m L)(c:m.T.ok)(b:Inv0 L N)(d:bR v=true):fM m v=dX L v/\(dX L v=0->fZ (je m v) (iE L v)):=by
 have j:=jC d;unfold fM dX je iE;by_cases k1:v.kind=1
 ·rw[d_ k1,d_ k1,d_ k1,d_ k1]; exact⟨h.ajx c b d k1,fun e=>h.make c b d k1 e⟩
 rw[b_ k1,b_ k1,b_ k1,b_ k1];by_cases k2:v.kind=2
 ·rw[d_ k2,d_ k2,d_ k2,d_ k2]; exact h.raise c b
 rw[b_ k2,b_ k2,b_ k2,b_ k2];by_cases f:v.kind=3
 ·rw[d_ f,d_ f,d_ f,d_ f]; exact⟨h.qC c b d,fun e=>h.take c b d e⟩
 rw[b_ f,b_ f,b_ f,b_ f];by_cases g:v.kind=4
 ·rw[d_ g,d_ g,d_ g,d_ g]; exact⟨h.qD c b d,fun e=>h.free c b d e⟩
 rw[b_ g,b_ g,b_ g,b_ g];by_cases a:v.kind=5
 ·rw[d_ a,d_ a,d_ a,d_ a]; exact h.move c b d a
 rw[b_ a,b_ a,b_ a,b_ a];by_cases i:v.kind=6
 ·rw[d_ i,d_ i,d_ i];exact⟨rfl,fun _ => { h with T:=⟨h.T.has,h.T.n,h.T.par⟩,inn:=by show aI m.inn _ true=aI L.inn _ true; rw[h.inn] }⟩
 rw[b_ i,b_ i,b_ i];exact⟨rfl,fun _ => { h with T:=⟨h.T.has,h.T.n,h.T.par⟩,left:=by show aI m.left _ true=aI L.left _ true; rw[h.left] }⟩
theorem fZ.apply(h:fZ m L)(f:m.T.ok)(d:Inv0 L N)(v:EvM):cK m v=bD L v/\fZ (jY m v) (bV L v):=by
 have e:cK m v=bD L v:=by
  unfold cK bD;rw[h.known,h.inn,h.left]
  cases b:bR v with
  | false=>rfl
  | true =>
    rw[(h.does f d b).1]
 refine⟨e,?_⟩;unfold jY bV;rw[e];by_cases c:bD L v=0
 ·rw[d_ c,d_ c];have b:=(Ew (jD c)).1;have g:dX L v=0:=by
   unfold bD at c;rw[b_ (by rw[b]; decide)]at c;split at c; · cases c
   split at c; · cases c
   split at c; · cases c
   exact c
  have a:=(h.does f d b).2 g;exact { a with T:=⟨a.T.has,a.T.n,a.T.par⟩,known:=by show aI (je m v).known _ _=aI (iE L v).known _ _; rw[a.known] }
 rw[b_ c,b_ c]; exact h
theorem fZ.sound(h:fZ m L)(k:m.T.ok)(c:Inv0 L N):QlK m := {
 own:=fun a l=>by
  have b:=QI (f:=L.id) (o:=(a:Int)+1) L.nn;have d:=c.nn;rw[h.own a l]; omega
 row:=fun i g p n=>by
  obtain⟨j,hj,e⟩:=(h.T.has _).1 (dM.Au g);have b:=h.row j hj;rw[e]at b;have d:m.idx (m.T.x i)=i:=nI k.inj g rfl;unfold EC at b;rw[d]at b;rw[b];exact mI (c.may j hj) p n
 ga:=h.ga
 kn:=by rw[h.known]; exact c.kn }
end
end Rt
namespace Rt
def oV(x:Nat->Int):Int:=x 0*18446744073709551616+x 1
structure yG(L:dP):Prop where
 up : ∀ i j,i<j->j<L.gn->oV (L.g i)<oV (L.g j)
 wf : ∀ q,q<L.gn->iY (L.g q 1)/\iY (L.g q 4)
 ga : ∀ q,q<L.gn->1<=L.g q 0/\L.g q 0<=6 /\ ∃ j,j<L.rn (L.g q 0-1).toNat/\L.rq (L.g q 0-1).toNat j=L.g q 1
section
variable {L:dP} {N:Nat} {v:EvM}
theorem Xn(a:iY v.req){x:Nat->Int}(hx:iY (x 1)):DY v x=true<->oV (qx v)<oV x:=by
 unfold DY oV iY at *;rw[Bool.or_eq_true,T_,Q_,Q_,Q_];show v.o<x 0\/x 0=v.o/\v.req<x 1<->v.o*18446744073709551616+v.req<x 0*18446744073709551616+x 1;omega
theorem MO{a:Nat}{r:Int}(d:dP)(f:d.rn=aI L.rn a (L.rn a+1))(g:d.rq=aI L.rq a (aI (L.rq a) (L.rn a) r)):(∀ b y,(∃ j,j<L.rn b/\L.rq b j=y) -> ∃ j,j<d.rn b/\d.rq b j=y) /\ ∃ j,j<d.rn a/\d.rq a j=r:=by
 rw[f,g];unfold aI;refine⟨fun b y ⟨j,h,e⟩ => ?_,L.rn a,by rw[d_ rfl]; omega,by rw[d_ rfl,d_ rfl]⟩;by_cases c:b=a
 ·subst c;exact⟨j,by rw[d_ rfl]; omega,by rw[d_ rfl,b_ (by omega)]; exact e⟩
 exact⟨j,by rw[b_ c]; exact h,by rw[b_ c]; exact e⟩
attribute [local irreducible] fB dz in
theorem OU(h:yG L)(J:bR v=true)(M:gL v)(t:jv L v=0):yG (mW L v):=by
 have z:=oP J;have m:iY v.req:=M.req;unfold jv at t;split at t
 ·cases t
 rename_i c1;obtain⟨w,x⟩:=MO (L:=L) (a:=aN v) (r:=v.req) (mW L v) rfl rfl;have K : ∀ j,j<L.gn -> ¬ (L.g j 0=v.o/\L.g j 1=v.req):=fun j f e=>c1 (by
  obtain⟨_,_,q,b,y⟩:=h.ga j f;rw[e.1,e.2]at y;rw[e.1]at b;unfold dP.lU;rw[Du];exact⟨q,b,f_ y⟩)
 obtain⟨k,u⟩ : ∃ k,k=Fx.down (fun i=>DY v (L.g i)) L.gn:=⟨_,rfl⟩;have l:k<=L.gn:=by rw[u]; exact Fx.wY _ _
 have I : ∀ q,k<=q->q<L.gn->oV (qx v)<oV (L.g q):=fun q D d=>(Xn m (h.wf q d).1).1 (Fx.JC (P:=fun i=>DY v (L.g i)) (n:=L.gn) (i:=q) (by omega) d);have H : ∀ q,q<k->oV (L.g q)<oV (qx v):=fun q D=>by
  obtain⟨j,rfl⟩ : ∃ j,k=j+1:=⟨k-1,by omega⟩;have d:=Fx.JD (P:=fun i=>DY v (L.g i)) (n:=L.gn) (j:=j) u.symm;have E : ¬ oV (qx v)<oV (L.g j):=fun e=>by
   have:=(Xn m (h.wf j (by omega)).1).2 e;rw[this]at d; cases d
  have F:oV (L.g j)<oV (qx v):=by
   rcases Int.lt_trichotomy (oV (L.g j)) (oV (qx v))with c|c|c
   ·exact c
   ·exfalso;have G:=(h.wf j (by omega)).1;refine K j (by omega) ?_;unfold oV at c;have c:L.g j 0*18446744073709551616+L.g j 1=v.o*18446744073709551616+v.req:=c;unfold iY at G m;omega
   ·exact M_ c E
  by_cases e:q=j
  ·rw[e]; exact F
  ·have:=h.up q j (by omega) (by omega); omega
 have p:(mW L v).g=Fx.cO L.g k (qx v):=by rw[u]; rfl
 have s:(mW L v).gn=L.gn+1:=rfl;refine⟨fun i j N f => ?_,fun q b => ?_,fun q b => ?_⟩
 ·rw[s]at f;rw[p]
  rcases dY l (show i<L.gn+1 by omega)with rfl|⟨q,b,eq,q1,q2⟩
  ·rcases dY l f with rfl|⟨r,hr,er,w,x⟩
   ·omega
   rw[dI,er]; exact I r (by omega) hr
  rcases dY l f with rfl|⟨r,hr,er,w,x⟩
  ·rw[dI,eq]; exact H q (by omega)
  rw[eq,er]; exact h.up q r (by omega) hr
 ·rw[s]at b;rw[p]
  rcases dY l b with rfl|⟨r,hr,er,_,_⟩
  ·rw[dI]; exact⟨m,by show iY 0; unfold iY; omega⟩
  rw[er]; exact h.wf r hr
 rw[s]at b;rw[p]
 rcases dY l b with rfl|⟨r,hr,er,_,_⟩
 ·rw[dI]; exact⟨z.1,z.2.1,x⟩
 rw[er];obtain⟨A,B,C⟩:=h.ga r hr;exact⟨A,B,w _ _ C⟩
attribute [local irreducible] fB dz in
theorem OV(h:yG L)(w:bR v=true)(s:gL v)(u:jd L v=0):yG (kX L v):=by
 obtain⟨t,x⟩:=MO (L:=L) (a:=aN v) (r:=v.req) (kX L v) rfl rfl;have e : ∀ q,(kX L v).g q=if q=yZ L v then aI (L.g (yZ L v)) 4 v.req else L.g q:=fun q=>rfl;have b : ∀ j p,(p=0\/p=1)->(kX L v).g j p=L.g j p:=fun j p o=>by
  rw[e];by_cases c:j=yZ L v
  ·subst c; rw[d_ rfl]; rcases o with rfl|rfl <;> rfl
  ·rw[b_ c]
 refine⟨fun i j m n => ?_,fun q d => ?_,fun q d => ?_⟩
 ·unfold oV;rw[b i 0 (.inl rfl),b i 1 (.inr rfl),b j 0 (.inl rfl),b j 1 (.inr rfl)];exact h.up i j m n
 ·rw[b q 1 (.inr rfl)];refine⟨(h.wf q d).1,?_⟩;rw[e];by_cases c:q=yZ L v
  ·rw[d_ c]; exact s.req
  rw[b_ c]; exact(h.wf q d).2
 rw[b q 0 (.inl rfl),b q 1 (.inr rfl)];obtain⟨f,k,l⟩:=h.ga q d;exact⟨f,k,t _ _ l⟩
theorem Gz(h:yG L)(e:gL v):yG (bV L v):=by
 unfold bV;by_cases c:bD L v=0
 ·rw[d_ c];have b:=(Ew (jD c)).1;have a:dX L v=0:=by
   unfold bD at c;rw[b_ (by rw[b]; decide)]at c;split at c; · cases c
   split at c; · cases c
   split at c; · cases c
   exact c
  have d:yG (iE L v):=by
   unfold dX at a;unfold iE;by_cases k1:v.kind=1
   ·rw[d_ k1]; exact⟨h.up,h.wf,h.ga⟩
   rw[b_ k1]at a ⊢;by_cases k2:v.kind=2
   ·rw[d_ k2]; exact⟨h.up,h.wf,h.ga⟩
   rw[b_ k2]at a ⊢;by_cases f:v.kind=3
   ·rw[d_ f]at a ⊢; exact OU h b e a
   rw[b_ f]at a ⊢;by_cases g:v.kind=4
   ·rw[d_ g]at a ⊢; exact OV h b e a
   rw[b_ g]at a ⊢;by_cases i:v.kind=5
   ·rw[d_ i]; exact⟨h.up,h.wf,h.ga⟩
   rw[b_ i];by_cases j:v.kind=6
   ·rw[d_ j]; exact⟨h.up,h.wf,h.ga⟩
   ·rw[b_ j]; exact⟨h.up,h.wf,h.ga⟩
  exact⟨d.up,d.wf,d.ga⟩
 rw[b_ c]; exact h
theorem MP(k a:Nat):yG (mJ k a).core:=⟨fun i j _ h=>M_ h (z_ _),fun q h=>M_ h (z_ _),fun q h=>M_ h (z_ _)⟩
theorem fZ.new(k l d e f c b g:Nat):fZ (zk k l d e f c b) (mJ k g).core where
 T:=⟨fun q=>⟨fun h=>(nomatch h),fun⟨i,h,_⟩=>M_ h (z_ _)⟩,rfl,fun i h=>M_ h (z_ _)⟩
 inn:=rfl
 left:=rfl
 known:=rfl
 row:=fun i h=>M_ h (z_ _)
 own:=fun a _=>rfl
 gi:=fun i j h=>M_ h (z_ _)
 gn:=rfl
 g1:=fun q h=>M_ h (z_ _)
 g2:=fun q h=>M_ h (z_ _)
 ask:=fun a r _=>⟨fun h=>(nomatch h),fun⟨j,h,_⟩=>M_ h (z_ _)⟩
 ga:=fun i h=>M_ h (z_ _)
 li:=fun i j h=>M_ h (z_ _)
structure StC(L:dP)(m:dN)(l:List Int)(gl:List Kj):Prop where
 nn:l.length=L.nn
 gn:gl.length=L.gn
 n : ∀ k,k<L.nn->l.getD k 0=L.id k/\m.T.par (l.getD k 0)=L.par k/\EC m (l.getD k 0)=L.R k
 g : ∀ k,k<L.gn->(gl.getD k g0).x=L.g k
theorem StC.of{m:dN}{l:List Int}{c:List Kj}(h:fZ m L)(F:Inv0 L N)(u:yG L)(B:l.Pairwise (· < ·) /\ ∀ k,k∈l<->m.T.has k=true)(s:GrS m c):StC L m l c:=by
 have w:l=(List.range L.nn).map L.id:=vY B.1 (by
  rw[List.pairwise_map];exact(List.pairwise_lt_range (n:=L.nn)).imp_of_mem fun {a b} _ hb hab=>F.rise a b hab (O_.1 hb)) fun k=>by
  rw[B.2,h.T.has,List.mem_map];exact⟨fun⟨i,d,e⟩=>⟨i,O_.2 d,e⟩,fun⟨i,d,e⟩=>⟨i,O_.1 d,e⟩⟩
 have y:c.map MH=(List.range L.gn).map fun q=>oV (L.g q):=vY (by rw[List.pairwise_map]; exact s.up) (by
  rw[List.pairwise_map];exact(List.pairwise_lt_range (n:=L.gn)).imp_of_mem fun {a b} _ hb hab=>u.up a b hab (O_.1 hb)) fun k=>by
  rw[List.mem_map,List.mem_map];constructor
  ·rintro ⟨x,v,e⟩;obtain⟨i,d,p⟩:=s.mem x v;obtain⟨q,o,r⟩:=h.g2 i d;refine⟨q,O_.2 o,?_⟩;rw[r,<- p]; exact e
  ·rintro ⟨q,o,e⟩;obtain⟨j,G,C⟩:=h.g1 q (O_.1 o);obtain⟨x,v,E⟩:=s.all j G;refine⟨x,v,?_⟩;rw[<- e,<- C,<- E]; rfl
 have I:c.length=L.gn:=by have:=L_ List.length y; rwa [List.length_map,List.length_map,List.length_range]at this
 refine⟨by rw[w,List.length_map,List.length_range],I,fun k f => ?_,fun k f => ?_⟩
 ·have:l.getD k 0=L.id k:=by
   rw[w,r_,o_ (by rw[List.length_map,List.length_range]; exact f)];simp
  rw[this];exact⟨rfl,h.T.par k f,h.row k f⟩
 have t:k<c.length:=by omega
 have H:c.getD k g0∈c:=by rw[r_,o_ t]; exact R_ t
 have D:MH (c.getD k g0)=oV (L.g k):=by
  have A:=L_ (fun z=>z.getD k 0) y;simp only[r_,List.getElem?_map,o_ t,List.getElem?_range f]at A;rw[r_,o_ t]; exact A
 obtain⟨i,d,p⟩:=s.mem _ H;obtain⟨q,o,r⟩:=h.g2 i d;have J:oV (L.g q)=oV (L.g k):=by rw[r,<- p,<- D]; rfl
 have:q=k:=by
  rcases Nat.lt_trichotomy q k with h5|h5|h5
  ·have:=u.up q k h5 f; omega
  ·exact h5
  ·have:=u.up k q h5 o; omega
 rw[p,<- r,this]
end
end Rt
end Go.Proofs.YtcbedgfikejkoaaGreatDoor
namespace Go.Proofs.YtcbedgfikejkoaaGreatDoor
open Go.RowKit Go.WideShapes Go.ChangeShapes Go.Deep
theorem Sr{w:World}{x:Addr}{v:Value}(h:w.cell? x=some v) : ∃ b a,x=⟨b,a,none⟩:=by
 obtain⟨b,a,c⟩:=x
 cases c with
 | none=>exact⟨b,a,rfl⟩
 | some q =>
   unfold World.cell? at h;simp at h;split at h <;> cases h
def zl(P:Program):Nat->TypeId->Option (List (Option IntKind))
 | 0,_=>none
 | d+1,t=>match P.underlying t with
   | some (.int k)=>some [some k]
   | some .bool=>some [none]
   | some (.array n e)=>(zl P d e).bind fun a=>if P.cellsOf e=a.length/\P.cellsOf t=n*a.length then some (List.replicate n a).flatten else none
   | some (.struct fs)=>(fs.toList.foldlM (fun l f=>(zl P d f.type).bind fun a=>if f.offset=l.length/\P.cellsOf f.type=a.length then some (l++a)else none) []).bind fun l=>if P.cellsOf t=l.length then some l else none
   | _=>none
def Te(k:Option IntKind)(v:Value):Prop:=match k with|some k => ∃ n,v = .int k n/\(Lit.int k n).wf=true|none => ∃ b,v = .bool b
def abU(ks:List (Option IntKind))(cs:List Value):Prop:=cs.length=ks.length /\ ∀(j:Nat) (k:Option IntKind),ks[j]? = some k -> ∃ v,cs[j]? = some v/\Te k v
theorem Dv{ks:List (Option IntKind)}{k:Option IntKind} : ∀(n j:Nat),(List.replicate n ks).flatten[j]? = some k->ks[j % ks.length]? = some k/\j / ks.length<n
 | 0,j,h=>by simp at h
 | n+1,j,h=>by
   rw[List.replicate_succ,List.flatten_cons]at h;by_cases b:j<ks.length
   ·rw[List.getElem?_append_left b]at h;rw[Nat.mod_eq_of_lt b,Nat.div_eq_of_lt b]; exact⟨h,by omega⟩
   ·rw[List.getElem?_append_right (by omega)]at h;have c:0<ks.length:=by
     rcases Nat.eq_zero_or_pos ks.length with e|e
     ·obtain⟨a,_⟩:=Dv n _ h;have:=(List.getElem?_eq_some_iff.1 a).1; omega
     ·exact e
    obtain⟨a,d⟩:=Dv n _ h;rw[Nat.mod_eq_sub_mod (by omega),Nat.div_eq_sub_div c (by omega)];exact⟨a,by omega⟩
section
variable {H:Type} {enc:TypeId × Value->H} {P:Program} {w:World} {base:Nat} {spare:Nat->Bool} {held:Bool}
theorem GA{ks:List (Option IntKind)}{cs:List Value}{o s j:Nat}{k:Option IntKind}(h:abU ks ((cs.drop o).take s))(e:s=ks.length)(b:ks[j]? = some k) : ∃ v,cs[o+j]? = some v/\Te k v:=by
 obtain⟨n,a,c⟩:=h.2 j k b;have d:=(List.getElem?_eq_some_iff.1 b).1;rw[List.getElem?_take_of_lt (by omega),List.getElem?_drop]at a;exact⟨n,a,c⟩
theorem Dw : ∀(d:Nat) (t:TypeId) (q:List (Option IntKind)),zl P d t=some q -> ∀(C:Nat) (p:List Value) (x:DataW H × List MemPlace),DataW.trod enc P w base spare held C t p=some x->abU q p
 | 0,_,_,h=>by simp[zl]at h
 | d+1,t,q,h=>by
   intro C p x z;unfold zl at h;split at h
   ·rename_i k hu;simp only[Option.some.injEq]at h; subst h;obtain⟨n,rfl,_,U⟩:=DataW.trod_int hu z;refine⟨rfl,fun j W a => ?_⟩
    match j,a with
    | 0,a=>simp at a; subst a; exact⟨_,rfl,n,rfl,U⟩
    | j+1,a=>simp at a
   ·rename_i hu;simp only[Option.some.injEq]at h; subst h;obtain⟨b,rfl,_⟩:=DataW.trod_bool hu z;refine⟨rfl,fun j W a => ?_⟩
    match j,a with
    | 0,a=>simp at a; subst a; exact⟨_,rfl,b,rfl⟩
    | j+1,a=>simp at a
   ·rename_i n e hu;obtain⟨I,S,h⟩:=Option.bind_eq_some_iff.1 h;split at h
    ·rename_i hc;simp only[Option.some.injEq]at h; subst h;obtain⟨Y,m,_,_,c,F,J⟩:=DataW.trod_array hu z;refine⟨by rw[c,hc.2]; simp,fun j k a => ?_⟩;obtain⟨r,A⟩:=Dv n j a;have u:=J (j / I.length) A;rw[o_ (by omega),hc.1]at u;have:=GA (Dw d e I S _ _ _ u) rfl r;rw[Nat.mul_comm,Nat.div_add_mod]at this;exact this
    ·cases h
   ·rename_i fs hu;obtain⟨l,c,h⟩:=Option.bind_eq_some_iff.1 h;split at h
    ·rename_i hc;simp only[Option.some.injEq]at h; subst h;obtain⟨Y,m,_,_,T,F,K⟩:=DataW.trod_struct hu z;refine⟨by rw[T,hc],?_⟩;have M : ∀ f,f∈fs.toList -> ∃ y,DataW.trod enc P w base spare held m f.type ((p.drop f.offset).take (P.cellsOf f.type))=some y:=by
      intro f N;obtain⟨i,u,e⟩:=List.mem_iff_getElem.1 N;have E:i<fs.size:=(by simpa using u);have r:fs[i]? = some f:=(by rw[Array.getElem?_eq_getElem E]; simpa using e);have:=K i f r;rw[o_ (by rw[F]; exact E)]at this;exact⟨_,this⟩
     have X : ∀(L:List Field) (o:List (Option IntKind)),(∀ f,f∈L -> ∃ y,DataW.trod enc P w base spare held m f.type ((p.drop f.offset).take (P.cellsOf f.type))=some y)->(∀(j:Nat) (k:Option IntKind),o[j]? = some k -> ∃ v,p[j]? = some v/\Te k v) -> ∀ l,L.foldlM (fun l f=>(zl P d f.type).bind fun q=>if f.offset=l.length/\P.cellsOf f.type=q.length then some (l++q)else none) o=some l -> ∀(j:Nat) (k:Option IntKind),l[j]? = some k -> ∃ v,p[j]? = some v/\Te k v:=by
      intro L
      induction L with
      | nil=>intro o _ B l c; simp at c; subst c; exact B
      | cons f L ih =>
        intro o D B l c;rw[List.foldlM_cons]at c;obtain⟨Z,r,A⟩:=Option.bind_eq_some_iff.1 c;obtain⟨G,R,s⟩:=Option.bind_eq_some_iff.1 r;split at s
        ·rename_i hcc;simp only[Option.some.injEq]at s; subst s;refine ih (o++G) (fun g O=>D g (List.mem_cons_of_mem _ O)) (fun j k a => ?_) l A;by_cases Q:j<o.length
         ·rw[List.getElem?_append_left Q]at a; exact B j k a
         ·rw[List.getElem?_append_right (by omega)]at a;obtain⟨y,V⟩:=D f (List.mem_cons_self ..);have:=GA (Dw d f.type G R _ _ _ V) hcc.2 a;rw[hcc.1,show o.length+(j-o.length)=j by omega]at this;exact this
        ·cases s
     exact X fs.toList [] M (fun j k a=>by simp at a) l c
    ·cases h
   ·cases h
end
section
variable {H:Type} {enc:TypeId × Value->H} {P:Program} {w:World} {base:Nat} {spare:Nat->Bool} {held:Bool}
theorem Sv{t e:TypeId}{ks:List (Option IntKind)}{fuel D:Nat}{cs:List Value}{x:DataW H × List MemPlace}(S:P.underlying t=some (.slice e))(O:zl P D e=some ks)(F:P.cellsOf e=ks.length)(C:0<ks.length)
 (h:DataW.trod enc P w base spare held fuel t cs=some x) : ∃ a c l,cs = [.slice a c l]/\c<=maxLen/\c<=l /\ ∃ X:Nat->Nat->Value,(∀ i,i<c -> ∀(j:Nat) (k:Option IntKind),ks[j]? = some k->Te k (X i j))/\Fx.mP w a c ks.length (Fx.flat ks.length X):=by
 rcases open_slice S h with ⟨rfl,_⟩|⟨a',c,l,m,n,D',Pl,rfl,_,hl,hm,hmm,_,hx⟩
 ·exact⟨none,0,0,rfl,by unfold maxLen; omega,A_ _,fun _ _=>undef,fun i d=>M_ d (by omega),fun h=>M_ h (by omega)⟩
 have W:c<=m:=by rw[hmm]; split <;> omega
 have r : ∀ i j:Nat,∃ q:Value,i<c -> ∀ k,ks[j]? = some k->w.cell? (a'.add (i*ks.length+j))=some q/\Te k q:=by
  intro i j;by_cases d:i<c/\j<ks.length
  ·obtain⟨U,A,J⟩:=hx i (by omega);rw[F]at A;obtain⟨_,V,M⟩:=World.cells?_some A;obtain⟨q,y,z⟩:=(Dw _ _ _ O _ _ _ J).2 j _ (o_ d.2);refine⟨q,fun _ k v => ?_⟩;rw[o_ d.2,Option.some.injEq]at v;subst v;have E:=M j (by omega);rw[add_add]at E;exact⟨by rw[<- y]; simpa using E,z⟩
  ·refine⟨undef,fun y k z=>M_ ⟨y,(List.getElem?_eq_some_iff.1 z).1⟩ d⟩
 refine⟨some a',c,l,rfl,by omega,hl,fun i j=>Classical.choose (r i j),fun i d j k v=>(Classical.choose_spec (r i j) d k v).2,fun K => ?_⟩;have G:a'.add (0*ks.length+0)=a':=by unfold Addr.add; simp
 obtain⟨Z,L⟩:=r 0 0;have Q:=o_ C;have B:=(L K _ Q);have g:=B.1;rw[G]at g;have o : ∃ b f,a'=⟨b,f,none⟩:=by
  have u:=B.2;unfold Te at u;split at u
  ·obtain⟨Y,rfl,_⟩:=u; exact Sr g
  ·obtain⟨T,rfl⟩:=u;unfold World.cell? at g
   cases a' with
   | mk b f sp =>
     cases sp with
     | none=>exact⟨b,f,rfl⟩
     | some s=>simp at g; split at g <;> simp_all
 obtain⟨b,f,o⟩:=o;refine⟨b,f,by rw[o],fun p R => ?_⟩;have N:p % ks.length<ks.length:=J_ _ C;have d:p / ks.length<c:=Nat.div_lt_of_lt_mul (by rw[Nat.mul_comm]; exact R);have:=(Classical.choose_spec (r (p / ks.length) (p % ks.length)) d _ (o_ N)).1;have I:a'.add (p / ks.length*ks.length+p % ks.length)=⟨b,f+p,none⟩:=by rw[o,addr_add,Nat.mul_comm,Nat.div_add_mod]
 exact(L_ w.cell? I).symm.trans this
end
theorem afK{n:Int}(h:(Lit.int .i64 n).wf=true) : -9223372036854775808<=n/\n<=9223372036854775807:=by simp[Lit.wf,IntKind.min,IntKind.max,IntKind.bits,IntKind.signed]at h; omega
section
variable {H:Type} {enc:TypeId × Value->H} {P:Program} {w:World}
theorem mP.vX{w:World}{a:Option Addr}{n s:Nat}{x y:Nat->Value}(h:Fx.mP w a n s x)(e : ∀ p,p<n*s->x p=y p):Fx.mP w a n s y:=fun f=>by
 obtain⟨b,j,d,g⟩:=h f;exact⟨b,j,d,fun i c=>by rw[<- e i c]; exact g i c⟩
end
end Go.Proofs.YtcbedgfikejkoaaGreatDoor
namespace Go.Proofs.YtcbedgfikejkoaaGreatDoor
open Go.RowKit Rt
open Fx (Lv sN Ln Ws Qv Wl Wr Sb Wk Wb Wx Wo Qn rv aA aP Stp flat mP bI bP bX bY gP gW)
namespace Rt
def qM(L:dP)(na:Option Addr)(nc:Nat)(ga:Option Addr)(gc:Nat):uR:=⟨L.inn,L.left,L.known,na,L.nn,nc,ga,L.gn,gc⟩
def OW(L:dP):Nat->Nat->Value:=fun k=>jW (L.id k) (L.par k) (L.R k)
def Ns(L:dP):Nat->Nat->Value:=fun k=>jc (L.g k)
structure LWf(L:dP):Prop where
 n : ∀ k,k<L.nn->iY (L.id k)/\iY (L.par k) /\ ∀ p,p<54->oM (L.R k p)
 g : ∀ k,k<L.gn->oM (L.g k 0)/\iY (L.g k 1)/\iY (L.g k 2)/\oM (L.g k 3)/\iY (L.g k 4)
 k : ∀ i,i<6->iY (L.known i)
 bn:L.nn<=900000
 bg:L.gn<=900000
theorem afM{n:Int}(h:iY n):(Lit.int .u64 n).wf=true:=Fx.qA h
theorem arR{n:Int}(h:oM n):(Lit.int .i64 n).wf=true:=Fx.NC h
theorem MQ{n:Int}(h:iY n):oG (some .u64) (.int .u64 n)=some (.int .u64 n):=by simp[oG,afM h]
theorem Xo{n:Int}(h:oM n):oG (some .i64) (.int .i64 n)=some (.int .i64 n):=by simp[oG,arR h]
theorem E9(b:Nat->Bool):Fx.Kd (List.replicate 6 none) (fun j => .bool (b j)):=fun i a=>⟨.bool (b i),by rw[List.getElem_replicate]; rfl⟩
theorem abV{id par:Int}{R:Nat->Int}(h:iY id/\iY par /\ ∀ p,p<54->oM (R p)):Fx.Kd (some .u64::some .u64::List.replicate 54 (some .i64)) (jW id par R):=fun i a=>by
 match i,a with
 | 0,_=>exact⟨_,MQ h.1⟩
 | 1,_=>exact⟨_,MQ h.2.1⟩
 | i+2,a =>
   have b:i<54:=(by simp at a; omega);have e:(some IntKind.u64::some IntKind.u64::List.replicate 54 (some IntKind.i64))[i+2]=some .i64:=(by rw[List.getElem_cons_succ,List.getElem_cons_succ,List.getElem_replicate]);rw[e,N7 _ _ _ (p:=i) rfl];exact⟨_,Xo (h.2.2 i b)⟩
theorem abW{x:Nat->Int}(h:oM (x 0)/\iY (x 1)/\iY (x 2)/\oM (x 3)/\iY (x 4)):Fx.Kd [some .i64,some .u64,some .u64,some .i64,some .u64] (jc x):=fun i a=>by
 match i,a with
 | 0,_=>exact⟨_,Xo h.1⟩
 | 1,_=>exact⟨_,MQ h.2.1⟩
 | 2,_=>exact⟨_,MQ h.2.2.1⟩
 | 3,_=>exact⟨_,Xo h.2.2.2.1⟩
 | 4,_=>exact⟨_,MQ h.2.2.2.2⟩
theorem LWf.of{L:dP}{N:Nat}(a:Inv0 L N)(o:Bf L)(m:yG L)(A:N<=900000):LWf L where
 n:=fun k c=>by
  have y:=a.pos k c;have z:=a.top k c;have f:=mI (a.may k c);refine⟨⟨by omega,by omega⟩,?_,fun p r=>by have:=f p r; exact⟨by omega,by omega⟩⟩
  rcases a.up k c with e|⟨j,b,e⟩
  ·rw[e]; exact⟨by omega,by omega⟩
  ·have h:=a.pos j b;have l:=a.top j b;rw[<- e]; exact⟨by omega,by omega⟩
 g:=fun k c=>by
  obtain⟨d,u,v,w,x⟩:=o.gb k c;obtain⟨s,t⟩:=m.wf k c;obtain⟨j,b,e⟩:=iV.1 d;rw[a.Db]at b;rw[(a.tid j b).1]at e;have h:=a.pos j b;have l:=a.top j b;exact⟨⟨by omega,by omega⟩,s,by rw[<- e]; exact⟨by omega,by omega⟩,⟨by omega,by omega⟩,t⟩
 k:=fun i q=>by have:=a.kn i q; exact⟨by omega,by omega⟩
 bn:=by have:=a.nn; omega
 bg:=by have:=a.gn; omega
end Rt
structure KI(w:World)(s:uR)(L:dP):Prop where
 e:s=qM L s.na s.nc s.ga s.gc
 n:mP w s.na L.nn 56 (flat 56 (OW L))
 g:mP w s.ga L.gn 5 (flat 5 (Ns L))
theorem KI.ldg{w:World}{p:Nat}{m:mo}(h:CQ w p m):KI w m.s m.core:=⟨rfl,h.an,h.ag⟩
theorem KI.of{w:World}{B:Nat}{m:dN}{s:uR}{l:List Int}{p:List Kj}{L:dP}{N:Nat}(h:StQ w B m s l p)(d:fZ m L)(r:Inv0 L N)(q:yG L):KI w s L:=by
 have e:=StC.of d r q h.ls h.gs;have f:s.nn=L.nn:=by rw[h.nn,e.nn]
 have i:s.gn=L.gn:=by rw[h.gn,e.gn]
 refine⟨?_,?_,?_⟩
 ·cases s
  unfold qM;have a:=h.inn;have b:=h.left;have c:=h.known;simp only at a b c f i ⊢;rw[a,b,c,d.inn,d.left,d.known,f,i]
 ·have:=h.n.arr;rw[f]at this;refine mP.vX this<|bI fun k o j _ => ?_;obtain⟨a,b,c⟩:=e.n k o;unfold Xk OW;rw[b,c,a]
 have:=h.g.arr;rw[i]at this;refine mP.vX this<|bI fun k o j _ => ?_;unfold Yq Ns;rw[e.g k o]
theorem afN(L:dP)(na KJ ga KL:Option Addr)(nc KM gc KN:Nat)(w:World)(l:LWf L)(hN1:mP w na L.nn 56 (flat 56 (OW L)))(hN2:mP w KJ L.nn 56 (flat 56 (OW L)))(hG1:mP w ga L.gn 5 (flat 5 (Ns L)))(hG2:mP w KL L.gn 5 (flat 5 (Ns L))) :
 Calls Tryz.prog 17 #[.agg (aA 20 (kI (qM L na nc ga gc))),.agg (aA 20 (kI (qM L KJ KM KL KN)))] w fun e w'=>e = .returned (.bool true)/\Below w.heap.size w w':=by
 have hbn:=l.bn;have hbg:=l.bg;refine Kent Tryz.func17 80 ?_;refine ay<|oz fun c w1 kQ J s1 z1 => ?_;have N:=bf s1.old (Below.refl w.heap.size w);have rF:=gD kQ;have sQ:=J.lt;refine oz fun d w2 U o s2 z2 => ?_;have⟨s,b2⟩:=eU s2.old J N;have pO:=iw U N.size;have FK:=cu U J.lt;have yu:=o.lt;refine av aF<|aC<|Ws<|ay<|av (pt c)<|Lv (.agg (aA 6 (fun j => .bool (L.inn j)))) (eT s.aH 0 (fun j h=>by rw[G_]; exact yU _ h))<|av (pt d)<|Lv (.agg (aA 6 (fun j => .bool (L.inn j)))) (eT o.aH 0 (fun j h=>by rw[G_]; exact yU _ h))<|Lv aF (Fx.Fq (n:=6) (ks:=List.replicate 6 none) (X:=fun j => .bool (L.inn j)) (Y:=fun j => .bool (L.inn j)) 12 true rfl rfl rfl (Fx.Ht (fun _ _=>rfl)) (E9 _) (E9 _) rfl (by kernel_rfl) (by kernel_rfl) (by kernel_rfl) (by kernel_rfl) (by kernel_rfl))<|av aF<|av (pf c 6)<|Lv (.agg (aA 6 (fun j => .bool (L.left j)))) (eT s.aH 6 (fun j h=>ug (p:=j) _ h (by omega)))<|av (pf d 6)<|Lv (.agg (aA 6 (fun j => .bool (L.left j)))) (eT o.aH 6 (fun j h=>ug (p:=j) _ h (by omega)))<|Lv aF (Fx.Fq (n:=6) (ks:=List.replicate 6 none) (X:=fun j => .bool (L.left j)) (Y:=fun j => .bool (L.left j)) 12 true rfl rfl rfl (Fx.Ht (fun _ _=>rfl)) (E9 _) (E9 _) rfl (by kernel_rfl) (by kernel_rfl) (by kernel_rfl) (by kernel_rfl) (by kernel_rfl))<|av aF<|av aF<|av (pf c 12)<|Lv (.agg (aA 6 (rv .u64 L.known))) (eT s.aH 12 (fun j h=>jV (p:=j) _ h (by omega)))<|av (pf d 12)<|Lv (.agg (aA 6 (rv .u64 L.known))) (eT o.aH 12 (fun j h=>jV (p:=j) _ h (by omega)))<|Lv aF (Fx.Fq (n:=6) (ks:=List.replicate 6 (some .u64)) (X:=rv .u64 L.known) (Y:=rv .u64 L.known) 12 true rfl rfl rfl (Fx.Ht (fun _ _=>rfl)) (Fx.Ie fun i H=>afM (l.k i H)) (Fx.Ie fun i H=>afM (l.k i H)) rfl (by kernel_rfl) (by kernel_rfl) (by kernel_rfl) (by kernel_rfl) (by kernel_rfl))<|av aF<|av aF<|av (pf c 18)<|Lv (.slice na (L.nn) (nc)) (aL s.aH 18)<|av (au L.nn)<|av (pf d 18) ?_;refine Lv (.slice KJ (L.nn) (KM)) (aL o.aH 18)<|av (au L.nn)<|Lv aF (jG rfl)<|av aF<|av aF<|av (pf c 19)<|Lv (.slice ga (L.gn) (gc)) (aL s.aH 19)<|av (au L.gn)<|av (pf d 19)<|Lv (.slice KL (L.gn) (KN)) (aL o.aH 19)<|av (au L.gn)<|Lv aF (jG rfl)<|av aF<|aC<|aK<|Wk<|sN<|Ws<|ay<|av (au 0)<|aC<|Wb<|Wo (fun f r => ∃ k:Nat,k<=L.nn/\f 2=(pt c)/\f 3=(pt d)/\f 5=au (k:Int)/\aP r c 20 (kI (qM L na nc ga gc)) 50/\aP r d 20 (kI (qM L KJ KM KL KN)) 50/\Below w.heap.size w r) (fun f _=>(L.nn-(intOf (f 5)).toNat)) ⟨0,by omega,(by rfl),(by rfl),Fx.ic,s,o,b2⟩ ?_;rintro f1 t ⟨k,hk,B,F,v,C,M,z⟩;refine Ws<|ay<|aU v<|Lv (pf c 18) (iL B 18)<|Lv (.slice na (L.nn) (nc)) (aL C.aH 18)<|av (au L.nn) ?_;by_cases S:(k:Int)<(L.nn:Int)
 ·refine Lv aG (gM S)<|aC<|aM<|Wk<|sN<|Ws<|Wb<|Ws ?_;refine vV<|Qv (pf c 18) (fun b a=>iL B 18)<|Qv (.slice na (L.nn) (nc)) (fun b a=>aL (C.aH.dr a) 18)<|eG v ?_;obtain⟨O,oq1,eq1,m6⟩:=(hN1.up z rfl) (by omega);have aeA:O<t.heap.size:=m6.lt (by omega);refine Qv (pf O (56*k+oq1)) (fun b a=>dw 56 (hx:=(rfl.trans (L_ (fun q=>Value.slice q (L.nn) (nc)) eq1))))<|Qv (.agg (aA 56 (OW L k))) (fun b a=>eT (m6.dr a) (56*k) (fun I m=>Fx.iq (k:=k) (by omega) m))<|Qv (pf d 18) (fun b a=>iL F 18)<|Qv (.slice KJ (L.nn) (KM)) (fun b a=>aL (M.aH.dr a) 18)<|eG v ?_;obtain⟨P,oq2,Ev,m7⟩:=(hN2.up z rfl) (by omega);have arT:P<t.heap.size:=m7.lt (by omega);refine Qv (pf P (56*k+oq2)) (fun b a=>dw 56 (hx:=(rfl.trans (L_ (fun q=>Value.slice q (L.nn) (KM)) Ev))))<|Qv (.agg (aA 56 (OW L k))) (fun b a=>eT (m7.dr a) (56*k) (fun I m=>Fx.iq (k:=k) (by omega) m))<|Qv aF (fun b a=>Fx.Fq (n:=56) (ks:=((some .u64)::(some .u64)::List.replicate 54 (some .i64))) (X:=OW L k) (Y:=OW L k) 12 true rfl rfl rfl (Fx.Ht (fun _ _=>rfl)) (abV (l.n k (by omega))) (abV (l.n k (by omega))) rfl (by kernel_rfl) (by kernel_rfl) (by kernel_rfl) (by kernel_rfl) (by kernel_rfl))<|Qn ?_;rintro _ ⟨y,rfl⟩;obtain⟨BM,D⟩ : ∃ b,b=World.drewN t y:=⟨_,rfl⟩;rw[<- D];have s3:Stp t.heap.size t BM:=by rw[D]; exact Sb (jA t y)
  have⟨m8,m9,b4⟩:=iy s3.old C M z;clear D;refine sN<|aK<|Wk<|bP<|sN<|Wl<|aU v<|Lv (au ((k:Int)+1)) fA<|av (au ((k:Int)+1))<|Ln<|gW ⟨k+1,by omega,B,F,Fx.ic,m8,m9,b4⟩ ?_;show(L.nn-(intOf (au ((k:Int)+1))).toNat)<_;simp only[v,intOf]; omega
 refine Lv aF (gN S)<|aC<|aK<|Wx<|bX<|gP<|bY<|sN<|Ws<|ay<|av (au 0)<|aC<|Wb<|Wo (fun f r => ∃ k:Nat,k<=L.gn/\f 2=(pt c)/\f 3=(pt d)/\f 6=au (k:Int)/\aP r c 20 (kI (qM L na nc ga gc)) 50/\aP r d 20 (kI (qM L KJ KM KL KN)) 50/\Below w.heap.size w r) (fun f _=>(L.gn-(intOf (f 6)).toNat)) ⟨0,by omega,B,F,Fx.ic,C,M,z⟩ ?_;rintro f2 u ⟨k,hk,G,V,x,K,W,A⟩;refine Ws<|ay<|aU x<|Lv (pf c 19) (iL G 19)<|Lv (.slice ga (L.gn) (gc)) (aL K.aH 19)<|av (au L.gn) ?_;by_cases T:(k:Int)<(L.gn:Int)
 ·refine Lv aG (gM T)<|aC<|aM<|Wk<|sN<|Ws<|Wb<|Ws ?_;refine vV<|Qv (pf c 19) (fun b a=>iL G 19)<|Qv (.slice ga (L.gn) (gc)) (fun b a=>aL (K.aH.dr a) 19)<|eG x ?_;obtain⟨Q,oq3,Qf,Z⟩:=(hG1.up A rfl) (by omega);have arU:Q<u.heap.size:=Z.lt (by omega);refine Qv (pf Q (5*k+oq3)) (fun b a=>dw 5 (hx:=(rfl.trans (L_ (fun q=>Value.slice q (L.gn) (gc)) Qf))))<|Qv (.agg (aA 5 (Ns L k))) (fun b a=>eT (Z.dr a) (5*k) (fun I m=>Fx.iq (k:=k) (by omega) m))<|Qv (pf d 19) (fun b a=>iL V 19)<|Qv (.slice KL (L.gn) (KN)) (fun b a=>aL (W.aH.dr a) 19)<|eG x ?_;obtain⟨R,oq4,eq4,aa⟩:=(hG2.up A rfl) (by omega);have ayD:R<u.heap.size:=aa.lt (by omega);refine Qv (pf R (5*k+oq4)) (fun b a=>dw 5 (hx:=(rfl.trans (L_ (fun q=>Value.slice q (L.gn) (KN)) eq4))))<|Qv (.agg (aA 5 (Ns L k))) (fun b a=>eT (aa.dr a) (5*k) (fun I m=>Fx.iq (k:=k) (by omega) m))<|Qv aF (fun b a=>Fx.Fq (n:=5) (ks := [(some .i64),(some .u64),(some .u64),(some .i64),(some .u64)]) (X:=Ns L k) (Y:=Ns L k) 12 true rfl rfl rfl (Fx.Ht (fun _ _=>rfl)) (abW (l.g k (by omega))) (abW (l.g k (by omega))) rfl (by kernel_rfl) (by kernel_rfl) (by kernel_rfl) (by kernel_rfl) (by kernel_rfl))<|Qn ?_;rintro _ ⟨y,rfl⟩;obtain⟨wq2,E⟩ : ∃ b,b=World.drewN u y:=⟨_,rfl⟩;rw[<- E];have s4:Stp u.heap.size u wq2:=by rw[E]; exact Sb (jA u y)
  have⟨m16,m17,b6⟩:=iy s4.old K W A;clear E;refine sN<|aK<|Wk<|bP<|sN<|Wl<|aU x<|Lv (au ((k:Int)+1)) fA<|av (au ((k:Int)+1))<|Ln<|gW ⟨k+1,by omega,G,V,Fx.ic,m16,m17,b6⟩ ?_;show(L.gn-(intOf (au ((k:Int)+1))).toNat)<_;simp only[x,intOf]; omega
 refine Lv aF (gN T)<|aC<|aK<|Wx<|bX<|gP<|bY<|sN<|ay<|av aG<|aC<|Wr<|aJ aG ?_;exact⟨rfl,A⟩
theorem aal{w:World}{b c:uR}{L:dP}(h1:KI w b L)(a:KI w c L)(d:LWf L):Calls Tryz.prog 17 #[.agg (aA 20 (kI b)),.agg (aA 20 (kI c))] w fun e f=>e = .returned (.bool true)/\Below w.heap.size w f:=by
 rw[h1.e,a.e];exact afN L _ _ _ _ _ _ _ _ w d h1.n a.n h1.g a.g
end Go.Proofs.YtcbedgfikejkoaaGreatDoor
