/-
  What the proof of the law rests on, part 4: walks of functions, and plain laws; each says its conditions itself.
-/
import Derived.Laws.StructEq
import Derived.Test.YtcbedgfikejkoaaGreatDoorZD3
set_option maxHeartbeats 1600000
set_option linter.unusedVariables false
set_option linter.unusedSimpArgs false
namespace Go.Proofs.YtcbedgfikejkoaaGreatDoor
open Go.RowKit Rt
open Fx (fG fO bA dA dO dQ Lv sN Ln Ws Qv Wl Rp Wr Sb Wk rC sR Rs Rn Rd Rk Wb Wx Wo Wt qZ Qn wV yc DN qO gH yC vI tK xZ Bo zX rv aA aP bB ev cO Stp aQ flat dB aS iU aZ down bI bE cells_one iF bJ rT jS ig bW dD bL bP bX bY gP gW pV fP)
set_option maxRecDepth 20000 in
set_option maxHeartbeats 1000000 in
theorem adP(m:mo)(p:Nat)(w:World)(h:CQ w p m)(bn1:m.s.nn<=1000)(bt1:m.tn<=1000) :
 Calls Tryz.prog 81 #[(pt p)] w fun e w' => ∃ p' m',e = .returned (pt p')/\m'.core=m.core/\uh w' w.heap.size p' m'/\Below w.heap.size w w':=by
 have P:=h.c;have lp:p<w.heap.size:=P.lt (by omega);have bn:=h.bn;have bg:=h.bg;have bt:=h.bt;have han:=h.an;have hag:=h.ag;have hat:=h.at2;have htc:=h.tc;have SQ:m.tb<w.heap.size:=htc.lt (by omega);refine Kent Tryz.func81 79 ?_;refine ay<|av (.pointer none)<|aC<|ay<|av (pt p)<|av (pt p)<|av (pt p)<|Lv (.agg (aA 20 (kI m.s))) (eT P 0 (fun j hj=>(show mD _ (0+j)=kI _ j by rw[G_]; exact kV _ hj rfl)))<|av (.agg (aA 1 (fun _ => .slice none 0 0)))<|oz fun b w1 kQ m1 s1 z1 => ?_;have⟨m2,m3,b1⟩:=iy s1.old P htc (Below.refl w.heap.size w);have rF:=gD kQ;have ny:p≠b:=by rw[kQ]; exact u_ (P.lt (by omega))
 have P7:m.tb≠b:=by rw[kQ]; exact u_ (htc.lt (by omega))
 have sQ:=m1.lt;refine av (.agg (aA 27 (bB (bB zL0 0 20 (kI m.s)) 20 1 (fun _=>(pt b)))))<|DN (m:=27) (y:=bB (bB zL0 0 20 (kI m.s)) 20 1 (fun _=>(pt b))) (by rfl) rfl rfl (bE _ _) rfl fun a w2 X m4 s2 z2 => ?_;have⟨m5,m6,m7,b2⟩:=jN s2.old m2 m3 m1 b1;have pO:=iw X b1.size;have IK:p≠a:=by rw[X]; exact u_ (m2.lt (by omega))
 have abH:m.tb≠a:=by rw[X]; exact u_ (m3.lt (by omega))
 have LQ:=cu X m1.lt;have yu:=m4.lt;refine av (pt a)<|aC<|ay<|av (pt a)<|Fx.L.Pq (s:=56) (by rfl) rfl Tryz.underlying47 (by kernel_rfl) rfl fun g3 w3 yE hO1 s3 => ?_;have R:Fx.Own w3 w.heap.size 84 56 (bK g3 0 0) 0 (KE m):=hO1 _ _ (by rw[yE]; exact b2.size);have⟨m9,m10,m11,m12,U⟩:=nN s3.old m5 m6 m7 m4 b2;refine av (pt p)<|av (pt p)<|av (pt p)<|av (pf p 18)<|Lv (.slice m.s.na (m.s.nn) (m.s.nc)) (aL m9 18)<|Fx.L.Jy (B:=w.heap.size) (s:=56) (bytes:=448) (k:=0) (m:=m.s.nn) (v:=bK g3 0 0) (x:=KE m) (by rfl) rfl rfl rfl Tryz.underlying47 (by kernel_rfl) (by kernel_rfl) rfl rfl R (han.up U rfl) (fun j _=>Y4 m j) (by omega) (by omega) U.size fun vv1 w4 ho1 Z tO => ?_;rw[G_]at ho1;obtain⟨C,E,rfl⟩:=ho1.val;have fV:=yC Z R;have m14:=m9.grown Z (R.not (by omega));have m15:=m10.grown Z (R.not (by omega));have⟨m16,m17⟩:=Cx fV m11 m12;have m13:Fx.Own w4 w.heap.size 84 56 (.slice C (m.s.nn) (E)) m.s.nn (KE m):=(ho1.congr (fun j _=>app0 j));have b4:Below w.heap.size w w4:=xZ U Z U.size (fun q l=>(R.ge l).1);refine av (pt a)<|av (pt a)<|av (pf a 18)<|ji m17 18 (.slice C (m.s.nn) (E)) fun w5 m18 s4 z3 => ?_;have m19:=m14.cZ s4 (by omega);have m20:=m15.cZ s4 (by omega);have jr:=gH s4 m17.ty;have⟨m21,m22⟩:=Cx jr m16 m13;have b5:=s4.below b4 b4.size (by omega);refine aC<|ay<|av (pt a)<|Fx.L.Pq (s:=5) (by rfl) rfl Tryz.underlying48 (by kernel_rfl) rfl fun g4 w6 KA hO2 s5 => ?_;have Q:Fx.Own w6 w.heap.size 106 5 (bK g4 0 0) 0 (JO m):=hO2 _ _ (by rw[KA]; exact b5.size);have⟨m24,mZ,nQ,nH,og,V⟩:=oJ s5.old m19 m20 m21 m22 m18 b5;refine av (pt p)<|av (pt p)<|av (pt p)<|av (pf p 19)<|Lv (.slice m.s.ga (m.s.gn) (m.s.gc)) (aL m24 19)<|Fx.L.Jy (B:=w.heap.size) (s:=5) (bytes:=40) (k:=0) (m:=m.s.gn) (v:=bK g4 0 0) (x:=JO m) (by rfl) rfl rfl rfl Tryz.underlying48 (by kernel_rfl) (by kernel_rfl) rfl rfl Q (hag.up V rfl) (fun j _=>Y5 m j) (by omega) (by omega) V.size fun vv2 w7 ho2 aa NZ => ?_;rw[G_]at ho2;obtain⟨D,F,rfl⟩:=ho2.val;have qc:=yC aa Q;have oD:=m24.grown aa (Q.not (by omega));have lI:=mZ.grown aa (Q.not (by omega));have⟨m32,pE,nR⟩:=zZ qc nQ nH og;have oh:Fx.Own w7 w.heap.size 106 5 (.slice D (m.s.gn) (F)) m.s.gn (JO m):=(ho2.congr (fun j _=>app0 j));have b7:Below w.heap.size w w7:=xZ V aa V.size (fun q l=>(Q.ge l).1);refine av (pt a)<|av (pt a)<|av (pf a 19)<|ji nR 19 (.slice D (m.s.gn) (F)) fun w8 pF s6 z4 => ?_;have nS:=oD.cZ s6 (by omega);have qW:=lI.cZ s6 (by omega);have xu:=gH s6 nR.ty;have⟨qB,pK,sS⟩:=zZ xu m32 pE oh;have b8:=s6.below b7 b7.size (by omega);refine aC<|Ws ?_;refine zX [0,1,2,4,5,6,11,12,13,3,7,8,9,10,14,15,16,17,18,19,20,21] [0,0,0,1,0,0,0,4,0,0,4,0,0,0,4,0,0,4,2,0,0,3] (iF [153]) vI Fx.iF.trans (fJ := [(21,3,[3]),(18,7,[10,9,8,7]),(21,7,[7]),(18,10,[10]),(21,10,[10]),(18,14,[17,16,15,14]),(21,14,[14]),(18,17,[17]),(21,17,[17]),(19,18,[18]),(20,18,[18]),(21,18,[18])]) (by kernel_rfl) (by kernel_rfl) (by kernel_rfl) (by kernel_rfl) (by kernel_rfl) fun K dR iK => ?_;have⟨mh,lM,mH,qg,qh,om,W⟩:=jT dR nS qW qB pK sS pF b8;refine aX (pt a)<|aX (pt a)<|aX (pf a 20)<|aX (pt a)<|aX (pt a)<|aX (pf a 20)<|aX (pt p)<|aX (pt p)<|aX (pf p 20)<|Rd (v:=(pt b)) (by rfl) (by rfl) (vI _) (fun v1 hv1=>bA (x:=dB (dB (bB (bB zL0 0 20 (kI m.s)) 20 1 (fun _=>(pt b))) 18 (.slice C (m.s.nn) (E))) 19 (.slice D (m.s.gn) (F))) rfl rfl (by kernel_rfl) (om.lu hv1 (by decide)).aH (i:=20) (by omega) (by omega) (Fx.Bu (by omega) (Fx.Bu (by omega) (Fx.qY (j:=0) (by omega) (by omega) rfl)))) ?_;refine Rs (pt b) (aL om.aH 20 (Fx.Bu (by omega) (Fx.Bu (by omega) (Fx.qY (j:=0) (by omega) (by omega) rfl)))) ?_;refine aX (pt b)<|aX (pt b)<|Rs (.slice none 0 0) (aL mH.aH 0) ?_;refine Rs (pt m.tb) (aL mh 20) ?_;refine aX (pt m.tb)<|aX (pt m.tb)<|Rs (.slice m.ta (m.tn) (m.tc)) (aL lM 0) ?_;refine zD<|Fx.L.Jy (B:=w.heap.size) (s:=2) (bytes:=16) (k:=0) (m:=m.tn) (v := .slice none 0 0) (x:=RB m.t) (by rfl) rfl rfl rfl Tryz.underlying154 (by kernel_rfl) (by kernel_rfl) rfl rfl (tK K w.heap.size 153 2 (RB m.t)) (hat.up W rfl) (fun _ _=>rfl) (by omega) (by omega) W.size fun vv3 w9 ho3 A axu => ?_;rw[G_]at ho3
 obtain⟨u,z,rfl⟩:=ho3.val;have Aa:=yC A (tK K w.heap.size 153 2 (RB m.t));have hq1:Below K.heap.size K w9:=⟨A.os,A.tape,A.output,A.size,fun q l=>A.block q l (fun e=>by cases e)⟩
 have wh:=mh.cZ (Sb hq1) (u_ (mh.lt (by omega)));have hq2:Below K.heap.size K w9:=⟨A.os,A.tape,A.output,A.size,fun q l=>A.block q l (fun e=>by cases e)⟩
 have uD:=lM.cZ (Sb hq2) (u_ (lM.lt (by omega)));have⟨qX,vJ,uZ,uE⟩:=K4 Aa mH qg qh om;have rW:Fx.Own w9 w.heap.size 153 2 (.slice u (m.tn) (z)) m.tn (RB m.t):=(ho3.congr (fun j _=>app0 j));have b10:Below w.heap.size w w9:=xZ W A W.size (fun q l=>((tK K w.heap.size 153 2 (RB m.t)).ge l).1);refine Ln ⟨Aa,?_⟩;refine aX (pt b)<|aX (pt b)<|gZ<|ji qX 0 (.slice u (m.tn) (z)) fun pJ wm s8 z5 => ?_;have wo:aP pJ b 1 (fun _ => .slice u (m.tn) (z)) 156:=dD wm;have tQ:=wh.cZ s8 (by omega);have tT:=uD.cZ s8 (by omega);have Ac:=gH s8 qX.ty;have⟨uF,yD,rG,vK⟩:=K4 Ac vJ uZ uE rW;have b11:=s8.below b10 b10.size (by omega);refine Ln<|bS<|Ws<|ay<|av (au 0)<|aC<|Wb ?_;have pz:aP pJ a 27 (mD (LP m C E D F b u z (fun _=>none) (fun _=>0) 0)) 56:=rG.congr (fun j hj=>by rcases j with _|_|_|_|_|_|_|_|_|_|_|_|_|_|_|_|_|_|_|_|_|_|_|_|_|_|_|j <;> first|rfl|omega)
 have uI:=xK.zero pJ w.heap.size (LP m C E D F b u z (fun _=>none) (fun _=>0) 0);refine Wo (fun f H => ∃ k:Nat,∃ I:Nat->Option Addr,∃ J:Nat->Nat,k<=6/\f 0=(pt p)/\f 3=(pt a)/\f 4=au (k:Int)/\iU H p 0 27 (mD m)/\Fx.Own H w.heap.size 84 56 (.slice C (m.s.nn) (E)) m.s.nn (KE m)/\Fx.Own H w.heap.size 106 5 (.slice D (m.s.gn) (F)) m.s.gn (JO m)/\Fx.Own H w.heap.size 153 2 (.slice u (m.tn) (z)) m.tn (RB m.t)/\aP H b 1 (fun _ => .slice u (m.tn) (z)) 156/\aP H a 27 (mD (LP m C E D F b u z I J k)) 56/\xK H w.heap.size k (LP m C E D F b u z I J k)/\Below w.heap.size w H) (fun f _=>(6-(intOf (f 4)).toNat)) ⟨0,(fun _=>none),(fun _=>0),by omega,(by rfl),(by rfl),Fx.ic,tQ,uF,yD,vK,wo,pz,uI,b11⟩ ?_;rintro f1 DV ⟨k,I,J,hk,h1,Y,M,m64,xw,wN,vL,xA,tV,vM,b12⟩;refine Ws<|ay<|aU M ?_;by_cases c57:(k:Int)<6
 ·refine Lv aG (gM c57)<|aC<|aM<|Wk<|sN<|Ws<|Wb ?_;have brk:=h.br k (by omega);have uP:=P.below b12 lp;refine zX [0,1,2,3,4,5,6,8,9,10,11,12,15,16,7,13,14,17,18] [0,0,0,0,0,0,0,4,0,0,0,0,0,4,2,0,0,0,3] (iF [23]) vI Fx.iF.trans (fJ := [(14,7,[7]),(18,7,[7]),(14,13,[13]),(18,13,[13]),(17,14,[14]),(18,14,[14])]) (by kernel_rfl) (by kernel_rfl) (by kernel_rfl) (by kernel_rfl) (by kernel_rfl) fun G gJ nZ => ?_;have⟨vN,vO,zI,wO,yI,yJ,yK,yt,T⟩:=Cw gJ m64 xw wN vL xA tV vM uP b12;refine bZ Y<|bZ M<|bZ Y<|bZ M<|aX (pt a)<|aX (pf a 21)<|Rp (pf a (k+21)) (fun _=>jJ 6 1)<|bZ h1<|bZ M<|aX (pt p)<|aX (pf p 21)<|Rp (pf p (k+21)) (fun _=>jJ 6 1)<|aX (pt a)<|aX (pf a 21)<|Rs (.slice none 0 0) (aL yJ.aH (k+21) (Y6 (by omega))) ?_;refine Rs (.slice (m.ra k) (m.rn k) (m.rc k)) (aL vN (k+21) (xJ _ (by omega))) ?_;refine zD<|Fx.L.Jy (B:=w.heap.size) (s:=1) (bytes:=8) (k:=0) (m:=(m.rn k)) (v := .slice none 0 0) (x:=rv .u64 (m.rq k)) (by rfl) rfl rfl rfl Tryz.underlying53 (by kernel_rfl) (by kernel_rfl) rfl rfl (tK G w.heap.size 23 1 (rv .u64 (m.rq k))) ((h.ar k (by omega)).up T rfl) (fun _ _=>rfl) (by omega) (by omega) T.size fun vv4 S ho4 d anx => ?_;rw[G_]at ho4;obtain⟨N,O,rfl⟩:=ho4.val;have BO:=yC d (tK G w.heap.size 23 1 (rv .u64 (m.rq k)));have hq3:Below G.heap.size G S:=⟨d.os,d.tape,d.output,d.size,fun q l=>d.block q l (fun e=>by cases e)⟩
  have xC:=vN.cZ (Sb hq3) (u_ (vN.lt (by omega)));have⟨yR,AP,yS,BI,Bq⟩:=rD BO vO zI wO yI yJ;have hq4:Below G.heap.size G S:=⟨d.os,d.tape,d.output,d.size,fun q l=>d.block q l (fun e=>by cases e)⟩
  have Br:=yK.up hq4;have hq5:Below G.heap.size G S:=⟨d.os,d.tape,d.output,d.size,fun q l=>d.block q l (fun e=>by cases e)⟩
  have AQ:=yt.cZ (Sb hq5) (u_ (yt.lt (by omega)));have xB:Fx.Own S w.heap.size 23 1 (.slice N (m.rn k) (O)) (m.rn k) (rv .u64 (m.rq k)):=(ho4.congr (fun j _=>app0 j));have b14:Below w.heap.size w S:=xZ T d T.size (fun q l=>((tK G w.heap.size 23 1 (rv .u64 (m.rq k))).ge l).1);have hf1:=yK.fresh anx;refine Ln ⟨BO,?_⟩;refine Rp (pf a (k+21)) (fun _=>jJ 6 1)<|gZ<|ji Bq (k+21) (.slice N (m.rn k) (O)) fun EM AU ab z6 => ?_;have BJ:=xC.cZ ab (by omega);have FV:=gH ab Bq.ty;have⟨FL,Es,CU,DX,AY⟩:=rD FV yR AP yS BI Br;have Hl:=AQ.cZ ab (by omega);have ET:=jo FV xB;have b15:=ab.below b14 b14.size (by omega);refine Ln<|Rn<|bP<|sN<|Wl<|aU M<|Lv (au ((k:Int)+1)) fA<|av (au ((k:Int)+1))<|Ln ?_;have Ho:aP EM a 27 (mD (LP m C E D F b u z (aI I k N) (aI J k O) (k+1))) 56:=AU.to (Vk (by omega));have HY:xK EM w.heap.size (k+1) (LP m C E D F b u z (aI I k N) (aI J k O) (k+1)):=Y7 AY ET hf1
  skip
  refine gW ⟨k+1,(aI I k N),(aI J k O),by omega,h1,Y,Fx.ic,BJ,FL,Es,CU,DX,Ho,HY,b15⟩ ?_;show(6-(intOf (au ((k:Int)+1))).toNat)<_;simp only[M,intOf]; omega
 refine Lv aF (gN c57)<|aC<|aK<|Wx<|bX<|gP<|bY<|sN<|ay<|aU Y<|av (pt a)<|aC<|Wr<|aJ (pt a) ?_;have ek:k=6:=by omega
 subst ek;exact⟨a,atM m C E D F b u z I J,rfl,rfl,{ c:=tV.congr aij,n:=xw,g:=wN,tc:=xA,t:=vL,r:=Y8 vM,pB:=pO,tB:=rF,bn:=bn1,bg:=bg,bt:=bt1,br:=h.br },b12⟩
namespace Rt
def nC(id:Nat->Int)(o:Int):Nat->Nat
 | 0=>0
 | n+1=>nC id o n+if id n / 1099511627776=o then 1 else 0
theorem Vl{id:Nat->Int}{o:Int}{c k:Nat}(h:c=nC id o k)(e:id k / 1099511627776=o):c+1=nC id o (k+1):=by unfold nC; rw[d_ e,h]
theorem Y9{id:Nat->Int}{o:Int}{c k:Nat}(h:c=nC id o k)(e : ¬ id k / 1099511627776=o):c=nC id o (k+1):=by unfold nC; rw[b_ e,h]; rfl
noncomputable def kW(L:dP)(v:EvM):Int:=if 5<=nC L.id v.o L.nn\/140737488355328<v.aT then 6 else jP L.t L.tn (jE v.o v.seq) v.node
def uj(f:Nat->Int)(n:Nat)(x:Int):Nat:=down (fun i=>decide (x<f i)) n
def rH(L:dP)(v:EvM):dP :=
 { L with nn:=L.nn+1,id:=cO L.id (uj L.id L.nn (jE v.o v.seq)) (jE v.o v.seq),par:=cO L.par (uj L.id L.nn (jE v.o v.seq)) v.node,
          R:=cO L.R (uj L.id L.nn (jE v.o v.seq)) (upd (fun _=>0) (v.o-1).toNat v.aT),
          tn:=L.tn+1,t:=qj L.t (down (fun i=>decide (jE v.o v.seq<L.t i 0)) L.tn) (jE v.o v.seq) v.node }
theorem Vm{id par:Int}(j:Nat):bB (bB zK0 0 1 (fun _=>aD id)) 1 1 (fun _=>aD par) j=jW id par (fun _=>0) j:=by
 unfold bB jW;by_cases a:j=0
 ·subst a; rfl
 by_cases b:j=1
 ·subst b; rfl
 rw[b_ (by omega),b_ (by omega),b_ a,b_ b]; show(if j<2 then _ else _)=_; rw[b_ (by omega)]
theorem P8{id par:Int}{R:Nat->Int}{a q:Nat}{x:Int}(d:q=a+2):dB (jW id par R) q (au x)=jW id par (upd R a x):=by
 subst d
 funext p
 unfold dB jW upd;by_cases h:p=a+2
 ·subst h; rw[d_ rfl,b_ (by omega),b_ (by omega),d_ (by omega)]
 rw[b_ h];by_cases b:p=0
 ·rw[d_ b,d_ b]
 by_cases c:p=1
 ·rw[b_ b,d_ c,b_ b,d_ c]
 rw[b_ b,b_ c,b_ b,b_ c,b_ (by omega)]
theorem P9{id par:Nat->Int}{R:Nat->Nat->Int}{k:Nat}{a b:Int}{c:Nat->Int}:Fx.JA (fun d=>jW (id d) (par d) (R d)) k (jW a b c)=fun d=>jW (cO id k a d) (cO par k b d) (cO R k c d):=by
 funext i
 unfold Fx.JA cO;by_cases h:i<k
 ·simp only[d_ h]
 by_cases e:i=k
 ·simp only[b_ h,d_ e]
 simp only[b_ h,b_ e]
theorem IL(m:mo)(a:Option Addr)(n c:Nat):dB (mD m) 18 (.slice a n c)=mD { m with s := { m.s with na:=a,nn:=n,nc:=c } }:=by
 funext p
 unfold dB mD;by_cases h:p=18
 ·subst h; rfl
 rw[b_ h];by_cases e:p<20
 ·rw[d_ e,d_ e]; unfold kI;by_cases b:p<6
  ·rw[d_ b,d_ b]
  by_cases d:p<12
  ·rw[b_ b,d_ d,b_ b,d_ d]
  by_cases f:p<18
  ·rw[b_ b,b_ d,d_ f,b_ b,b_ d,d_ f]
  rw[b_ b,b_ d,b_ f,b_ h,b_ b,b_ d,b_ f,b_ h]
 rw[b_ e,b_ e]
theorem uT{s:Nat}{z y:Nat->Value}(hy : ∀ j,(y j).oneCell'=true) : ∀ j,j<1*s->(bB z (0*s) s y j).oneCell'=true:=fun j a=>by
 unfold bB; rw[d_ (by omega)]; exact hy _
theorem Vn{f:Nat->Int}{n k j:Nat}{x:Int}(e:k=j+1)(h : ∀ i,k<=i->i<n->x<f i)(c:x<f j) : ∀ i,j<=i->i<n->x<f i:=fun i d b=>by
 by_cases a:i=j
 ·subst a; exact c
 ·exact h i (by omega) b
end Rt
theorem Rt.LU{t:Nat->Nat->Int}{tn:Nat}{id par:Int}(h:jP t tn id par=0):tn+1<=33:=by
 unfold jP at h;split at h; · cases h
 split at h; · cases h
 split at h; · cases h
 split at h; · cases h
 rename_i h4
 rcases Nat.lt_or_ge tn 32 with h5|h5
 ·omega
 exact M_ (Or.inl h5) h4
set_option maxRecDepth 20000 in
set_option maxHeartbeats 2000000 in
theorem Za(m:mo)(B p a D:Nat)(v:EvM)(w:World)(C:uh w B p m)(u:B<=w.heap.size)(ha:a<6)(ho:v.o=(a:Int)+1)(bnn:m.s.nn<=900)(hD:bC m.t m.tn (bF m.t m.tn D v.node)<0)(hD2:D<=1000) :
 Calls Tryz.prog 124 #[(pt p),.agg (aA 14 (bM v))] w fun e w'=>e = .returned (au (kW m.core v))/\Below B w w'/\(kW m.core v=0 -> ∃ m',m'.core=rH m.core v/\uh w' B p m'):=by
 have Vo:=C.c;have hLn:=C.n;have hLg:=C.g;have SY:=C.tc;have Vp:=C.t;have hLr:=C.r;have Vq:=C.pB;have Et:=C.tB;have bn:=C.bn;have bg:=C.bg;have bt:=C.bt;have lpp:p<w.heap.size:=Vo.lt;have SQ:m.tb<w.heap.size:=SY.lt;refine Kent Tryz.func124 132 ?_;refine ay<|oz fun I w1 kQ m1 s1 z1 => ?_;have⟨m2,m3,m4,m5,m6,m7⟩:=oJ s1.old Vo hLn hLg SY Vp hLr;have b1:=eZ s1.old (Below.refl B w) u;have rF:=iw kQ (Below.refl B w).size;have⟨ny,yA⟩:=sF kQ Vo.lt SY.lt;have sQ:=m1.lt;refine av (au 0)<|aC<|ay<|av (au 0)<|aC<|Ws<|ay<|av (au 0)<|aC<|Wb<|Wo (fun f z => ∃ k:Nat,∃ G:Nat,k<=m.s.nn/\G<=k/\G=nC m.id v.o k/\f 0=(pt p)/\f 3=(pt I)/\f 5=au (G:Int)/\f 6=au (k:Int)/\aP z p 27 (mD m) 56/\Fx.Own z B 84 56 (.slice m.s.na (m.s.nn) (m.s.nc)) m.s.nn (KE m)/\Fx.Own z B 106 5 (.slice m.s.ga (m.s.gn) (m.s.gc)) m.s.gn (JO m)/\aP z m.tb 1 (fun _ => .slice m.ta m.tn m.tc) 156/\Fx.Own z B 153 2 (.slice m.ta (m.tn) (m.tc)) m.tn (RB m.t)/\xK z B 6 m/\aP z I 14 (bM v) 37/\Below B w z) (fun f _=>(m.s.nn-(intOf (f 6)).toNat)) ⟨0,0,by omega,by omega,rfl,(by rfl),(by rfl),Fx.ic,Fx.ic,m2,m3,m4,m5,m6,m7,m1,b1⟩ ?_;rintro f1 O ⟨k,G,hk,hcl,aa,J,K,h3,Y,m8,m9,m10,m11,m12,m13,W,b2⟩;refine Ws<|ay<|aU Y<|aU J<|av (pt p)<|av (pt p)<|av (pf p 18)<|Lv (.slice m.s.na (m.s.nn) (m.s.nc)) (aL m8.aH 18)<|av (au m.s.nn) ?_;by_cases c18:(k:Int)<(m.s.nn:Int)
 ·refine Lv aG (gM c18)<|aC<|aM<|Wk<|sN<|Ws<|Wb<|Ws ?_;refine vV<|eG J<|aW (pt p)<|aW (pt p)<|aW (pf p 18)<|Qv (.slice m.s.na (m.s.nn) (m.s.nc)) (fun F E=>aL (m8.aH.dr E) 18)<|eG Y ?_;obtain⟨Eu,eq1⟩:=m9.addr (by omega);have m15:Fx.Own O B 84 56 (bK Eu m.s.nn m.s.nc) m.s.nn (KE m):=m9.eY (L_ (fun q=>Value.slice q m.s.nn m.s.nc) eq1);refine Qv (pf Eu (56*k)) (fun F E=>dw 56 (hx:=(rfl.trans (L_ (fun q=>Value.slice q (m.s.nn) (m.s.nc)) eq1))))<|aW (pf Eu (56*k))<|Qv (aD (m.id k)) (fun F E=>aL (m15.aH.dr E) (56*k) (Fx.fU (k:=k) (j:=0) (by omega) (by omega) rfl))<|Qv (aD ((m.id k) / 1099511627776)) (fun F E=>Fx.abh (b:=40) (q:=1099511627776) rfl rfl rfl (by decide) (by decide))<|Qv (pt I) (fun F E=>iL K 0)<|Qv (au v.o) (fun F E=>aL (W.aH.dr E) 0)<|Qv (aD v.o) (fun F E=>dA rfl rfl (by kernel_rfl) Tryz.underlying23 (jS (by omega) rfl)) ?_;by_cases c34:((m.id k) / 1099511627776)=v.o
  ·refine Qv aG (fun F E=>eH c34)<|Qn ?_;rintro _ ⟨qd,rfl⟩;obtain⟨BM,nV⟩ : ∃ F,F=World.drewN O qd:=⟨_,rfl⟩;rw[<- nV];have s2:Stp O.heap.size O BM:=(by rw[nV]; exact Sb (jA O qd));have⟨m16,m17,m18,m19,m20,m21,m22⟩:=jT s2.old m8 m10 m11 m12 m13 W m15;have b3:=eZ s2.old b2 u;clear nV;refine sN<|aM<|Wl<|aU h3<|Lv (au ((G:Int)+1)) fA<|av (au ((G:Int)+1))<|Ln<|bP<|sN<|Wl<|aU Y<|Lv (au ((k:Int)+1)) fA<|av (au ((k:Int)+1))<|Ln ?_;have m23:Fx.Own BM B 84 56 (.slice m.s.na (m.s.nn) (m.s.nc)) m.s.nn (KE m):=m22.eY (L_ (fun q=>Value.slice q m.s.nn m.s.nc) eq1.symm);refine gW ⟨k+1,G+1,by omega,by omega,(Vl aa c34),J,K,Fx.ic,Fx.ic,m16,m23,m17,m18,m19,m20,m21,b3⟩ ?_;show(m.s.nn-(intOf (au ((k:Int)+1))).toNat)<_;simp only[Y,intOf]; omega
  refine Qv aF (fun F E=>fC c34)<|Qn ?_;rintro _ ⟨qd,rfl⟩;obtain⟨wq2,um⟩ : ∃ F,F=World.drewN O qd:=⟨_,rfl⟩;rw[<- um];have s3:Stp O.heap.size O wq2:=by rw[um]; exact Sb (jA O qd)
  have⟨m24,mZ,nQ,nH,og,oh,oD⟩:=jT s3.old m8 m10 m11 m12 m13 W m15;have b4:=eZ s3.old b2 u;clear um;refine sN<|aK<|Wk<|bP<|sN<|Wl<|aU Y<|Lv (au ((k:Int)+1)) fA<|av (au ((k:Int)+1))<|Ln ?_;have lI:Fx.Own wq2 B 84 56 (.slice m.s.na (m.s.nn) (m.s.nc)) m.s.nn (KE m):=oD.eY (L_ (fun q=>Value.slice q m.s.nn m.s.nc) eq1.symm);refine gW ⟨k+1,G,by omega,by omega,(Y9 aa c34),J,K,(h3.trans Fx.ic),Fx.ic,m24,lI,mZ,nQ,nH,og,oh,b4⟩ ?_;show(m.s.nn-(intOf (au ((k:Int)+1))).toNat)<_;simp only[Y,intOf]; omega
 refine Lv aF (gN c18)<|aC<|aK<|Wx<|bX<|gP<|bY<|sN<|Ws<|ay<|aU h3 ?_;by_cases c38:5<=(G:Int)
 ·refine Lv aG (kR c38)<|av aG<|bO<|bO<|bO<|av aG<|aC<|aM<|ay<|av (au 6)<|aC<|Wr<|sR<|aJ (au 6) ?_;have N:k=m.s.nn:=by omega
  subst N;have H:kW m.core v=6:=d_ (.inl (by rw[show nC m.core.id v.o m.core.nn=G from aa.symm]; omega));exact⟨oL H.symm,b2,fun U=>by rw[H]at U; cases U⟩
 refine Lv aF (kJ c38)<|av aF<|Lv (pf I 11) (iL K 11)<|Lv (au v.aT) (aL W.aH 11) ?_;by_cases Uk:140737488355328<v.aT
 ·refine Lv aG (ni Uk)<|av aG<|aC<|aM<|ay<|av (au 6)<|aC<|Wr<|sR<|aJ (au 6) ?_;have N:k=m.s.nn:=by omega
  subst N;have H:kW m.core v=6:=d_ (.inr (by omega));exact⟨oL H.symm,b2,fun U=>by rw[H]at U; cases U⟩
 refine Lv aF (nk Uk)<|av aF<|aC<|aK<|Wk<|sN<|ay<|Lv (pt I) (iL K 0)<|Lv (au v.o) (aL W.aH 0)<|Lv (pf I 1) (iL K 1)<|Lv (aD v.seq) (aL W.aH 1)<|lH (anu v.o v.seq _) _ rfl<|av (aD (jE v.o v.seq))<|aC<|Ws ?_;refine kH [0,1,2,4,5,3,6,7,8] [0,0,0,4,0,0,4,3,0] [(7,3,[3]),(7,6,[6]),(8,7,[7])] fun rE dR iK => ?_;have⟨m32,pE,nR,pF,nS,qW,qB⟩:=jT dR m8 m9 m10 m11 m12 m13 W;have b5:=eZ dR b2 u;refine bZ J<|aX (pt p)<|aX (pf p 20)<|aX (aD (jE v.o v.seq))<|Rp (pf I 9) (fun _=>iL K 9)<|Rs (pt m.tb) (aL m32.aH 20) ?_;refine Rs (aD v.node) (aL qB.aH 9) ?_;refine gZ<|dH (aic B m.tb m.ta m.tn m.tc m.t (jE v.o v.seq) v.node D _ pF nS (fun e=>Fx.Ty.ne (nS.ty e) pF.ty (by decide) rfl) (m_ u b5.size) bt hD hD2) _ rfl ?_;rintro X ⟨aio,hcs1⟩;have hc1:iF [156,153] rE X:=Fx.iF.TH aio (by rintro k (rfl|e) <;> first|exact⟨_,pF.ty,by decide⟩|exact⟨_,nS.ty e,by decide⟩)
 have pK:aP X p 27 (mD m) 56:=m32.lu hc1 (by decide);have sS:Fx.Own X B 84 56 (.slice m.s.na (m.s.nn) (m.s.nc)) m.s.nn (KE m):=pE.lu hc1 (by decide);have mh:Fx.Own X B 106 5 (.slice m.s.ga (m.s.gn) (m.s.gc)) m.s.gn (JO m):=nR.lu hc1 (by decide);have lM:xK X B 6 m:=qW.lu hc1 (by decide);have mH:aP X I 14 (bM v) 37:=qB.lu hc1 (by decide);have b6:Below B w X:=Fx.jM.below b5 aio (by rintro k (rfl|e) <;> first|exact Et|exact(nS.ge e).1) (m_ u b5.size)
 rcases hcs1 with ⟨Q,hT1,hO1⟩|⟨Q,g9,Zb,hT1,hO1,hne1⟩
 ·refine Ln<|aX (au (jP m.t m.tn (jE v.o v.seq) v.node))<|bS<|Ws<|ay<|av (au (jP m.t m.tn (jE v.o v.seq) v.node))<|Lv aG (mG Q)<|aC<|aM<|ay<|av (au (jP m.t m.tn (jE v.o v.seq) v.node))<|av (au (jP m.t m.tn (jE v.o v.seq) v.node))<|aC<|Wr<|sR<|aJ (au (jP m.t m.tn (jE v.o v.seq) v.node)) ?_;have N:k=m.s.nn:=by omega
  subst N;have H:kW m.core v=jP m.t m.tn (jE v.o v.seq) v.node:=b_ (fun h=>h.elim (fun h=>by rw[show nC m.core.id v.o m.core.nn=G from aa.symm]at h; omega) (fun h=>by omega));exact⟨oL H.symm,b6,fun U=>M_ (H.symm.trans U) Q⟩
 refine Ln<|aX (au (jP m.t m.tn (jE v.o v.seq) v.node))<|bS<|Ws<|ay<|av (au (jP m.t m.tn (jE v.o v.seq) v.node))<|Lv aF (jG Q)<|aC<|aK<|Wk<|sN<|ay<|av (aD (jE v.o v.seq))<|Lv (pf I 9) (iL K 9)<|Lv (aD v.node) (aL mH.aH 9)<|av (.agg (aA 56 (bB (bB zK0 0 1 (fun _=>aD (jE v.o v.seq))) 1 1 (fun _=>aD v.node))))<|qR 56 zK0 fun M w4 yw qg s5 z2 => ?_;have⟨qh,om,rW,wh,uD,qX,vJ⟩:=jT s5.old pK sS mh lM mH hT1 hO1;have b7:=eZ s5.old b6 u;have pO:=iw yw b6.size;have anA:=cu yw pK.lt;have FW:(.slice m.s.na (m.s.nn) (m.s.nc):Value).ownBlock≠some M:=by rw[yw]; exact sS.jF (A_ _)
 have⟨anB,anC,adR⟩:=AJ yw mH.lt hT1.lt hO1.lt;have yu:=qg.lt;refine dU qg 0 (h1:=(bJ (bJ (fun jq _=>by show(zK0 jq).oneCell'=true; simp only[zK0]; repeat (first|rfl|split)) (fun _ _=>rfl)) (fun _ _=>rfl))) fun w5 uZ s6 z3 => ?_
 have uE:aP w5 M 56 (bB (bB zK0 0 1 (fun _=>aD (jE v.o v.seq))) 1 1 (fun _=>aD v.node)) 84:=aQ uZ;have fV:=gH s6 qg.ty;have wm:=jo fV qh;have wo:=om.cZ s6 FW;have⟨tQ,tT,uF,yD,rG⟩:=rD fV rW wh uD qX vJ;have b8:=s6.below b7 (m_ u b7.size) (by omega);refine aC<|Ws ?_;have vK:aP w5 M 56 (jW (jE v.o v.seq) v.node (fun _=>0)) 84:=uE.congr (fun j hj=>Vm j);refine Wl<|Lv (pt I) (iL K 0)<|Lv (au v.o) (aL uF.aH 0)<|Lv (au a) gQ<|Lv (pf I 11) (iL K 11)<|Lv (au v.aT) (aL uF.aH 11)<|av (pf M 2)<|av (pf M 2)<|Lv (pf M (a+2)) (jJ 6 1)<|ji vK (a+2) (au v.aT) fun w6 pz s7 z4 => ?_;have uI:aP w6 M 56 (jW (jE v.o v.seq) v.node (upd (fun _=>0) a v.aT)) 84:=pz.to (P8 (by omega));have jr:=gH s7 vK.ty;have m64:=jo jr wm;have xw:=wo.cZ s7 FW;have⟨wN,vL,xA,tV,vM⟩:=rD jr tQ tT uF yD rG;have b9:=s7.below b8 (m_ u b8.size) (by omega);refine aC<|Ws ?_;have ek0:k=m.s.nn:=by omega
 obtain⟨cn0,aiq,hc38⟩ : ∃ cn0,cn0=nC m.id v.o m.s.nn /\ ¬ (5:Int)<=(cn0:Int):=⟨G,by rw[<- ek0]; exact aa,c38⟩;clear aa hcl ek0;refine Wl<|aU J<|av (pt p)<|av (pt p)<|av (pf p 18)<|Lv (.slice m.s.na (m.s.nn) (m.s.nc)) (aL m64.aH 18)<|av (au m.s.nn)<|av (au m.s.nn)<|aC<|Ws ?_;refine zX [0,1,2,3,4,5,6,7,8,9,10,11,12] [0,0,0,0,0,1,4,2,2,0,0,0,3] (iF [84]) vI Fx.iF.trans (fJ := [(12,5,[5]),(7,6,[6]),(8,6,[7,6]),(12,6,[6]),(8,7,[7]),(9,7,[7]),(10,7,[7]),(11,7,[7]),(12,7,[7]),(9,8,[8]),(10,8,[8]),(11,8,[8]),(12,8,[8])]) (by kernel_rfl) (by kernel_rfl) (by kernel_rfl) (by kernel_rfl) (by kernel_rfl) fun CJ gJ nZ => ?_;have⟨uP,vN,vO,zI,wO,yI,yJ,yK⟩:=nO gJ m64 xw wN vL xA tV vM uI;have b10:=eZ gJ b9 u;refine bZ J<|bZ J<|aX (pt p)<|aX (pt p)<|aX (pf p 18)<|Rd (v := .slice m.s.na (m.s.nn) (m.s.nc)) (by rfl) (by rfl) (vI _) (fun F E=>bA (x:=mD m) rfl rfl (by kernel_rfl) (uP.lu E (by decide)).aH (i:=18) (by omega) (by omega) rfl) ?_;refine Rs (.agg (aA 56 (jW (jE v.o v.seq) v.node (upd (fun _=>0) a v.aT)))) (eT yK.aH 0) ?_;refine zD<|wV (vs := [(0,.agg (aA 56 (jW (jE v.o v.seq) v.node (upd (fun _=>0) a v.aT))))]) (s:=56) (zc:=fun L=>if L<2 then aD 0 else au 0) (y:=bB (fun j=>zK0 (j % 56)) (0*56) 56 (jW (jE v.o v.seq) v.node (upd (fun _=>0) a v.aT))) (by rfl) rfl rfl Tryz.underlying47 (by kernel_rfl) (by rfl) (by rfl) (by kernel_rfl) (by rw[aZ (off:=0*56) (s:=56) (y:=jW (jE v.o v.seq) v.node (upd (fun _=>0) a v.aT)) rfl (bE _ _) (by rfl)]; rfl) rfl fun g3 w7 yE yt s9 z5 => ?_;have⟨xB,xC,yR,AP,yS,BI,Bq,Br⟩:=nO s9.old uP vN vO zI wO yI yJ yK;have b11:=eZ s9.old b10 u;have Bp:=iw yE b10.size;have anE:=cu yE uP.lt;have anF:(.slice m.s.na (m.s.nn) (m.s.nc):Value).ownBlock≠some g3:=by rw[yE]; exact vN.jF (A_ _)
 have⟨anG,adS,JR,adT⟩:=K5 yE wO.lt yI.lt yJ.lt yK.lt;have Hg:=yt.lt;refine Ln ⟨Fx.iF.of_below s9.old,?_⟩;refine zD<|yc (B:=B) (s:=56) (bytes:=448) (k:=m.s.nn) (m:=1) (v := .slice m.s.na (m.s.nn) (m.s.nc)) (x:=KE m) (by rfl) rfl rfl rfl Tryz.underlying47 (by kernel_rfl) (by kernel_rfl) rfl rfl xC yt.aH (uT (qE _ _ _)) (by omega) (by omega) (by omega) (m_ u b11.size) fun l A w8 ho1 hg1 tO hlt1 => ?_;have qc:=yC hg1 xC;have⟨AU,BJ,FL,Es,CU,DX⟩:=TK qc xB yR AP yS BI Bq;have AY:=Br.grown hg1 FW;have anH:M≠l:=fun e=>tO.elim (fun e2=>FW (by rw[e]; exact e2)) (fun e2=>by have:=Br.lt; omega);have AQ:Fx.Own w8 B 84 56 (bK l (m.s.nn+1) A) (m.s.nn+1) (flat 56 (Fx.K3 (fun d=>jW (m.id d) (m.par d) (m.R d)) (jW (jE v.o v.seq) v.node (upd (fun _=>0) a v.aT)) m.s.nn m.s.nn)):=(ho1.congr (fun j hj=>(Fx.vS j hj).trans (bI (fun i V q _=>Fx.yN i V q) j hj)));have b12:Below B w w8:=xZ b11 hg1 (m_ u b11.size) (fun q hq=>(xC.ge hq).1);refine Ln ⟨qc,?_⟩;refine aX (pt p)<|aX (pt p)<|aX (pf p 18)<|gZ<|ji AU 18 (bK l (m.s.nn+1) A) fun w9 Hl s10 z6 => ?_;have xu:=gH s10 AU.ty;have⟨ET,Ho,HY,xL,yV,xM,vg⟩:=TL xu BJ FL Es CU DX AY AQ;have b13:=s10.below b12 (m_ u b12.size) (by omega);refine Ln<|bS<|Ws<|Wb<|Wo (fun f z => ∃ k:Nat,k<=m.s.nn/\(∀ i,k<=i->i<m.s.nn->(jE v.o v.seq)<m.id i)/\f 0=(pt p)/\f 7=aD (jE v.o v.seq)/\f 9=(pt M)/\f 10=au (k:Int)/\Fx.Own z B 106 5 (.slice m.s.ga (m.s.gn) (m.s.gc)) m.s.gn (JO m)/\xK z B 6 m/\aP z I 14 (bM v) 37/\aP z m.tb 1 (fun _=>bK g9 (m.tn+1) Zb) 156/\Fx.Own z B 153 2 (bK g9 (m.tn+1) Zb) (m.tn+1) (rv .u64 (lS (qj m.t (down (fun i=>decide ((jE v.o v.seq)<m.t i 0)) m.tn) (jE v.o v.seq) v.node)))/\aP z M 56 (jW (jE v.o v.seq) v.node (upd (fun _=>0) a v.aT)) 84/\aP z p 27 (dB (mD m) 18 (bK l (m.s.nn+1) A)) 56/\Fx.Own z B 84 56 (bK l (m.s.nn+1) A) (m.s.nn+1) (flat 56 (Fx.K3 (fun d=>jW (m.id d) (m.par d) (m.R d)) (jW (jE v.o v.seq) v.node (upd (fun _=>0) a v.aT)) m.s.nn k))/\Below B w z) (fun f _=>(intOf (f 10)).toNat) ⟨m.s.nn,by omega,(fun i J K=>M_ J (by omega)),J,Fx.ic,(by rfl),Fx.ic,ET,Ho,HY,xL,yV,xM,Hl,vg,b13⟩ ?_;rintro f2 pJ ⟨k,hk,hgt,Z,h6,h7,P,qF,ql,rJ,qG,sI,uo,wB,sJ,b14⟩;refine Ws<|ay<|aU P ?_;by_cases c91:0<(k:Int)
 ·obtain⟨j,ej⟩ : ∃ j,k=j+1:=⟨k-1,by omega⟩;refine Lv aG (ni c91)<|av aG<|aU Z<|av (pt p)<|av (pt p)<|av (pf p 18)<|Lv (bK l (m.s.nn+1) A) (aL wB.aH 18 (Fx.mE (by omega)))<|aU P<|Lv (au j) gQ<|Lv (pf l (56*j)) (dw 56)<|av (pf l (56*j))<|Lv (aD (m.id j)) (aL sJ.aH (56*j) (Fx.fU (k:=j) (j:=0) (by omega) (by omega) ((congrFun (Fx.Aj (by omega) (by omega)) 0).trans rfl)))<|aU h6 ?_;by_cases Zc:(jE v.o v.seq)<(m.id j)
  ·refine Lv aG (ni Zc)<|av aG<|aC<|aM<|Wk<|sN<|Wb<|Ws ?_;refine kH [0,1,2,3,5,6,7,8,9,11,12,4,10,13,14,15,16] [0,0,0,0,4,0,0,0,0,0,4,0,0,0,4,0,3] [(16,4,[4]),(16,10,[10]),(16,14,[14])] fun SS mQ BG => ?_;have⟨vk,Ad,wC,Ae,CV,yF,vo,rM⟩:=nO mQ qF ql rJ qG sI uo wB sJ;have b15:=eZ mQ b14 u;refine bZ Z<|aX (pt p)<|aX (pt p)<|aX (pf p 18)<|bZ P<|bZ Z<|aX (pt p)<|aX (pt p)<|aX (pf p 18)<|bZ P<|Rp (au j) (fun _=>gQ)<|Rs (bK l (m.s.nn+1) A) (aL vo.aH 18 (Fx.mE (by omega))) ?_;refine Rs (bK l (m.s.nn+1) A) (aL vo.aH 18 (Fx.mE (by omega))) ?_;refine Rp (pf l (56*j)) (fun _=>dw 56)<|Rs (.agg (aA 56 (jW (m.id j) (m.par j) (m.R j)))) (eT rM.aH (56*j) (fun jq hjq=>(Fx.iq (k:=j) (by omega) hjq).trans (congrFun (Fx.Aj (by omega) (by omega)) jq))) ?_;refine Rp (pf l (56*k)) (fun _=>dw 56)<|gZ<|AB rM (56*k) (h1:=(fun j _=>qE _ _ _ j)) fun DV yX s12 z7 => ?_;have Aa:=gH s12 rM.KY;have⟨yY,vw,CW,JU,FX⟩:=rD Aa vk Ad wC Ae CV;have BP:=yF.cZ s12 (by omega);have FY:=jo Aa vo;have b16:=s12.below b15 (m_ u b15.size) rM.blk.1;have HZ:Fx.Own DV B 84 56 (bK l (m.s.nn+1) A) (m.s.nn+1) (flat 56 (Fx.K3 (fun d=>jW (m.id d) (m.par d) (m.R d)) (jW (jE v.o v.seq) v.node (upd (fun _=>0) a v.aT)) m.s.nn j)):=yX.congr (fun T S=>(Fx.vT (k:=k) (by omega) T S).trans (bI (fun i V q _=>Fx.zB ej (by omega) i V q) T S));refine Ln<|bS<|Wl<|aU P<|Lv (au j) gQ<|av (au j)<|Ln<|bP<|gW ⟨j,by omega,(Vn ej hgt Zc),Z,(h6.trans Fx.ic),h7,Fx.ic,yY,vw,CW,JU,FX,BP,FY,HZ,b16⟩ ?_;show(intOf (au j)).toNat<_;simp only[P,intOf]; omega
  refine Lv aF (nk Zc)<|av aF<|aC<|aK<|Wx<|bX<|gP<|bY<|sN<|Ws ?_;refine kH [0,1,2,3,5,4,6,7,8] [0,0,0,0,4,0,4,0,3] [(8,4,[4]),(8,6,[6])] fun wt4 rU Iy => ?_;have⟨CX,AZ,LV,FZ,F3,H6,H7⟩:=jT rU qF ql qG sI uo wB sJ;have b17:=eZ rU b14 u;refine bZ Z<|aX (pt p)<|aX (pt p)<|aX (pf p 18)<|bZ P<|Rs (bK l (m.s.nn+1) A) (aL H6.aH 18 (Fx.mE (by omega))) ?_;refine Rs (.agg (aA 56 (jW (jE v.o v.seq) v.node (upd (fun _=>0) a v.aT)))) (eT F3.aH 0 (ha:=h7)) ?_;refine Rp (pf l (56*k)) (fun _=>dw 56)<|gZ<|AB H7 (56*k) (h1:=(fun j _=>qE _ _ _ j)) fun Ct CY Cr z8 => ?_;have Ac:=gH Cr H7.KY;have⟨F4,CZ,F5,A8⟩:=K4 Ac CX AZ LV FZ;have C8:=F3.cZ Cr (by omega);have BQ:=jo Ac H6;have b18:=Cr.below b17 (m_ u b17.size) H7.blk.1;have JV:Fx.Own Ct B 84 56 (bK l (m.s.nn+1) A) (m.s.nn+1) (flat 56 (Fx.JA (fun d=>jW (m.id d) (m.par d) (m.R d)) k (jW (jE v.o v.seq) v.node (upd (fun _=>0) a v.aT)))):=CY.congr (fun T S=>(Fx.vT (k:=k) (by omega) T S).trans (bI (fun i V q _=>Fx.uL (by omega) i V q) T S));refine Ln<|bS<|ay<|av (au 0)<|aC<|Wr<|aJ (au 0) ?_;have H:kW m.core v=jP m.t m.tn (jE v.o v.seq) v.node:=b_ (fun h=>h.elim (fun h=>by rw[show nC m.core.id v.o m.core.nn=cn0 from aiq.symm]at h; omega) (fun h=>by omega));have N:k=uj m.id m.s.nn (jE v.o v.seq):=Fx.qo hk (fun i a b=>f_ (hgt i a b)) (.inr (fun j2 e=>by rw[show j2=j by omega]; exact g_ Zc));have Vr:Fx.Own Ct B 84 56 (bK l (m.s.nn+1) A) (m.s.nn+1) (flat 56 fun d=>jW (cO m.id k (jE v.o v.seq) d) (cO m.par k v.node d) (cO m.R k (upd (fun _=>0) a v.aT) d)):=by rw[<- P9]; exact JV
  have eR:(upd (fun _=>0) a v.aT)=upd (fun _=>0) (v.o-1).toNat v.aT:=by rw[show(v.o-1).toNat=a by omega]
  have bn9:m.tn+1<=33:=LU Q;refine⟨oL (Q.symm.trans H.symm),b18,fun _=>⟨{ m with s := { m.s with na:=some ⟨l,0,none⟩,nn:=m.s.nn+1,nc:=A },id:=cO m.id k (jE v.o v.seq),par:=cO m.par k v.node,R:=cO m.R k (upd (fun _=>0) a v.aT),ta:=some ⟨g9,0,none⟩,tn:=m.tn+1,tc:=Zb,t:=qj m.t (down (fun i=>decide ((jE v.o v.seq)<m.t i 0)) m.tn) (jE v.o v.seq) v.node },?_,?_⟩⟩
  ·unfold rH; rw[show uj m.core.id m.core.nn (jE v.o v.seq)=k from N.symm,<- eR]; rfl
  exact { c:=BQ.to (IL m _ _ _),n:=Vr,g:=F4,tc:=F5,t:=A8,r:=CZ,pB:=Vq,tB:=Et,bn:=(by have:=bnn; show m.s.nn+1<=1000; omega),bg:=bg,bt:=(by show m.tn+1<=1000; omega),br:=C.br }
 refine Lv aF (nk c91)<|av aF<|bO<|bO<|bO<|bO<|bO<|bO<|bO<|bO<|bO<|bO<|bO<|bO<|av aF<|aC<|aK<|Wx<|bX<|gP<|bY<|sN<|Ws ?_;refine kH [0,1,2,3,5,4,6,7,8] [0,0,0,0,4,0,4,0,3] [(8,4,[4]),(8,6,[6])] fun wt5 Ao Un => ?_;have⟨Vs,Vt,Vu,adU,Vv,RH,Vw⟩:=jT Ao qF ql qG sI uo wB sJ;have b19:=eZ Ao b14 u;refine bZ Z<|aX (pt p)<|aX (pt p)<|aX (pf p 18)<|bZ P<|Rs (bK l (m.s.nn+1) A) (aL RH.aH 18 (Fx.mE (by omega))) ?_;refine Rs (.agg (aA 56 (jW (jE v.o v.seq) v.node (upd (fun _=>0) a v.aT)))) (eT Vv.aH 0 (ha:=h7)) ?_;refine Rp (pf l (56*k)) (fun _=>dw 56)<|gZ<|AB Vw (56*k) (h1:=(fun j _=>qE _ _ _ j)) fun EM Vx s16 z9 => ?_;have BO:=gH s16 Vw.KY;have⟨adV,adW,RI,adX⟩:=K4 BO Vs Vt Vu adU;have air:=Vv.cZ s16 (by omega);have adY:=jo BO RH;have b20:=s16.below b19 (m_ u b19.size) Vw.blk.1;have adZ:Fx.Own EM B 84 56 (bK l (m.s.nn+1) A) (m.s.nn+1) (flat 56 (Fx.JA (fun d=>jW (m.id d) (m.par d) (m.R d)) k (jW (jE v.o v.seq) v.node (upd (fun _=>0) a v.aT)))):=Vx.congr (fun T S=>(Fx.vT (k:=k) (by omega) T S).trans (bI (fun i V q _=>Fx.uL (by omega) i V q) T S));refine Ln<|bS<|ay<|av (au 0)<|aC<|Wr<|aJ (au 0) ?_;have H:kW m.core v=jP m.t m.tn (jE v.o v.seq) v.node:=b_ (fun h=>h.elim (fun h=>by rw[show nC m.core.id v.o m.core.nn=cn0 from aiq.symm]at h; omega) (fun h=>by omega));have N:k=uj m.id m.s.nn (jE v.o v.seq):=Fx.qo hk (fun i a b=>f_ (hgt i a b)) (.inl (by omega));have aea:Fx.Own EM B 84 56 (bK l (m.s.nn+1) A) (m.s.nn+1) (flat 56 fun d=>jW (cO m.id k (jE v.o v.seq) d) (cO m.par k v.node d) (cO m.R k (upd (fun _=>0) a v.aT) d)):=by rw[<- P9]; exact adZ
 have eR:(upd (fun _=>0) a v.aT)=upd (fun _=>0) (v.o-1).toNat v.aT:=by rw[show(v.o-1).toNat=a by omega]
 have bn9:m.tn+1<=33:=LU Q;refine⟨oL (Q.symm.trans H.symm),b20,fun _=>⟨{ m with s := { m.s with na:=some ⟨l,0,none⟩,nn:=m.s.nn+1,nc:=A },id:=cO m.id k (jE v.o v.seq),par:=cO m.par k v.node,R:=cO m.R k (upd (fun _=>0) a v.aT),ta:=some ⟨g9,0,none⟩,tn:=m.tn+1,tc:=Zb,t:=qj m.t (down (fun i=>decide ((jE v.o v.seq)<m.t i 0)) m.tn) (jE v.o v.seq) v.node },?_,?_⟩⟩
 ·unfold rH; rw[show uj m.core.id m.core.nn (jE v.o v.seq)=k from N.symm,<- eR]; rfl
 exact { c:=adY.to (IL m _ _ _),n:=aea,g:=adV,tc:=RI,t:=adX,r:=adW,pB:=Vq,tB:=Et,bn:=(by have:=bnn; show m.s.nn+1<=1000; omega),bg:=bg,bt:=(by show m.tn+1<=1000; omega),br:=C.br }
namespace Rt
theorem mK(x:Nat->Int)(n:Int)(is:Bool)(a:Int)(off:Nat) :
 ((dh x n is a off).1=zero/\(dh x n is a off).2≠0 /\ ¬ (may x=true/\1<=n/\n<=1125899906842624/\is=true/\a=0/\x off+n<=1125899906842624)) \/
 ((may x=true/\1<=n/\n<=1125899906842624/\is=true/\a=0/\x off+n<=1125899906842624)/\dh x n is a off=(upd x off (x off+n),0)):=by
 unfold dh;by_cases f:may x=true
 ·by_cases c:1<=n
  ·by_cases d:n<=1125899906842624
   ·rw[f,f_ c,f_ d];simp only[Bool.and_self,if_true]
    cases is
    ·left; exact⟨rfl,(by show(10:Int)≠0; decide),fun h=>by cases h.2.2.2.1⟩
    by_cases b:a=0
    ·by_cases e:x off+n<=1125899906842624
     ·right; exact⟨⟨trivial,c,d,rfl,b,e⟩,by rw[d_ rfl,d_ b,d_ e]⟩
     left; rw[d_ rfl,d_ b,b_ e]; exact⟨rfl,by decide,fun h=>e h.2.2.2.2.2⟩
    left; rw[d_ rfl,b_ b]; exact⟨rfl,b,fun h=>b h.2.2.2.2.1⟩
   left; rw[g_ d,I_,b_ (by decide)]; exact⟨rfl,by decide,fun h=>d h.2.2.1⟩
  left; rw[g_ c,I_,Bool.false_and,b_ (by decide)]; exact⟨rfl,by decide,fun h=>c h.2.1⟩
 left; rw[show may x=false by simpa using f,Bool.false_and,Bool.false_and,b_ (by decide)]; exact⟨rfl,by decide,fun h=>by cases h.1⟩
theorem N8{x:Nat->Int}(h:RA x){off:Nat}{n:Int}(h1:1<=n)(c:x off+n<=1125899906842624)(a:off<54):RA (upd x off (x off+n)):=by
 intro p b;unfold upd;split
 ·have:=h off a; omega
 exact h p b
theorem qw{i:Int}(h:gG i=true) : ∃ a:Nat,a<6/\i=(a:Int)+1/\i.toNat-1=a:=by
 have:1<=i/\i<=6:=by unfold gG at h; simpa using h
 exact⟨(i-1).toNat,by omega,by omega,by omega⟩
structure Moved(x y:Nat->Int)(a b:Nat)(n:Int):Prop where
 may:may y=true
 l : ∀ k,k<6->L y k=L x k+(if k=b then n else 0)-(if k=a then n else 0)
 g:nT y=nT x
 u:mV y=mV x
theorem zM{x:Nat->Int}{i j n:Int}(h:(dn x i j n).2=0) : ∃ a b:Nat,a<6/\b<6/\a≠b/\i=(a:Int)+1/\j=(b:Int)+1/\1<=n/\n<=1125899906842624/\n<=L x a/\Moved x (dn x i j n).1 a b n/\(dn x i j n).1=upd x (18+a*6+b) (x (18+a*6+b)+n):=by
 unfold dn at *
 rcases mK x n (gG i&&gG j) (mR x i j n) (jZ i j)with ⟨_,f,_⟩|⟨⟨hm,h1,f,hr,he,hx⟩,heq⟩
 ·exact M_ h f
 rw[T_]at hr;obtain⟨a,g,l,D⟩:=qw hr.1;obtain⟨b,m,q,E⟩:=qw hr.2;have s:jZ i j=18+a*6+b:=by unfold jZ; rw[D,E]
 rw[s]at heq hx;rw[s];have B:a≠b:=by
  intro z;unfold mR at he;rw[d_ (by rw[l,q,z])]at he
  cases he
 have y:n<=L x a:=by
  unfold mR at he;rw[b_ (by omega)]at he;by_cases d:bT x i<n
  ·rw[f_ d]at he; cases he
  ·rw[l,iZ hm a g]at d; omega
 obtain⟨e,t,w⟩:=(kr x).1 hm;have d:=adI x a b g m n;have c : ∀ p,p<18->upd x (18+a*6+b) (x (18+a*6+b)+n) p=x p:=fun p I=>gY _ _ _ _ (by omega);have o:nT (upd x (18+a*6+b) (x (18+a*6+b)+n))=nT x:=by unfold nT G; rw[c 0 (by omega),c 1 (by omega),c 2 (by omega),c 3 (by omega),c 4 (by omega),c 5 (by omega)]
 have A:(dh x n (gG i&&gG j) (mR x i j n) (18+a*6+b)).1=upd x (18+a*6+b) (x (18+a*6+b)+n):=by rw[heq]
 rw[A];refine⟨a,b,g,m,B,l,q,h1,f,y,⟨?_,d,o,?_⟩,rfl⟩
 ·rw[kr];refine⟨N8 e h1 hx (by omega),fun k r => ?_,by rw[o]; exact w⟩;obtain⟨H,u,v⟩:=t k r;refine⟨?_,?_,?_⟩
  ·rw[d k r];split
   ·split <;> omega
   split
   ·rename_i hka; subst hka; omega
   omega
  ·unfold F C at *; rw[c _ (by omega),c _ (by omega)]; exact u
  unfold R at *; rw[gY _ _ _ _ (by omega)]; exact v
 unfold mV C F; simp only[c _ (show 6+0<18 by omega),c _ (show 6+1<18 by omega),c _ (show 6+2<18 by omega),c _ (show 6+3<18 by omega),c _ (show 6+4<18 by omega),c _ (show 6+5<18 by omega),c _ (show 12+0<18 by omega),c _ (show 12+1<18 by omega),c _ (show 12+2<18 by omega),c _ (show 12+3<18 by omega),c _ (show 12+4<18 by omega),c _ (show 12+5<18 by omega)]
theorem F6(x:Nat->Int)(off:Nat)(c:off<18)(v:Int)(a b:Nat):R (upd x off v) a b=R x a b:=gY _ _ _ _ (by omega)
theorem Vy(x:Nat->Int)(off:Nat)(a:off<18)(v:Int)(k:Nat):L (upd x off v) k=L x k+(G (upd x off v) k-G x k)+(F (upd x off v) k-F x k)-(C (upd x off v) k-C x k):=by
 unfold L;simp only[F6 x off a v];omega
theorem ais(x:Nat->Int)(a:Nat)(n:Int)(k:Nat):C (upd x (6+a) (x (6+a)+n)) k=C x k+(if k=a then n else 0):=by
 unfold C upd;by_cases h:k=a
 ·subst h; simp
 rw[b_ (by omega),b_ h]; omega
theorem ait(x:Nat->Int)(a:Nat)(n:Int)(k:Nat):F (upd x (12+a) (x (12+a)+n)) k=F x k+(if k=a then n else 0):=by
 unfold F upd;by_cases h:k=a
 ·subst h; simp
 rw[b_ (by omega),b_ h]; omega
theorem aiu(x:Nat->Int)(a:Nat)(n:Int)(k:Nat):G (upd x a (x a+n)) k=G x k+(if k=a then n else 0):=by
 unfold G upd;by_cases h:k=a
 ·subst h; simp
 rw[b_ h,b_ h]; omega
theorem six(a:Nat)(ha:a<6)(n:Int):(if 0=a then n else 0)+(if 1=a then n else 0)+(if 2=a then n else 0)+(if 3=a then n else 0)+(if 4=a then n else 0)+(if 5=a then n else 0)=n:=by
 have:a=0\/a=1\/a=2\/a=3\/a=4\/a=5:=by omega
 rcases this with h|h|h|h|h|h <;> subst h <;> simp
theorem JW{x:Nat->Int}{i n:Int}(h:(bG x i n).2=0) : ∃ a:Nat,a<6/\i=(a:Int)+1/\1<=n/\n<=1125899906842624/\n<=L x a/\C x a+n<=1125899906842624/\may (bG x i n).1=true /\
 (∀ k,k<6->L (bG x i n).1 k=L x k-(if k=a then n else 0))/\nT (bG x i n).1=nT x/\mV (bG x i n).1=mV x+n/\(bG x i n).1=upd x (6+a) (x (6+a)+n):=by
 unfold bG at *
 rcases mK x n (gG i) (qC x i n) (6+(i.toNat-1))with ⟨_,j,_⟩|⟨⟨hm,h1,j,hr,he,hx⟩,heq⟩
 ·exact M_ h j
 obtain⟨a,l,o,p⟩:=qw hr;rw[p]at heq hx;rw[p];have t:n<=L x a:=by
  unfold qC at he;by_cases g:bT x i<n
  ·rw[f_ g]at he; cases he
  ·rw[o,iZ hm a l]at g; omega
 obtain⟨e,q,s⟩:=(kr x).1 hm;have u:(dh x n (gG i) (qC x i n) (6+a)).1=upd x (6+a) (x (6+a)+n):=by rw[heq]
 rw[u];have b:=ais x a n;have f : ∀ k,k<6->G (upd x (6+a) (x (6+a)+n)) k=G x k:=fun k d=>gY _ _ _ _ (by omega);have c : ∀ k,k<6->F (upd x (6+a) (x (6+a)+n)) k=F x k:=fun k d=>gY _ _ _ _ (by omega);have g : ∀ k,k<6->L (upd x (6+a) (x (6+a)+n)) k=L x k-(if k=a then n else 0):=by
  intro k d;rw[Vy x (6+a) (by omega),f k d,c k d,b k]; omega
 have m:nT (upd x (6+a) (x (6+a)+n))=nT x:=by unfold nT; rw[f 0 (by omega),f 1 (by omega),f 2 (by omega),f 3 (by omega),f 4 (by omega),f 5 (by omega)]
 refine⟨a,l,o,h1,j,t,hx,?_,g,m,?_,rfl⟩
 ·rw[kr];refine⟨N8 e h1 hx (by omega),fun k d => ?_,by rw[m]; exact s⟩;obtain⟨v,w,r⟩:=q k d;refine⟨?_,?_,?_⟩
  ·rw[g k d];split
   ·rename_i hka; subst hka; omega
   omega
  ·rw[c k d,b k]; split <;> omega
  rw[F6 x (6+a) (by omega)]; exact r
 unfold mV;rw[c 0 (by omega),c 1 (by omega),c 2 (by omega),c 3 (by omega),c 4 (by omega),c 5 (by omega),b 0,b 1,b 2,b 3,b 4,b 5];have:=six a l n;omega
theorem JX{x:Nat->Int}{i n:Int}(h:(bH x i n).2=0) : ∃ a:Nat,a<6/\i=(a:Int)+1/\1<=n/\n<=1125899906842624/\n<=C x a-F x a/\may (bH x i n).1=true /\
 (∀ k,k<6->L (bH x i n).1 k=L x k+(if k=a then n else 0))/\nT (bH x i n).1=nT x/\mV (bH x i n).1=mV x-n/\(bH x i n).1=upd x (12+a) (x (12+a)+n):=by
 unfold bH at *
 rcases mK x n (gG i) (qD x i n) (12+(i.toNat-1))with ⟨_,j,_⟩|⟨⟨hm,h1,j,hr,he,hx⟩,heq⟩
 ·exact M_ h j
 obtain⟨a,m,u,l⟩:=qw hr;rw[l]at heq hx;rw[l];have s:n<=C x a-F x a:=by
  unfold qD at he;rw[l]at he;by_cases g:C x a-F x a<n
  ·rw[f_ g]at he; cases he
  ·omega
 obtain⟨e,p,r⟩:=(kr x).1 hm;have t:(dh x n (gG i) (qD x i n) (12+a)).1=upd x (12+a) (x (12+a)+n):=by rw[heq]
 rw[t];have c:=ait x a n;have f : ∀ k,k<6->G (upd x (12+a) (x (12+a)+n)) k=G x k:=fun k d=>gY _ _ _ _ (by omega);have b : ∀ k,k<6->C (upd x (12+a) (x (12+a)+n)) k=C x k:=fun k d=>gY _ _ _ _ (by omega);have g : ∀ k,k<6->L (upd x (12+a) (x (12+a)+n)) k=L x k+(if k=a then n else 0):=by
  intro k d;rw[Vy x (12+a) (by omega),f k d,c k,b k d]; omega
 have o:nT (upd x (12+a) (x (12+a)+n))=nT x:=by unfold nT; rw[f 0 (by omega),f 1 (by omega),f 2 (by omega),f 3 (by omega),f 4 (by omega),f 5 (by omega)]
 refine⟨a,m,u,h1,j,s,?_,g,o,?_,rfl⟩
 ·rw[kr];refine⟨N8 e h1 hx (by omega),fun k d => ?_,by rw[o]; exact r⟩;obtain⟨v,w,q⟩:=p k d;refine⟨?_,?_,?_⟩
  ·rw[g k d]; split <;> omega
  ·rw[c k,b k d];split
   ·rename_i hka; subst hka; omega
   omega
  rw[F6 x (12+a) (by omega)]; exact q
 unfold mV;rw[b 0 (by omega),b 1 (by omega),b 2 (by omega),b 3 (by omega),b 4 (by omega),b 5 (by omega),c 0,c 1,c 2,c 3,c 4,c 5];have:=six a m n;omega
end Rt
section
namespace Rt
def dz(f:(Nat->Int)->(Nat->Int) × Int)(idx:Nat->Nat)(R:Nat->Nat->Int):Nat->(Nat->Nat->Int) × Int
 | 0=>(R,0)
 | j+1=>if(dz f idx R j).2=0 then(if(f ((dz f idx R j).1 (idx j))).2=0 then(aI (dz f idx R j).1 (idx j) (f ((dz f idx R j).1 (idx j))).1,0)else((dz f idx R j).1,(f ((dz f idx R j).1 (idx j))).2))else dz f idx R j
section
variable {f:(Nat->Int)->(Nat->Int) × Int} {idx:Nat->Nat} {R Rk:Nat->Nat->Int} {k q:Nat}
theorem F7(h:dz f idx R k=(Rk,0))(e:idx k=q)(a:(f (Rk q)).2=0):dz f idx R (k+1)=(aI Rk q (f (Rk q)).1,0):=by
 unfold dz; rw[h,d_ rfl,e,d_ a]
theorem IQ(h:dz f idx R k=(Rk,0))(e:idx k=q)(a : ¬ (f (Rk q)).2=0):(dz f idx R (k+1)).2=(f (Rk q)).2:=by
 unfold dz; rw[h,d_ rfl,e,b_ a]
theorem A9(a : ¬ (dz f idx R k).2=0) : ∀ n,k<=n->dz f idx R n=dz f idx R k
 | 0,h=>by obtain rfl:k=0:=by omega
           rfl
 | n+1,h=>by
   by_cases e:k=n+1
   ·rw[e]
   ·have:=A9 a n (by omega);rw[dz,this,b_ a]
end
def lead(P:Nat->Bool):Nat->Nat
 | 0=>0
 | n+1=>if lead P n=n/\P n=true then n+1 else lead P n
theorem JY(P:Nat->Bool) : ∀ n,lead P n<=n
 | 0=>A_ _
 | n+1=>by
   unfold lead; split
   ·exact A_ _
   ·have:=JY P n; omega
theorem LW{P:Nat->Bool} : ∀ {n:Nat},(∀ i,i<n->P i=true)->lead P n=n
 | 0,_=>rfl
 | n+1,h=>by unfold lead; rw[d_ ⟨LW fun i a=>h i (by omega),h n (by omega)⟩]
theorem Qa{P:Nat->Bool}{K:Nat}(h1 : ∀ i,i<K->P i=true)(a:P K=false) : ∀ {n:Nat},K<=n->lead P n=K
 | 0,h=>by unfold lead; omega
 | n+1,h=>by
   unfold lead;by_cases e:K=n+1
   ·rw[d_ ⟨LW fun i d=>h1 i (by omega),h1 n (by omega)⟩]; exact e.symm
   ·rw[Qa h1 a (n:=n) (by omega),b_];rintro ⟨c,b⟩;subst c; rw[a]at b; cases b
def fB(t:Nat->Nat->Int)(tn:Nat)(x:Int):Nat:=lead (fun i=>decide (0<=bC t tn (bF t tn i x))) 1000
theorem wD{t:Nat->Nat->Int}{tn K D:Nat}{x:Int}(h1 : ∀ i,i<K->0<=bC t tn (bF t tn i x))(c:bC t tn (bF t tn K x)<0)(d:bC t tn (bF t tn D x)<0)(e:D<=1000):K=fB t tn x:=by
 have a:K<=1000:=by
  rcases Nat.lt_or_ge D K with h|h
  ·have:=h1 D h; omega
  ·omega
 exact(Qa (fun i b=>f_ (h1 i b)) (g_ (by omega)) a).symm
end Rt
def dP.node(L:dP)(x:Int):Int:=fK (fun i=>decide (L.id i=x)) L.nn
def dP.grant(L:dP)(o r:Int):Int:=fK (fun i=>decide (L.g i 0=o)&&decide (L.g i 1=r)) L.gn
def dP.lU(L:dP)(a:Nat)(r:Int):Int:=fK (fun i=>decide (L.rq a i=r)) (L.rn a)
namespace Rt
def pG(L:dP)(x:Int)(i:Nat):Nat:=(L.node (bF L.t L.tn i x)).toNat
def qx(v:EvM):Nat->Int:=fun j=>if j=0 then v.o else if j=1 then v.req else if j=2 then v.node else if j=3 then v.aT else 0
def DY(v:EvM)(x:Nat->Int):Bool:=decide (v.o<x 0) || (decide (x 0=v.o)&&decide (v.req<x 1))
def aN(v:EvM):Nat:=(v.o-1).toNat
def nW(L:dP)(v:EvM):(Nat->Nat->Int) × Int:=dz (fun x=>bG x v.o v.aT) (pG L v.node) L.R (fB L.t L.tn v.node)
def jv(L:dP)(v:EvM):Int:=if 0<=L.lU (aN v) v.req then 14 else if fB L.t L.tn v.node=0 then 9 else(nW L v).2
def rO(L:dP)(a:Nat)(r:Int):dP := { L with rn:=aI L.rn a (L.rn a+1),rq:=aI L.rq a (aI (L.rq a) (L.rn a) r) }
def mW(L:dP)(v:EvM):dP :=
 rO { L with R:=(nW L v).1,gn:=L.gn+1,g:=cO L.g (down (fun i=>DY v (L.g i)) L.gn) (qx v) } (aN v) v.req
theorem C9{n q:Nat}{id par:Nat->Int}{R:Nat->Nat->Int}{r:Nat->Int} : ∀ i,i<n -> ∀ j,j<56->Fx.rz (fun a=>jW (id a) (par a) (R a)) q (bB (jW (id q) (par q) (R q)) 2 54 (rv .i64 r)) i j=jW (id i) (par i) (aI R q r i) j:=fun i _ j d=>by
 unfold Fx.rz aI;by_cases h:i=q
 ·subst h;rw[d_ rfl,d_ rfl];unfold bB jW rv;by_cases b:j=0
  ·subst b; rfl
  ·by_cases c:j=1
   ·subst c; rfl
   ·rw[d_ (by omega),b_ b,b_ c]
 ·rw[b_ h,b_ h]
theorem Zd{g:Nat->Nat->Int}{k:Nat}{x:Nat->Int}:Fx.JA (fun a=>jc (g a)) k (jc x)=fun a=>jc (cO g k x a):=by
 funext i
 unfold Fx.JA cO;by_cases h:i<k
 ·simp only[d_ h]
 by_cases b:i=k
 ·simp only[b_ h,d_ b]
 simp only[b_ h,b_ b]
theorem Oa(m:mo)(a:Option Addr)(n c:Nat):dB (mD m) 19 (.slice a n c)=mD { m with s := { m.s with ga:=a,gn:=n,gc:=c } }:=by
 funext p
 unfold dB mD;by_cases h:p=19
 ·subst h; rfl
 rw[b_ h];by_cases e:p<20
 ·rw[d_ e,d_ e]; unfold kI;by_cases b:p<6
  ·rw[d_ b,d_ b]
  by_cases d:p<12
  ·rw[b_ b,d_ d,b_ b,d_ d]
  by_cases f:p<18
  ·rw[b_ b,b_ d,d_ f,b_ b,b_ d,d_ f]
  rw[b_ b,b_ d,b_ f,d_ (by omega),b_ b,b_ d,b_ f,d_ (by omega)]
 rw[b_ e,b_ e]
theorem LX(m:mo){i q:Nat}(f:q=i+21)(a:Option Addr)(n c:Nat):dB (mD m) q (.slice a n c)=mD { m with ra:=aI m.ra i a,rn:=aI m.rn i n,rc:=aI m.rc i c }:=by
 subst f
 funext p
 unfold dB mD;by_cases h:p=i+21
 ·subst h;rw[d_ rfl,b_ (by omega),b_ (by omega),Nat.add_sub_cancel];simp[aI]
 rw[b_ h];by_cases b:p<20
 ·rw[d_ b,d_ b]
 rw[b_ b,b_ b];by_cases d:p=20
 ·rw[d_ d,d_ d]
 rw[b_ d,b_ d];have e : ¬ p-21=i:=by omega
 simp[aI,e]
theorem xK.app{w w':World}{B a g cap:Nat}{r:Int}{m d:mo}(h:xK w B 6 m)(_ha:a<6)(h1:d.ra=aI m.ra a (some ⟨g,0,none⟩))(l:d.rn=aI m.rn a (m.rn a+1))(t:d.rc=aI m.rc a cap)(u:d.rq=aI m.rq a (aI (m.rq a) (m.rn a) r))
 (z:Fx.Own w' B 23 1 (bK g (m.rn a+1) cap) (m.rn a+1) (rv .u64 (aI (m.rq a) (m.rn a) r))) (A:w.grownBy w' (uJ m a).ownBlock) (C:(uJ m a).ownBlock=some g\/g=w.heap.size):xK w' B 6 d:=by
 have k : ∀ i,i≠a->uJ d i=uJ m i:=fun i c=>by unfold uJ; rw[h1,l,t]; simp[aI,c]
 have n:uJ d a=bK g (m.rn a+1) cap:=by unfold uJ; rw[h1,l,t]; simp[aI]
 have y : ∀ i,i<6->i≠a -> ∀ q,(uJ m i).ownBlock=some q->q≠g:=fun i c D q b e=>by
  subst e
  rcases C with f|f
  ·exact h.2 i a c _ha D q b f
  ·have:=((h.1 i c).ge b).2; omega
 refine⟨fun i c => ?_,fun i j c v p q b => ?_⟩
 ·by_cases e:i=a
  ·subst e; rw[n,l,u]; simp only[aI,if_true]; exact z
  rw[k i e,l,u];simp only[aI,b_ e];refine World.ownsRow.kept (h.1 i c) A ?_;by_cases x:(uJ m i).ownBlock=none
  ·exact .inl x
  right;intro f
  cases b:(uJ m i).ownBlock with
  | none=>exact x b
  | some q=>rw[b]at f; exact h.2 i a c _ha e q b f.symm
 by_cases e:i=a
 ·subst e;rw[n]at b;rw[k j (fun e=>p e.symm)];intro o;exact y j v (fun e=>p e.symm) q o (C_ b).symm
 rw[k i e]at b;by_cases s:j=a
 ·subst s; rw[n]; intro o; exact y i c e q b (C_ o).symm
 rw[k j s]; exact h.2 i j c v p q b
end Rt
end
def KF(a:World)(l:List (Nat × (Nat->Int)))(w':World):Prop:=(∀ p∈l,w'.heap[p.1]? = some (.cells (bU .i64 54 p.2) 82 (0,0)))/\Below a.heap.size a w'
namespace Rt
def wE(x:Nat->Int)(k:Nat):Nat->Int
 | 0=>G x k-C x k+F x k
 | j+1=>wE x k j+R x j k-R x k j
theorem aeb(x:Nat->Int)(k:Nat):wE x k 6=L x k:=by simp only[wE,L]; omega
theorem Qb{x:Nat->Int}(h:RA x)(k:Nat)(d:k<6) : ∀ j:Nat,j<=6 -> -(1125899906842624*((j:Int)+1))<=wE x k j/\wE x k j<=1125899906842624*((j:Int)+2)
 | 0,_=>by
   have a:=h k (by omega); have b:=h (6+k) (by omega); have c:=h (12+k) (by omega);simp only[wE,G,C,F]; omega
 | j+1,hj=>by
   have:=Qb h k d j (by omega);have a:=h (18+j*6+k) (by omega); have b:=h (18+k*6+j) (by omega);simp only[wE,R]; omega
end Rt
theorem oq(n:Int)(w:World) :
 Calls Tryz.prog 147 #[au n] w fun e c=>e = .returned (.bool (AO n))/\c=w:=by
 refine Kent Tryz.func147 9 ?_;refine ay<|av aF<|aC<|ay<|av (au n) ?_;by_cases a:0<=n
 ·refine Lv aG (kR a)<|av aG<|av (au n) ?_;by_cases b:n<=1125899906842624
  ·refine Lv aG (nL b)<|av aG<|av aG<|aC<|Wr<|aJ aG ?_;exact⟨iD (by simp only[AO]; first|(symm; simp; omega)|(symm; simp; done)),rfl⟩
  refine Lv aF (ow b)<|av aF<|av aF<|aC<|Wr<|aJ aF ?_;exact⟨iD (by simp only[AO]; first|(symm; simp; omega)|(symm; simp; done)),rfl⟩
 refine Lv aF (kJ a)<|av aF<|bO<|bO<|av aF<|av aF<|aC<|Wr<|aJ aF ?_;exact⟨iD (by simp only[AO]; first|(symm; simp; omega)|(symm; simp; done)),rfl⟩
theorem sV(n:Int)(w:World) :
 Calls Tryz.prog 99 #[au n] w fun e c=>e = .returned (.bool (gG n))/\c=w:=by
 refine Kent Tryz.func99 9 ?_;refine ay<|av aF<|aC<|ay<|av (au n) ?_;by_cases a:1<=n
 ·refine Lv aG (kR a)<|av aG<|av (au n) ?_;by_cases b:n<=6
  ·refine Lv aG (nL b)<|av aG<|av aG<|aC<|Wr<|aJ aG ?_;exact⟨iD (by simp only[gG]; first|(symm; simp; omega)|(symm; simp; done)),rfl⟩
  refine Lv aF (ow b)<|av aF<|av aF<|aC<|Wr<|aJ aF ?_;exact⟨iD (by simp only[gG]; first|(symm; simp; omega)|(symm; simp; done)),rfl⟩
 refine Lv aF (kJ a)<|av aF<|bO<|bO<|av aF<|av aF<|aC<|Wr<|aJ aF ?_;exact⟨iD (by simp only[gG]; first|(symm; simp; omega)|(symm; simp; done)),rfl⟩
theorem Rt.RJ(x:Nat->Int)(k j:Nat):wE x k (j+1)=wE x k j+x (18+j*6+k)-x (18+k*6+j):=rfl
theorem Rt.RL(x:Nat->Int)(k:Nat):wE x k 0=x k-x (6+k)+x (12+k):=rfl
theorem BR(x:Nat->Int)(k:Nat)(w:World)(E:k<6)(d:RA x) :
 Calls Tryz.prog 100 #[.agg (aA 54 (rv .i64 x)),au ((k:Int)+1)] w fun e K=>e = .returned (au (L x k))/\Below w.heap.size w K:=by
 have B:wE x k 6=L x k:=aeb x k;have A:=fun j=>Qb d k E j;have T:wE x k 0=x k-x (k+6)+x (k+12):=by rw[RL,Nat.add_comm 6 k,Nat.add_comm 12 k]
 have P:=d k (by omega);have Q:=d (k+6) (by omega);have R:=d (k+12) (by omega);refine Kent Tryz.func100 44 ?_;refine ay<|oz fun c l D h H Y => ?_;have s:=bf H.old (Below.refl w.heap.size w);have V:=gD D;have X:=h.lt;refine av (au 0)<|aC<|ay<|av (au ((k:Int)+1))<|Lv (au k) gQ<|av (au k)<|aC<|Ws ?_;refine vV<|aW (au k)<|aW (pt c)<|Qv (pf c k) (fun b a=>jJ 6 1)<|Qv (au (x k)) (fun b a=>aL (h.aH.dr a) k)<|aW (au k)<|aW (pf c 6)<|Qv (pf c (k+6)) (fun b a=>jJ 6 1)<|Qv (au (x (k+6))) (fun b a=>aL (h.aH.dr a) (k+6))<|Qv (au ((x k)-(x (k+6)))) (fun b a=>gQ)<|aW (au k)<|aW (pf c 12)<|Qv (pf c (k+12)) (fun b a=>jJ 6 1)<|Qv (au (x (k+12))) (fun b a=>aL (h.aH.dr a) (k+12))<|Qv (au (((x k)-(x (k+6)))+(x (k+12)))) (fun b a=>fA)<|aW (au (((x k)-(x (k+6)))+(x (k+12))))<|Qn ?_;rintro _ ⟨i,rfl⟩;obtain⟨M,n⟩ : ∃ b,b=World.drewN l i:=⟨_,rfl⟩;rw[<- n];have I:Stp l.heap.size l M:=by rw[n]; exact Sb (jA l i)
 have⟨F,t⟩:=eU I.old h s;clear n;refine sN<|Ws<|ay<|av (au 0)<|aC<|Wb<|Wo (fun f z => ∃ j:Nat,j<=6/\f 2=(pt c)/\f 5=au (k:Int)/\f 6=au (wE x k j)/\f 7=au (j:Int)/\aP z c 54 (rv .i64 x) 82/\Below w.heap.size w z) (fun f _=>(6-(intOf (f 7)).toNat)) ⟨0,by omega,(by rfl),Fx.ic,Fx.ic,Fx.ic,F,t⟩ ?_;rintro S m ⟨j,W,p,q,y,g,r,u⟩;have U:=A j (by omega);have O:wE x k (j+1)=wE x k j+x (6*j+k+18)-x (j+6*k+18):=by rw[RJ,show 18+j*6+k=6*j+k+18 by omega,show 18+k*6+j=j+6*k+18 by omega]
 have s:=d (6*j+k+18);have t:=d (j+6*k+18);refine Ws<|ay<|aU g ?_;by_cases v:(j:Int)<6
 ·refine Lv aG (gM v)<|aC<|aM<|Wk<|sN<|Ws<|Wb ?_;refine vV<|eG y<|eG g<|eG q<|Qv (pf c 18) (fun b a=>iL p 18)<|Qv (pf c (6*j+18)) (fun b a=>jJ 6 6)<|Qv (pf c (6*j+k+18)) (fun b a=>jJ 6 1)<|Qv (au (x (6*j+k+18))) (fun b a=>aL (r.aH.dr a) (6*j+k+18))<|Qv (au ((wE x k j)+(x (6*j+k+18)))) (fun b a=>fA)<|eG q<|eG g<|Qv (pf c 18) (fun b a=>iL p 18)<|Qv (pf c (6*k+18)) (fun b a=>jJ 6 6)<|Qv (pf c (j+6*k+18)) (fun b a=>jJ 6 1)<|Qv (au (x (j+6*k+18))) (fun b a=>aL (r.aH.dr a) (j+6*k+18))<|Qv (au (((wE x k j)+(x (6*j+k+18)))-(x (j+6*k+18)))) (fun b a=>gQ)<|aW (au (((wE x k j)+(x (6*j+k+18)))-(x (j+6*k+18))))<|Qn ?_;rintro _ ⟨i,rfl⟩;obtain⟨N,o⟩ : ∃ b,b=World.drewN m i:=⟨_,rfl⟩;rw[<- o];have J:Stp m.heap.size m N:=by rw[o]; exact Sb (jA m i)
  have⟨G,C⟩:=eU J.old r u;clear o;refine bP<|sN<|Wl<|aU g<|Lv (au ((j:Int)+1)) fA<|av (au ((j:Int)+1))<|Ln<|gW ⟨j+1,by omega,p,(q.trans Fx.ic),Fx.ic,Fx.ic,G,C⟩ ?_;show(6-(intOf (au ((j:Int)+1))).toNat)<_;simp only[g,intOf]; omega
 refine Lv aF (gN v)<|aC<|aK<|Wx<|bX<|gP<|bY<|sN<|ay<|aU y<|av (au (wE x k j))<|aC<|Wr<|aJ (au (wE x k j)) ?_;exact⟨oL (by rw[<- B]; exact L_ _ (by omega)),u⟩
namespace Rt
def Vz(x:Nat->Int)(i:Nat):Prop:=AO (x i)=true/\AO (x (i+6))=true/\AO (x (i+12))=true/\x (i+12)<=x (i+6)/\x (7*i+18)=0
def F8(x:Nat->Int)(i j:Nat):Prop := ∀ q,q<j->AO (x (6*i+q+18))=true
def LY(x:Nat->Int)(i:Nat):Prop := ∀ k,k<i->Vz x k/\F8 x k 6
def Af(x:Nat->Int):Nat->Int
 | 0=>0
 | i+1=>Af x i+x i
theorem RN(x:Nat->Int):LY x 0:=fun _ h=>M_ h (by omega)
theorem Ob(x:Nat->Int)(i:Nat):F8 x i 0:=fun _ h=>M_ h (by omega)
theorem Oc{x:Nat->Int}{i j:Nat}(h:F8 x i j)(a:AO (x (6*i+j+18))=true):F8 x i (j+1):=fun q b=>by
 by_cases e:q=j
 ·subst e; exact a
 ·exact h q (by omega)
theorem RO{x:Nat->Int}{i:Nat}(h:LY x i)(hr:Vz x i)(a:F8 x i 6):LY x (i+1):=fun k b=>by
 by_cases e:k=i
 ·subst e; exact⟨hr,a⟩
 ·exact h k (by omega)
theorem LZ{x:Nat->Int}(h:LY x 6):RA x:=fun p d=>by
 by_cases a:p<6
 ·exact AX (h p a).1.1
 ·by_cases b:p<12
  ·have:=AX (h (p-6) (by omega)).1.2.1; rwa [show p-6+6=p by omega]at this
  ·by_cases c:p<18
   ·have:=AX (h (p-12) (by omega)).1.2.2.1; rwa [show p-12+12=p by omega]at this
   ·have:=AX ((h ((p-18) / 6) (by omega)).2 ((p-18) % 6) (by omega)); rwa [show 6*((p-18) / 6)+(p-18) % 6+18=p by omega]at this
theorem Qc{x:Nat->Int} : ∀ {i:Nat},LY x i->0<=Af x i/\Af x i<=1125899906842624*(i:Int)
 | 0,_=>by simp[Af]
 | i+1,h=>by
   have a:=Qc (i:=i) (fun k c=>h k (by omega));have b:=AX (h i (by omega)).1.1;simp only[Af]; omega
theorem JZ{x:Nat->Int}{p:Nat}(a:p<54)(h:AO (x p)=false):may x=false:=by
 cases hm:may x
 ·rfl
 have:=(kr x).1 hm |>.1 p a;unfold AO at h; simp at h; omega
theorem aiv{x:Nat->Int}{i:Nat}(hi:i<6)(h:x (i+6)<x (i+12)):may x=false:=by
 cases hm:may x
 ·rfl
 have:=((kr x).1 hm |>.2.1 i hi).2.1;unfold F C at this; rw[Nat.add_comm 12 i,Nat.add_comm 6 i]at this; omega
theorem aiw{x:Nat->Int}{i:Nat}(hi:i<6)(h : ¬ x (7*i+18)=0):may x=false:=by
 cases hm:may x
 ·rfl
 have:=((kr x).1 hm |>.2.1 i hi).2.2;unfold R at this; rw[show 18+i*6+i=7*i+18 by omega]at this; exact M_ this h
theorem aec{x:Nat->Int}{i:Nat}(hi:i<6)(h:L x i<0):may x=false:=by
 cases hm:may x
 ·rfl
 have:=((kr x).1 hm |>.2.1 i hi).1;omega
theorem VA{x:Nat->Int}{m:Nat}(h : ∀ k,k<m->0<=L x k)(a:0<=L x m) : ∀ k,k<m+1->0<=L x k:=fun k b=>by
 by_cases e:k=m
 ·rw[e]; exact a
 ·exact h k (by omega)
theorem Qd{x:Nat->Int}(ha:LY x 6)(b : ∀ k,k<6->0<=L x k):may x=decide (Af x 6<=1125899906842624):=by
 have c:Af x 6=nT x:=by simp only[Af,nT,G]; omega
 rw[c,P_,kr,Q_];refine⟨fun h=>h.2.2,fun h=>⟨LZ ha,fun k a=>⟨b k a,?_,?_⟩,h⟩⟩
 ·have:=(ha k a).1.2.2.2.1; unfold F C; rwa [Nat.add_comm 12 k,Nat.add_comm 6 k]
 have:=(ha k a).1.2.2.2.2; unfold R; rwa [show 18+k*6+k=7*k+18 by omega]
end Rt
set_option maxRecDepth 10000 in
set_option maxHeartbeats 1000000 in
theorem J2(x:Nat->Int)(w:World) :
 Calls Tryz.prog 98 #[.agg (aA 54 (rv .i64 x))] w fun e w'=>e = .returned (.bool (may x))/\Below w.heap.size w w':=by
 refine Kent Tryz.func98 81 ?_;refine ay<|oz fun c w1 kQ m1 s1 z1 => ?_;have b1:=bf s1.old (Below.refl w.heap.size w);have rF:=gD kQ;have sQ:=m1.lt;refine av aF<|aC<|ay<|av (au 0)<|aC<|Ws<|ay<|av (au 0)<|aC<|Wb<|Wo (fun f q => ∃ i:Nat,i<=6/\LY x i/\f 1=(pt c)/\f 3=au (Af x i)/\f 4=au (i:Int)/\aP q c 54 (rv .i64 x) 82/\Below w.heap.size w q) (fun f _=>(6-(intOf (f 4)).toNat)) ⟨0,by omega,RN x,(by rfl),Fx.ic,Fx.ic,m1,b1⟩ ?_;rintro f1 d ⟨i,hi,B,n,h2,l,o,r⟩;have hG:=Qc B;have HG:Af x (i+1)=Af x i+x i:=rfl;refine Ws<|ay<|aU l ?_;by_cases Z:(i:Int)<6
 ·refine Lv aG (gM Z)<|aC<|aM<|Wk<|sN<|Ws<|Wb<|Ws<|Ws ?_;refine vV<|eG l<|Qv (pt c) (fun a b=>iL n 0)<|Qv (pf c i) (fun a b=>jJ 6 1)<|Qv (au (x i)) (fun a b=>aL (o.aH.dr b) i) ?_;by_cases s:(AO (x i))=true
  ·refine qQ (fun _ _=>oq (x i) _) aG (by rw[s])<|aW aF<|aW aF<|eG l<|Qv (pf c 6) (fun a b=>iL n 6)<|Qv (pf c (i+6)) (fun a b=>jJ 6 1)<|Qv (au (x (i+6))) (fun a b=>aL (o.aH.dr b) (i+6)) ?_;by_cases v:(AO (x (i+6)))=true
   ·refine qQ (fun _ _=>oq (x (i+6)) _) aG (by rw[v])<|aW aF<|aW aF<|aW aF<|eG l<|Qv (pf c 12) (fun a b=>iL n 12)<|Qv (pf c (i+12)) (fun a b=>jJ 6 1)<|Qv (au (x (i+12))) (fun a b=>aL (o.aH.dr b) (i+12)) ?_;by_cases y:(AO (x (i+12)))=true
    ·refine qQ (fun _ _=>oq (x (i+12)) _) aG (by rw[y])<|aW aF<|aW aF<|aW aF<|eG l<|Qv (pf c 12) (fun a b=>iL n 12)<|Qv (pf c (i+12)) (fun a b=>jJ 6 1)<|Qv (au (x (i+12))) (fun a b=>aL (o.aH.dr b) (i+12))<|eG l<|Qv (pf c 6) (fun a b=>iL n 6)<|Qv (pf c (i+6)) (fun a b=>jJ 6 1)<|Qv (au (x (i+6))) (fun a b=>aL (o.aH.dr b) (i+6)) ?_;by_cases H:(x (i+6))<(x (i+12))
     ·refine Qv aG (fun a b=>ni H)<|aW aG<|aW aG<|aR<|aR<|aR<|aR<|aR<|aR<|aR<|aW aG<|Qn ?_;rintro _ ⟨g,rfl⟩;obtain⟨BM,K⟩ : ∃ a,a=World.drewN d g:=⟨_,rfl⟩;rw[<- K];have s2:Stp d.heap.size d BM:=(by rw[K]; exact Sb (jA d g));have b3:=bf s2.old r;clear K;refine sN (aM (ay (av aF (aC (Wr (sR (bL (sR (pV (bL (sR (aJ aF (⟨iD (Eq.symm ?_),b3⟩)))))))))))));exact aiv (i:=i) (by omega) H
     refine Qv aF (fun a b=>nk H)<|aW aF<|aW aF<|eG l<|eG l<|Qv (pf c 18) (fun a b=>iL n 18)<|Qv (pf c (6*i+18)) (fun a b=>jJ 6 6)<|Qv (pf c (7*i+18)) (fun a b=>jJ 6 1)<|Qv (au (x (7*i+18))) (fun a b=>aL (o.aH.dr b) (7*i+18)) ?_;by_cases C:(x (7*i+18))=0
     ·refine Qv aF (fun a b=>jG C)<|aW aF<|Qn ?_;rintro _ ⟨g,rfl⟩;obtain⟨wq2,M⟩ : ∃ a,a=World.drewN d g:=⟨_,rfl⟩;rw[<- M];have s3:Stp d.heap.size d wq2:=(by rw[M]; exact Sb (jA d g));have⟨m4,b4⟩:=eU s3.old o r;clear M;refine sN<|aK<|Wk<|sN<|Ws ?_;have hR:Vz x i:=⟨s,v,y,by omega,C⟩;have b15:=AX s;refine Wl<|aU h2<|aU l<|Lv (pt c) (iL n 0)<|Lv (pf c i) (jJ 6 1)<|Lv (au (x i)) (aL m4.aH i)<|Lv (au ((Af x i)+(x i))) fA<|av (au ((Af x i)+(x i)))<|aC<|ay<|av (au 0)<|aC<|Wb<|Wo (fun f q => ∃ j:Nat,j<=6/\F8 x i j/\f 1=(pt c)/\f 3=au (Af x (i+1))/\f 4=au (i:Int)/\f 5=au (j:Int)/\aP q c 54 (rv .i64 x) 82/\Below w.heap.size w q) (fun f _=>(6-(intOf (f 5)).toNat)) ⟨0,by omega,Ob x i,n,Fx.ic,(l.trans Fx.ic),Fx.ic,m4,b4⟩ ?_;rintro f2 w3 ⟨j,hj,T,R,h5,S,E,U,G⟩;refine Ws<|ay<|aU E ?_;by_cases X:(j:Int)<6
      ·refine Lv aG (gM X)<|aC<|aM<|Wk<|sN<|Ws<|Wb<|ay<|aU S<|aU E<|Lv (pf c 18) (iL R 18)<|Lv (pf c (6*i+18)) (jJ 6 6)<|Lv (pf c (6*i+j+18)) (jJ 6 1)<|Lv (au (x (6*i+j+18))) (aL U.aH (6*i+j+18)) ?_;by_cases z:(AO (x (6*i+j+18)))=true
       ·refine lH (oq (x (6*i+j+18)) _) aG (by rw[z])<|av aF<|aC<|aK<|Wk<|bP<|sN<|Wl<|aU E<|Lv (au ((j:Int)+1)) fA<|av (au ((j:Int)+1))<|Ln<|gW ⟨j+1,by omega,Oc T z,R,(h5.trans Fx.ic),(S.trans Fx.ic),Fx.ic,U,G⟩ ?_;show(6-(intOf (au ((j:Int)+1))).toNat)<_;simp only[E,intOf]; omega
       rw[U_]at z;refine lH (oq (x (6*i+j+18)) _) aF (by rw[z]) (av aG (aC (aM (ay (av aF (aC (Wr (bL (sR (pV (bL (bL (sR (pV (bL (sR (aJ aF (⟨iD (Eq.symm ?_),G⟩))))))))))))))))));exact JZ (p:=6*i+j+18) (by omega) z
      refine Lv aF (gN X)<|aC<|aK<|Wx<|bX<|gP<|bY<|bP<|sN<|Wl<|aU S<|Lv (au ((i:Int)+1)) fA<|av (au ((i:Int)+1))<|Ln ?_;have A:j=6:=(by omega);have hT6:F8 x i 6:=(by rw[A]at T; exact T);refine gW ⟨i+1,by omega,RO B hR hT6,R,(h5.trans Fx.ic),Fx.ic,U,G⟩ ?_;show(6-(intOf (au ((i:Int)+1))).toNat)<_;simp only[l,intOf]; omega
     refine Qv aG (fun a b=>mG C)<|aW aG<|Qn ?_;rintro _ ⟨g,rfl⟩;obtain⟨Yo,N⟩ : ∃ a,a=World.drewN d g:=⟨_,rfl⟩;rw[<- N];have s4:Stp d.heap.size d Yo:=(by rw[N]; exact Sb (jA d g));have b6:=bf s4.old r;clear N;refine sN (aM (ay (av aF (aC (Wr (sR (bL (sR (pV (bL (sR (aJ aF (⟨iD (Eq.symm ?_),b6⟩)))))))))))));exact aiw (i:=i) (by omega) C
    rw[U_]at y;refine qQ (fun _ _=>oq (x (i+12)) _) aF (by rw[y])<|aW aG<|aW aG<|aW aG<|aR<|aR<|aR<|aR<|aR<|aR<|aR<|aR<|aR<|aW aG<|aW aG<|aR<|aR<|aR<|aR<|aR<|aR<|aR<|aW aG<|Qn ?_;rintro _ ⟨g,rfl⟩;obtain⟨wq4,O⟩ : ∃ a,a=World.drewN d g:=⟨_,rfl⟩;rw[<- O];have s5:Stp d.heap.size d wq4:=(by rw[O]; exact Sb (jA d g));have b7:=bf s5.old r;clear O;refine sN (aM (ay (av aF (aC (Wr (sR (bL (sR (pV (bL (sR (aJ aF (⟨iD (Eq.symm ?_),b7⟩)))))))))))));exact JZ (p:=i+12) (by omega) y
   rw[U_]at v;refine qQ (fun _ _=>oq (x (i+6)) _) aF (by rw[v])<|aW aG<|aW aG<|aW aG<|aR<|aR<|aR<|aR<|aR<|aR<|aW aG<|aW aG<|aR<|aR<|aR<|aR<|aR<|aR<|aR<|aR<|aR<|aW aG<|aW aG<|aR<|aR ?_;refine aR<|aR<|aR<|aR<|aR<|aW aG<|Qn ?_;rintro _ ⟨g,rfl⟩;obtain⟨wq5,P⟩ : ∃ a,a=World.drewN d g:=⟨_,rfl⟩;rw[<- P];have s6:Stp d.heap.size d wq5:=(by rw[P]; exact Sb (jA d g));have b8:=bf s6.old r;clear P;refine sN (aM (ay (av aF (aC (Wr (sR (bL (sR (pV (bL (sR (aJ aF (⟨iD (Eq.symm ?_),b8⟩)))))))))))));exact JZ (p:=i+6) (by omega) v
  rw[U_]at s;refine qQ (fun _ _=>oq (x i) _) aF (by rw[s])<|aW aG<|aW aG<|aR<|aR<|aR<|aR<|aR<|aR<|aW aG<|aW aG<|aR<|aR<|aR<|aR<|aR<|aR<|aW aG<|aW aG<|aR<|aR<|aR<|aR<|aR<|aR ?_;refine aR<|aR<|aR<|aW aG<|aW aG<|aR<|aR<|aR<|aR<|aR<|aR<|aR<|aW aG<|Qn ?_;rintro _ ⟨g,rfl⟩;obtain⟨wq6,Q⟩ : ∃ a,a=World.drewN d g:=⟨_,rfl⟩;rw[<- Q];have s7:Stp d.heap.size d wq6:=by rw[Q]; exact Sb (jA d g)
  have b9:=bf s7.old r;clear Q;refine sN (aM (ay (av aF (aC (Wr (sR (bL (sR (pV (bL (sR (aJ aF (⟨iD (Eq.symm ?_),b9⟩)))))))))))));exact JZ (p:=i) (by omega) s
 refine Lv aF (gN Z)<|aC<|aK<|Wx<|bX<|gP<|bY<|sN<|Ws<|ay<|av (au 1)<|aC<|Wb ?_;have A:i=6:=by omega
 rw[A]at B;have HE:=LZ B;have V:LY x 6:=B;refine Wo (fun f q => ∃ m:Nat,m<=6/\(∀ k,k<m->0<=L x k)/\f 1=(pt c)/\f 3=au (Af x i)/\f 6=au ((m:Int)+1)/\aP q c 54 (rv .i64 x) 82/\Below w.heap.size w q) (fun f _=>(7-(intOf (f 6)).toNat)) ⟨0,by omega,(fun _ h=>M_ h (by omega)),n,(h2.trans Fx.ic),Fx.ic,o,r⟩ ?_;rintro f3 w4 ⟨m,hm,u,h8,h9,D,m10,F⟩;refine Ws<|ay<|aU D ?_;by_cases Y:((m:Int)+1)<=6
 ·refine Lv aG (nL Y)<|aC<|aM<|Wk<|sN<|Ws<|Wb<|ay<|Lv (.agg (aA 54 (rv .i64 x))) (eT m10.aH 0 (ha:=h8))<|aU D<|dH (BR x m _ (by omega) HE) _ rfl ?_;intro w5 hb1;have⟨m11,W⟩:=eU hb1 m10 F;by_cases I:(L x m)<0
  ·refine Lv aG (gM I) (aC (aM (ay (av aF (aC (Wr (bL (sR (pV (bL (sR (aJ aF (⟨iD (Eq.symm ?_),W⟩)))))))))))));exact aec (i:=m) (by omega) I
  refine Lv aF (gN I)<|aC<|aK<|Wk<|bP<|sN<|Wl<|aU D<|Lv (au ((m:Int)+2)) fA<|av (au ((m:Int)+2))<|Ln<|gW ⟨m+1,by omega,VA u (by omega),h8,(h9.trans Fx.ic),Fx.ic,m11,W⟩ ?_;show(7-(intOf (au ((m:Int)+2))).toNat)<_;simp only[D,intOf]; omega
 refine Lv aF (ow Y)<|aC<|aK<|Wx<|bX<|gP<|bY<|sN<|ay<|aU h9 ?_;by_cases t:(Af x i)<=1125899906842624
 ·refine Lv aG (nL t) (av aG (aC (Wr (aJ aG (⟨iD (Eq.symm ?_),F⟩)))));have J:m=6:=by omega
  rw[J]at u;rw[A]at t;rw[Qd V u]; exact f_ t
 refine Lv aF (ow t) (av aF (aC (Wr (aJ aF (⟨iD (Eq.symm ?_),F⟩)))));have J:m=6:=by omega
 rw[J]at u;rw[A]at t;rw[Qd V u]; exact g_ t
namespace Rt
def fu(x:Nat->Int)(i n:Int):Int:=if may x&&decide (1<=n)&&decide (n<=1125899906842624)then(if gG i then 0 else 10)else 1
theorem Od{x:Nat->Int}{i:Int}(h:may x=true)(hi:gG i=true) : ∃ k:Nat,k<6/\i=(k:Int)+1/\bT x i=L x k:=by
 obtain⟨a,b,c,_⟩:=qw hi;exact⟨a,b,c,by rw[c]; exact iZ h a b⟩
end Rt
theorem RQ(x:Nat->Int)(i:Int)(w:World) :
 Calls Tryz.prog 64 #[.agg (aA 54 (rv .i64 x)),au i] w fun e t=>e = .returned (au (bT x i))/\Below w.heap.size w t:=by
 refine Kent Tryz.func64 16 ?_;refine ay<|oz fun u A l c s E => ?_;have d:=bf s.old (Below.refl w.heap.size w);have y:=gD l;have z:=c.lt;refine av (au 0)<|aC<|Ws<|ay<|Lv (.agg (aA 54 (rv .i64 x))) (eT c.aH 0) ?_;by_cases a:(may x)=true
 ·refine dH (J2 x _) aG (by rw[a]) ?_;intro B o;have⟨r,f⟩:=eU o c d;refine av aF<|av aF<|av (au i) ?_;by_cases b:(gG i)=true
  ·refine lH (sV i _) aG (by rw[b])<|av aF<|av aF<|aC<|aK<|Wk<|sN<|Ws ?_;have g:=a;obtain⟨k,v,m,n⟩:=Od a b;subst m;refine Wl<|Lv (.agg (aA 54 (rv .i64 x))) (eT r.aH 0)<|av (au ((k:Int)+1))<|dH (BR x k _ (by omega) (mI g)) _ rfl ?_;intro C p;have h:=bf p f;refine av (au (L x k)) (aC (Wr (aJ (au (L x k)) (⟨?_,h⟩))));rw[n]
  rw[U_]at b;refine lH (sV i _) aF (by rw[b]) (av aG (av aG (aC (aM (ay (av (au 0) (aC (Wr (sR (aJ (au 0) (⟨?_,f⟩)))))))))));rw[IG x i (by rw[b,Bool.false_and])]
 rw[U_]at a;refine dH (J2 x _) aF (by rw[a]) ?_;intro D q;have j:=bf q d;refine av aG (av aG (bO (bO (bO (av aG (aC (aM (ay (av (au 0) (aC (Wr (sR (aJ (au 0) (⟨?_,j⟩))))))))))))));rw[IG x i (by rw[a,I_])]
theorem F9(x:Nat->Int)(i n:Int)(w:World) :
 Calls Tryz.prog 162 #[.agg (aA 54 (rv .i64 x)),au i,au n] w fun e p=>e = .returned (au (fu x i n))/\Below w.heap.size w p:=by
 refine Kent Tryz.func162 21 ?_;refine ay<|oz fun q t k h o y => ?_;have d:=bf o.old (Below.refl w.heap.size w);have r:=gD k;have s:=h.lt;refine av (au 0)<|aC<|Ws<|ay<|Lv (.agg (aA 54 (rv .i64 x))) (eT h.aH 0) ?_;by_cases a:(may x)=true
 ·refine dH (J2 x _) aG (by rw[a]) ?_;intro u l;have c:=bf l d;refine av aF<|av aF<|av (au n) ?_;by_cases f:n<1
  ·refine Lv aG (gM f) (av aG (av aG (bO (bO (av aG (aC (aM (ay (av (au 1) (aC (Wr (sR (aJ (au 1) (⟨oL ?_,c⟩))))))))))))));unfold fu; rw[a,g_ (show ¬ 1<=n by omega)]; simp
  refine Lv aF (gN f)<|av aF<|av aF<|av (au n) ?_;by_cases g:1125899906842624<n
  ·refine Lv aG (ni g) (av aG (aC (aM (ay (av (au 1) (aC (Wr (sR (aJ (au 1) (⟨oL ?_,c⟩))))))))));unfold fu; rw[a,f_ (show 1<=n by omega),g_ (show ¬ n<=1125899906842624 by omega)]; simp
  refine Lv aF (nk g)<|av aF<|aC<|aK<|Wk<|sN<|Ws<|ay<|av (au i) ?_;by_cases b:(gG i)=true
  ·refine lH (sV i _) aG (by rw[b]) (av aF (aC (aK (Wk (sN (ay (av (au 0) (aC (Wr (aJ (au 0) (⟨oL ?_,c⟩)))))))))));unfold fu; rw[a,f_ (show 1<=n by omega),f_ (show n<=1125899906842624 by omega),b]; simp
  rw[U_]at b;refine lH (sV i _) aF (by rw[b]) (av aG (aC (aM (ay (av (au 10) (aC (Wr (sR (aJ (au 10) (⟨oL ?_,c⟩))))))))));unfold fu; rw[a,f_ (show 1<=n by omega),f_ (show n<=1125899906842624 by omega),b]; simp
 rw[U_]at a;refine dH (J2 x _) aF (by rw[a]) ?_;intro v m;have j:=bf m d;refine av aG (av aG (bO (bO (av aG (av aG (bO (bO (av aG (aC (aM (ay (av (au 1) (aC (Wr (sR (aJ (au 1) (⟨oL ?_,j⟩)))))))))))))))));unfold fu; rw[a]; simp
namespace Rt
theorem Ga{x:Nat->Int}{i n:Int}(h:fu x i n=0):may x=true/\1<=n/\n<=1125899906842624/\gG i=true:=by
 unfold fu at h;by_cases a:may x=true
 ·by_cases b:1<=n
  ·by_cases c:n<=1125899906842624
   ·rw[a,f_ b,f_ c]at h
    cases h4:gG i
    ·rw[h4]at h; simp at h
    exact⟨a,b,c,rfl⟩
   rw[g_ c]at h; simp at h
  rw[g_ b]at h; simp at h
 rw[show may x=false by simpa using a]at h; simp at h
theorem L6{x:Nat->Int}{i n b:Int}{off:Nat}(h : ¬ fu x i n=0):dh x n (gG i) b off=(zero,fu x i n):=by
 unfold fu at *;unfold dh;by_cases a:(may x&&decide (1<=n)&&decide (n<=1125899906842624))=true
 ·simp only[d_ a]at *
  cases h4:gG i
  ·simp
  simp[h4]at h
 simp only[b_ a]at *
theorem Da{x:Nat->Int}{n a:Int}{is:Bool}{off:Nat}(h1:may x=true)(b:1<=n)(c:n<=1125899906842624)(d:is=true) :
 dh x n is a off=if a=0 then(if x off+n<=1125899906842624 then(upd x off (x off+n),0)else(zero,6))else(zero,a):=by
 unfold dh; rw[h1,f_ b,f_ c,d]; simp
theorem Ba{x:Nat->Int}{n a:Int}{is:Bool}{off:Nat}(h1:may x=true)(b:1<=n)(c:n<=1125899906842624)(d:is=true)(e:a=0)(f:x off+n<=1125899906842624):dh x n is a off=(upd x off (x off+n),0):=by
 rw[Da h1 b c d,d_ e,d_ f]
theorem DZ{x:Nat->Int}{n a:Int}{is:Bool}{off:Nat}(h1:may x=true)(b:1<=n)(c:n<=1125899906842624)(d:is=true)(e:a=0)(f : ¬ x off+n<=1125899906842624):dh x n is a off=(zero,6):=by
 rw[Da h1 b c d,d_ e,b_ f]
theorem xO{x:Nat->Int}{n a e:Int}{is:Bool}{off:Nat}(h1:may x=true)(b:1<=n)(c:n<=1125899906842624)(d:is=true)(f:a=e)(g:e≠0):dh x n is a off=(zero,e):=by
 rw[Da h1 b c d,f,b_ g]
theorem RS{x:Nat->Int}{n a:Int}{off:Nat}(h1:may x=true)(b:1<=n)(c:n<=1125899906842624):dh x n false a off=(zero,10):=by
 unfold dh; rw[h1,f_ b,f_ c]; simp
theorem pl(k:Nat):((k:Int)+1).toNat-1=k:=by omega
theorem RU{x:Nat->Int}{i j n:Int}(h : ¬ fu x i n=0):dn x i j n=(zero,fu x i n):=by
 unfold dn;unfold fu at *;unfold dh;by_cases a:(may x&&decide (1<=n)&&decide (n<=1125899906842624))=true
 ·simp only[d_ a]at *
  cases h4:gG i
  ·simp
  simp[h4]at h
 simp only[b_ a]at *
theorem L8(k q:Nat):jZ ((k:Int)+1) ((q:Int)+1)=6*k+q+18:=by unfold jZ; omega
theorem VB{x:Nat->Int}{k:Nat}(a:may x=true)(b:k<6):x (k+6)<=1125899906842624:=(mI a (k+6) (by omega)).2
end Rt
set_option maxRecDepth 10000 in
theorem Ze(x:Nat->Int)(i n:Int)(w:World) :
 Calls Tryz.prog 159 #[.agg (aA 54 (rv .i64 x)),au i,au n] w fun e w'=>e = .returned (.tuple #[.agg (aA 54 (rv .i64 (bG x i n).1)),au (bG x i n).2])/\Below w.heap.size w w':=by
 refine Kent Tryz.func159 42 ?_;refine ay<|oz fun b w1 Q p s1 z1 => ?_;have u:=bf s1.old (Below.refl w.heap.size w);have rF:=gD Q;have sQ:=p.lt;refine qR 54 (rv .i64 (fun _=>0)) fun l w2 z B s2 z2 => ?_;have⟨C,K⟩:=eU s2.old p u;have pO:=iw z u.size;have FK:=cu z p.lt;have yu:=B.lt;refine av (au 0)<|aC<|ay<|Lv (.agg (aA 54 (rv .i64 x))) (eT C.aH 0)<|av (au i)<|av (au n)<|dH (F9 x i n _) _ rfl ?_;intro w3 S;have⟨q,D,m⟩:=iy S C B K;refine av (au (fu x i n))<|aC<|Ws<|ay<|av (au (fu x i n)) ?_;by_cases j:(fu x i n)=0
 ·refine Lv aF (jG j)<|aC<|aK<|Wk<|sN<|Ws<|Ws ?_;obtain⟨a,s,t,h⟩:=Ga j;have J:=mI a;obtain⟨k,o,R,_⟩:=qw h;subst R;refine Wl<|av (au n)<|Lv (.agg (aA 54 (rv .i64 x))) (eT q.aH 0)<|av (au ((k:Int)+1))<|dH (BR x k _ (by omega) (mI a)) _ rfl ?_;intro w4 T;have⟨g,r,d⟩:=iy T q D m;by_cases f:(L x k)<n
  ·refine Lv aG (ni f)<|aC<|aM<|ay<|av (.agg (aA 54 (rv .i64 (fun _=>0))))<|dU r 0 fun w5 m8 E z3 => ?_;have m9:aP w5 l 54 (rv .i64 (fun _=>0)) 82:=aQ m8;have m10:=g.cZ E (by omega);have M:=E.below d d.size (by omega);refine av (au 11) (aC (Wr (sR (⟨.tuple #[.agg (aA 54 (rv .i64 (fun _=>0))),au 11],fP Tryz.results159 ⟨_,rfl,aS m9.aH (by kernel_rfl) (by kernel_rfl)⟩ (by exact rfl),?_⟩))));refine⟨?_,M⟩;have c:bG x ((k:Int)+1) n=(zero,11):=by
    unfold bG qC;rw[iZ a k o,f_ f];exact xO a s t h rfl (by decide)
   rw[c]
   all_goals rfl
  refine Lv aF (nk f)<|aC<|aK<|Wk<|sN<|Ws<|Ws ?_;have q1:=J (k+6);refine Wl<|av (au ((k:Int)+1))<|Lv (au k) gQ<|av (pf b 6)<|Lv (pf b (k+6)) (jJ 6 1)<|Lv (au (x (k+6))) (aL g.aH (k+6))<|av (au n)<|Lv (au ((x (k+6))+n)) fA ?_;by_cases y:1125899906842624<((x (k+6))+n)
  ·refine Lv aG (ni y)<|aC<|aM<|ay<|av (.agg (aA 54 (rv .i64 (fun _=>0))))<|dU r 0 fun w6 U F z4 => ?_;have V:aP w6 l 54 (rv .i64 (fun _=>0)) 82:=aQ U;have m13:=g.cZ F (by omega);have N:=F.below d d.size (by omega);refine av (au 6) (aC (Wr (sR (⟨.tuple #[.agg (aA 54 (rv .i64 (fun _=>0))),au 6],fP Tryz.results159 ⟨_,rfl,aS V.aH (by kernel_rfl) (by kernel_rfl)⟩ (by exact rfl),?_⟩))));refine⟨?_,N⟩;have c:bG x ((k:Int)+1) n=(zero,6):=by
    unfold bG qC;rw[iZ a k o,g_ f,pl,Nat.add_comm 6 k];exact DZ a s t h rfl (by omega)
   rw[c]
   all_goals rfl
  refine Lv aF (nk y)<|aC<|aK<|Wk<|sN<|ay<|av (au ((k:Int)+1))<|Lv (au k) gQ<|av (pf b 6)<|Lv (pf b (k+6)) (jJ 6 1)<|Lv (au (x (k+6))) (aL g.aH (k+6))<|av (au n)<|Lv (au ((x (k+6))+n)) fA<|av (pf b 6)<|Lv (pf b (k+6)) (jJ 6 1)<|ji g (k+6) (au ((x (k+6))+n)) fun w7 W G z5 => ?_;have A:aP w7 b 54 (rv .i64 (upd x (k+6) ((x (k+6))+n))) 82:=W.to (Fx.zA _ _ _ _);have X:=r.cZ G (by omega);have v:=G.below d d.size (by omega);refine aC<|ay<|Lv (.agg (aA 54 (rv .i64 (upd x (k+6) ((x (k+6))+n))))) (eT A.aH 0)<|dU X 0 fun w8 Y H z6 => ?_;have Z:aP w8 l 54 (rv .i64 (upd x (k+6) ((x (k+6))+n))) 82:=aQ Y;have m19:=A.cZ H (by omega);have O:=H.below v v.size (by omega);refine av (au 0) (aC (Wr (⟨.tuple #[.agg (aA 54 (rv .i64 (upd x (k+6) ((x (k+6))+n)))),au 0],fP Tryz.results159 ⟨_,rfl,aS Z.aH (by kernel_rfl) (by kernel_rfl)⟩ (by exact rfl),?_⟩)));refine⟨?_,O⟩;have c:bG x ((k:Int)+1) n=(upd x (k+6) (x (k+6)+n),0):=by
   unfold bG qC;rw[iZ a k o,g_ f,pl,Nat.add_comm 6 k];exact Ba a s t h rfl (by omega)
  rw[c]
  all_goals rfl
 refine Lv aG (mG j)<|aC<|aM<|ay<|av (.agg (aA 54 (rv .i64 (fun _=>0))))<|av (au (fu x i n))<|dU D 0 fun w9 aa I z7 => ?_;have ab:aP w9 l 54 (rv .i64 (fun _=>0)) 82:=aQ aa;have m22:=q.cZ I (by omega);have P:=I.below m m.size (by omega);refine av (au (fu x i n)) (aC (Wr (sR (⟨.tuple #[.agg (aA 54 (rv .i64 (fun _=>0))),au (fu x i n)],fP Tryz.results159 ⟨_,rfl,aS ab.aH (by kernel_rfl) (by kernel_rfl)⟩ (by exact rfl),?_⟩))));refine⟨?_,P⟩;have c:bG x i n=(zero,fu x i n):=by
  exact L6 j
 rw[c]
 all_goals rfl
set_option maxRecDepth 10000 in
theorem Zf(x:Nat->Int)(i n:Int)(w:World) :
 Calls Tryz.prog 161 #[.agg (aA 54 (rv .i64 x)),au i,au n] w fun e w'=>e = .returned (.tuple #[.agg (aA 54 (rv .i64 (bH x i n).1)),au (bH x i n).2])/\Below w.heap.size w w':=by
 refine Kent Tryz.func161 41 ?_;refine ay<|oz fun c w1 T t s1 z1 => ?_;have y:=bf s1.old (Below.refl w.heap.size w);have rF:=gD T;have sQ:=t.lt;refine qR 54 (rv .i64 (fun _=>0)) fun s w2 D H s2 z2 => ?_;have⟨I,P⟩:=eU s2.old t y;have pO:=iw D y.size;have FK:=cu D t.lt;have yu:=H.lt;refine av (au 0)<|aC<|ay<|Lv (.agg (aA 54 (rv .i64 x))) (eT I.aH 0)<|av (au i)<|av (au n)<|dH (F9 x i n _) _ rfl ?_;intro d V;have⟨g,u,l⟩:=iy V I H P;refine av (au (fu x i n))<|aC<|Ws<|ay<|av (au (fu x i n)) ?_;by_cases m:(fu x i n)=0
 ·refine Lv aF (jG m)<|aC<|aK<|Wk<|sN<|Ws<|Ws ?_;obtain⟨j,J,K,p⟩:=Ga m;have v:=mI j;obtain⟨k,W,U,_⟩:=qw p;subst U;have q1:=v (k+6);have q2:=v (k+12);refine vV<|aW (au n)<|aW (au ((k:Int)+1))<|Qv (au k) (fun a b=>gQ)<|aW (pf c 6)<|Qv (pf c (k+6)) (fun a b=>jJ 6 1)<|Qv (au (x (k+6))) (fun a b=>aL (g.aH.dr b) (k+6))<|aW (au ((k:Int)+1))<|Qv (au k) (fun a b=>gQ)<|aW (pf c 12)<|Qv (pf c (k+12)) (fun a b=>jJ 6 1)<|Qv (au (x (k+12))) (fun a b=>aL (g.aH.dr b) (k+12))<|Qv (au ((x (k+6))-(x (k+12)))) (fun a b=>gQ) ?_;by_cases o:((x (k+6))-(x (k+12)))<n
  ·refine Qv aG (fun a b=>ni o)<|Qn ?_;rintro _ ⟨h,rfl⟩;obtain⟨BM,q⟩ : ∃ a,a=World.drewN d h:=⟨_,rfl⟩;rw[<- q];have s4:Stp d.heap.size d BM:=(by rw[q]; exact Sb (jA d h));have⟨m6,m7,z⟩:=iy s4.old g u l;clear q;refine sN<|aM<|ay<|av (.agg (aA 54 (rv .i64 (fun _=>0))))<|dU m7 0 fun w4 m8 L z3 => ?_;have m9:aP w4 s 54 (rv .i64 (fun _=>0)) 82:=aQ m8;have m10:=m6.cZ L (by omega);have Q:=L.below z z.size (by omega);refine av (au 12) (aC (Wr (sR (⟨.tuple #[.agg (aA 54 (rv .i64 (fun _=>0))),au 12],fP Tryz.results161 ⟨_,rfl,aS m9.aH (by kernel_rfl) (by kernel_rfl)⟩ (by exact rfl),?_⟩))));refine⟨?_,Q⟩;have f:bH x ((k:Int)+1) n=(zero,12):=by
    unfold bH qD C F;rw[pl,Nat.add_comm 6 k,Nat.add_comm 12 k,f_ o];exact xO j J K p rfl (by decide)
   rw[f]
   all_goals rfl
  refine Qv aF (fun a b=>nk o)<|Qn ?_;rintro _ ⟨h,rfl⟩;obtain⟨wq2,r⟩ : ∃ a,a=World.drewN d h:=⟨_,rfl⟩;rw[<- r];have s6:Stp d.heap.size d wq2:=by rw[r]; exact Sb (jA d h)
  have⟨E,X,A⟩:=iy s6.old g u l;clear r;refine sN<|aK<|Wk<|sN<|ay<|av (au ((k:Int)+1))<|Lv (au k) gQ<|av (pf c 12)<|Lv (pf c (k+12)) (jJ 6 1)<|Lv (au (x (k+12))) (aL E.aH (k+12))<|av (au n)<|Lv (au ((x (k+12))+n)) fA<|av (pf c 12)<|Lv (pf c (k+12)) (jJ 6 1)<|ji E (k+12) (au ((x (k+12))+n)) fun w5 Y M z4 => ?_;have G:aP w5 c 54 (rv .i64 (upd x (k+12) ((x (k+12))+n))) 82:=Y.to (Fx.zA _ _ _ _);have Z:=X.cZ M (by omega);have B:=M.below A A.size (by omega);refine aC<|ay<|Lv (.agg (aA 54 (rv .i64 (upd x (k+12) ((x (k+12))+n))))) (eT G.aH 0)<|dU Z 0 fun w6 aa N z5 => ?_;have ab:aP w6 s 54 (rv .i64 (upd x (k+12) ((x (k+12))+n))) 82:=aQ aa;have m18:=G.cZ N (by omega);have R:=N.below B B.size (by omega);refine av (au 0) (aC (Wr (⟨.tuple #[.agg (aA 54 (rv .i64 (upd x (k+12) ((x (k+12))+n)))),au 0],fP Tryz.results161 ⟨_,rfl,aS ab.aH (by kernel_rfl) (by kernel_rfl)⟩ (by exact rfl),?_⟩)));refine⟨?_,R⟩;have f:bH x ((k:Int)+1) n=(upd x (k+12) (x (k+12)+n),0):=by
   unfold bH qD C F;rw[pl,Nat.add_comm 6 k,Nat.add_comm 12 k,g_ o];exact Ba j J K p rfl (by have:=VB j W; omega)
  rw[f]
  all_goals rfl
 refine Lv aG (mG m)<|aC<|aM<|ay<|av (.agg (aA 54 (rv .i64 (fun _=>0))))<|av (au (fu x i n))<|dU u 0 fun w7 ac O z6 => ?_;have ad:aP w7 s 54 (rv .i64 (fun _=>0)) 82:=aQ ac;have m21:=g.cZ O (by omega);have S:=O.below l l.size (by omega);refine av (au (fu x i n)) (aC (Wr (sR (⟨.tuple #[.agg (aA 54 (rv .i64 (fun _=>0))),au (fu x i n)],fP Tryz.results161 ⟨_,rfl,aS ad.aH (by kernel_rfl) (by kernel_rfl)⟩ (by exact rfl),?_⟩))));refine⟨?_,S⟩;have f:bH x i n=(zero,fu x i n):=by
  exact L6 m
 rw[f]
 all_goals rfl
set_option maxRecDepth 10000 in
theorem Zg(x:Nat->Int)(i j n:Int)(w:World) :
 Calls Tryz.prog 127 #[.agg (aA 54 (rv .i64 x)),au i,au j,au n] w fun e w'=>e = .returned (.tuple #[.agg (aA 54 (rv .i64 (dn x i j n).1)),au (dn x i j n).2])/\Below w.heap.size w w':=by
 refine Kent Tryz.func127 59 ?_;refine ay<|oz fun c w1 aa z s1 z1 => ?_;have B:=bf s1.old (Below.refl w.heap.size w);have rF:=gD aa;have sQ:=z.lt;refine qR 54 (rv .i64 (fun _=>0)) fun h w2 F H s2 z2 => ?_;have⟨J,W⟩:=eU s2.old z B;have pO:=iw F B.size;have FK:=cu F z.lt;have yu:=H.lt;refine av (au 0)<|aC<|ay<|Lv (.agg (aA 54 (rv .i64 x))) (eT J.aH 0)<|av (au i)<|av (au n)<|dH (F9 x i n _) _ rfl ?_;intro w3 hb1;have⟨p,u,f⟩:=iy hb1 J H W;refine av (au (fu x i n))<|aC<|Ws<|ay<|av (au (fu x i n)) ?_;by_cases t:(fu x i n)=0
 ·refine Lv aF (jG t)<|aC<|aK<|Wk<|sN<|Ws<|Ws ?_;obtain⟨b,r,s,l⟩:=Ga t;have S:=mI b;obtain⟨k,y,ei,_⟩:=qw l;subst ei;refine Wl<|av (au j) ?_;by_cases d:(gG j)=true
  ·refine lH (sV j _) aG (by rw[d])<|av aF<|aC<|aK<|Wk<|sN<|Ws<|Ws ?_;obtain⟨q,hq,ej,_⟩:=qw d;subst ej;refine Wl<|av (au ((k:Int)+1))<|av (au ((q:Int)+1)) ?_;by_cases g:((k:Int)+1)=((q:Int)+1)
   ·refine Lv aG (eH g)<|aC<|aM<|ay<|av (.agg (aA 54 (rv .i64 (fun _=>0))))<|dU u 0 fun w4 m6 O z3 => ?_;have m7:aP w4 h 54 (rv .i64 (fun _=>0)) 82:=aQ m6;have m8:=p.cZ O (by omega);have X:=O.below f f.size (by omega);refine av (au 1) (aC (Wr (sR (⟨.tuple #[.agg (aA 54 (rv .i64 (fun _=>0))),au 1],fP Tryz.results127 ⟨_,rfl,aS m7.aH (by kernel_rfl) (by kernel_rfl)⟩ (by exact rfl),?_⟩))));refine⟨?_,X⟩;have a:dn x ((k:Int)+1) ((q:Int)+1) n=(zero,1):=by
     unfold dn mR;rw[d_ g];exact xO b r s (by rw[l,d]; rfl) rfl (by decide)
    rw[a]
    all_goals rfl
   refine Lv aF (fC g)<|aC<|aK<|Wk<|sN<|Ws<|ay<|av (au n)<|Lv (.agg (aA 54 (rv .i64 x))) (eT p.aH 0)<|av (au ((k:Int)+1))<|dH (BR x k _ (by omega) (mI b)) _ rfl ?_;intro w5 hb2;have⟨v,A,m⟩:=iy hb2 p u f;by_cases o:(L x k)<n
   ·refine Lv aG (ni o)<|aC<|aM<|ay<|av (.agg (aA 54 (rv .i64 (fun _=>0))))<|dU A 0 fun w6 m11 P z4 => ?_;have m12:aP w6 h 54 (rv .i64 (fun _=>0)) 82:=aQ m11;have m13:=v.cZ P (by omega);have Y:=P.below m m.size (by omega);refine av (au 11) (aC (Wr (sR (⟨.tuple #[.agg (aA 54 (rv .i64 (fun _=>0))),au 11],fP Tryz.results127 ⟨_,rfl,aS m12.aH (by kernel_rfl) (by kernel_rfl)⟩ (by exact rfl),?_⟩))));refine⟨?_,Y⟩;have a:dn x ((k:Int)+1) ((q:Int)+1) n=(zero,11):=by
     unfold dn mR;rw[b_ g,iZ b k y,f_ o];exact xO b r s (by rw[l,d]; rfl) rfl (by decide)
    rw[a]
    all_goals rfl
   refine Lv aF (nk o)<|aC<|aK<|Wk<|sN<|Ws<|Ws ?_;have q1:=S (6*k+q+18);refine Wl<|av (au ((k:Int)+1))<|Lv (au k) gQ<|av (au ((q:Int)+1))<|Lv (au q) gQ<|av (pf c 18)<|Lv (pf c (6*k+18)) (jJ 6 6)<|Lv (pf c (6*k+q+18)) (jJ 6 1)<|Lv (au (x (6*k+q+18))) (aL v.aH (6*k+q+18))<|av (au n)<|Lv (au ((x (6*k+q+18))+n)) fA ?_;by_cases E:1125899906842624<((x (6*k+q+18))+n)
   ·refine Lv aG (ni E)<|aC<|aM<|ay<|av (.agg (aA 54 (rv .i64 (fun _=>0))))<|dU A 0 fun w7 m14 Q z5 => ?_;have m15:aP w7 h 54 (rv .i64 (fun _=>0)) 82:=aQ m14;have m16:=v.cZ Q (by omega);have Z:=Q.below m m.size (by omega);refine av (au 6) (aC (Wr (sR (⟨.tuple #[.agg (aA 54 (rv .i64 (fun _=>0))),au 6],fP Tryz.results127 ⟨_,rfl,aS m15.aH (by kernel_rfl) (by kernel_rfl)⟩ (by exact rfl),?_⟩))));refine⟨?_,Z⟩;have a:dn x ((k:Int)+1) ((q:Int)+1) n=(zero,6):=by
     unfold dn mR;rw[b_ g,iZ b k y,g_ o,L8];exact DZ b r s (by rw[l,d]; rfl) rfl (by omega)
    rw[a]
    all_goals rfl
   refine Lv aF (nk E)<|aC<|aK<|Wk<|sN<|Ws ?_;refine Wt 13 (by kernel_rfl) (by kernel_rfl) fun rE dR iK => ?_;have⟨G,m18,C⟩:=iy dR v A m;refine Fy (au ((k:Int)+1))<|qO (au k) gQ<|Fy (au ((q:Int)+1))<|qO (au q) gQ<|Fy (pf c 18)<|qO (pf c (6*k+18)) (jJ 6 6)<|qO (pf c (6*k+q+18)) (jJ 6 1)<|qO (au (x (6*k+q+18))) (aL G.aH (6*k+q+18))<|Fy (au n)<|qO (au ((x (6*k+q+18))+n)) fA<|Fy (pf c 18)<|qO (pf c (6*k+18)) (jJ 6 6)<|qO (pf c (6*k+q+18)) (jJ 6 1)<|Fx.St.nil ?_;refine ji G (6*k+q+18) (au ((x (6*k+q+18))+n)) fun w8 m19 R z6 => ?_;have I:aP w8 c 54 (rv .i64 (upd x (6*k+q+18) ((x (6*k+q+18))+n))) 82:=m19.to (Fx.zA _ _ _ _);have m21:=m18.cZ R (by omega);have D:=R.below C C.size (by omega);refine aC<|ay<|Lv (.agg (aA 54 (rv .i64 (upd x (6*k+q+18) ((x (6*k+q+18))+n))))) (eT I.aH 0)<|dU m21 0 fun w9 m22 K z7 => ?_;have m23:aP w9 h 54 (rv .i64 (upd x (6*k+q+18) ((x (6*k+q+18))+n))) 82:=aQ m22;have m24:=I.cZ K (by omega);have T:=K.below D D.size (by omega);refine av (au 0) (aC (Wr (⟨.tuple #[.agg (aA 54 (rv .i64 (upd x (6*k+q+18) ((x (6*k+q+18))+n)))),au 0],fP Tryz.results127 ⟨_,rfl,aS m23.aH (by kernel_rfl) (by kernel_rfl)⟩ (by exact rfl),?_⟩)));refine⟨?_,T⟩;have a:dn x ((k:Int)+1) ((q:Int)+1) n=(upd x (6*k+q+18) (x (6*k+q+18)+n),0):=by
    unfold dn mR;rw[b_ g,iZ b k y,g_ o,L8];exact Ba b r s (by rw[l,d]; rfl) rfl (by omega)
   rw[a]
   all_goals rfl
  rw[U_]at d;refine lH (sV j _) aF (by rw[d])<|av aG<|aC<|aM<|ay<|av (.agg (aA 54 (rv .i64 (fun _=>0))))<|dU u 0 fun pJ mZ M z8 => ?_;have nQ:aP pJ h 54 (rv .i64 (fun _=>0)) 82:=aQ mZ;have nH:=p.cZ M (by omega);have U:=M.below f f.size (by omega);refine av (au 10) (aC (Wr (sR (⟨.tuple #[.agg (aA 54 (rv .i64 (fun _=>0))),au 10],fP Tryz.results127 ⟨_,rfl,aS nQ.aH (by kernel_rfl) (by kernel_rfl)⟩ (by exact rfl),?_⟩))));refine⟨?_,U⟩;have a:dn x ((k:Int)+1) j n=(zero,10):=by
   unfold dn;rw[d,I_];exact RS b r s
  rw[a]
  all_goals rfl
 refine Lv aG (mG t)<|aC<|aM<|ay<|av (.agg (aA 54 (rv .i64 (fun _=>0))))<|av (au (fu x i n))<|dU u 0 fun DV og N z9 => ?_;have oh:aP DV h 54 (rv .i64 (fun _=>0)) 82:=aQ og;have oD:=p.cZ N (by omega);have V:=N.below f f.size (by omega);refine av (au (fu x i n)) (aC (Wr (sR (⟨.tuple #[.agg (aA 54 (rv .i64 (fun _=>0))),au (fu x i n)],fP Tryz.results127 ⟨_,rfl,aS oh.aH (by kernel_rfl) (by kernel_rfl)⟩ (by exact rfl),?_⟩))));refine⟨?_,V⟩;have a:dn x i j n=(zero,fu x i n):=by
  exact RU t
 rw[a]
 all_goals rfl
namespace Rt
theorem BS{m:mo}{x:Int}(h:0<=m.node x) : ∃ q:Nat,q<m.s.nn/\fK (fun i=>decide (m.id i=x)) m.s.nn=(q:Int)/\m.id q=x:=by
 rcases iR (fun i=>decide (m.id i=x)) m.s.nn with ⟨q,b,e,a⟩|⟨e,_⟩
 ·exact⟨q,b,e,h_ a⟩
 unfold mo.node at h; omega
theorem Qe{n:Nat}{x:Nat->Int}{r:Int} : ∀ j,j<(n+1)*1->ig (rv .u64 x) (n*1) (bB (fun j=>rv .u64 (fun _=>0) (j % 1)) (0*1) 1 (fun _=>aD r)) j=rv .u64 (aI x n r) j:=by
 intro j a;unfold ig rv aI;by_cases h:j<n*1
 ·rw[d_ h,b_ (by omega)]
 rw[b_ h,d_ (by omega)];unfold bB;rw[d_ (by omega)]
theorem L9{P:Nat->Bool}{n k j:Nat}(e:k=j+1)(h : ∀ i,k<=i->i<n->P i=true)(c:P j=true) : ∀ i,j<=i->i<n->P i=true:=fun i d b=>by
 by_cases a:i=j
 ·subst a; exact c
 ·exact h i (by omega) b
end Rt
theorem BU(m:mo)(p a:Nat)(o r:Int)(w:World)(h:CQ w p m)(ha:a<6)(b:o=(a:Int)+1) :
 Calls Tryz.prog 158 #[(pt p),au o,aD r] w fun e c=>e = .returned (.bool (decide (0<=m.lU a r)))/\Below w.heap.size w c:=by
 subst b; exact Y3 m p a r w h ha
set_option maxRecDepth 20000 in
set_option maxHeartbeats 2000000 in
theorem Zh(m:mo)(B p a D:Nat)(v:EvM)(w:World)(M:uh w B p m)(E:B<=w.heap.size)(ha:a<6)(ho:v.o=(a:Int)+1)(bgg:m.s.gn<=900000)(brr : ∀ i,i<6->m.rn i<=900000)(hTN : ∀ x,m.node x=bC m.t m.tn x)(hD:bC m.t m.tn (bF m.t m.tn D v.node)<0)(hD2:D<=1000) :
 Calls Tryz.prog 125 #[(pt p),.agg (aA 14 (bM v))] w fun e w'=>e = .returned (au (jv m.core v))/\Below B w w'/\(jv m.core v=0 -> ∃ m',m'.core=mW m.core v/\uh w' B p m'):=by
 have Vo:=M.c;have hLn:=M.n;have hLg:=M.g;have SY:=M.tc;have Vp:=M.t;have hLr:=M.r;have Vq:=M.pB;have Et:=M.tB;have bn:=M.bn;have bg:=M.bg;have bt:=M.bt;have lpp:p<w.heap.size:=Vo.lt;have SQ:m.tb<w.heap.size:=SY.lt;refine Kent Tryz.func125 188 ?_;refine ay<|oz fun G w1 kQ m1 s1 z1 => ?_;have⟨m2,m3,m4,m5,m6,m7⟩:=oJ s1.old Vo hLn hLg SY Vp hLr;have b1:=eZ s1.old (Below.refl B w) E;have rF:=iw kQ (Below.refl B w).size;have⟨ny,yA⟩:=sF kQ Vo.lt SY.lt;have sQ:=m1.lt;refine av (au 0)<|aC<|Ws<|ay<|av (pt p)<|av (pt G)<|Lv (au v.o) (aL m1.aH 0)<|av (pf G 12)<|Lv (aD v.req) (aL m1.aH 12) ?_;have Oe:CQ w1 p m := { c:=m2.aH,an:=m3.arr,ag:=m4.arr,tc:=m5.aH,at2:=m6.arr,ar:=fun i L=>(m7.1 i L).arr,bn:=(by show m.s.nn<=1000000; omega),bg:=bg,bt:=(by show m.tn<=1000000; omega),br:=M.br };by_cases c17:(decide (0<=m.lU a v.req))=true
 ·refine dH (BU m p a v.o v.req _ Oe ha ho) aG (by rw[c17]) ?_;intro w2 hb1;have b2:=eZ hb1 b1 E;refine aC<|aM<|ay<|av (au 14)<|aC<|Wr<|sR<|aJ (au 14) ?_;have eN:aN v=a:=by unfold aN; omega
  have V:jv m.core v=14:=by unfold jv; rw[eN]; exact d_ (h_ c17)
  exact⟨oL V.symm,b2,fun h0=>by rw[V]at h0; cases h0⟩
 rw[U_]at c17;refine dH (BU m p a v.o v.req _ Oe ha ho) aF (by rw[c17]) ?_;intro w3 hb2;have⟨m15,m16,m17,m18,m19,m20,m21⟩:=jT hb2 m2 m3 m4 m5 m6 m7 m1;have b3:=eZ hb2 b1 E;refine aC<|aK<|Wk<|sN<|Ws ?_;refine kH [0,1,2,4,3,5,6,7] [0,0,0,4,0,4,3,0] [(6,3,[3]),(6,5,[5]),(7,6,[6])] fun rE dR iK => ?_;have⟨m22,m23,m24,mZ,nQ,nH,og⟩:=jT dR m15 m16 m17 m18 m19 m20 m21;have b4:=eZ dR b3 E;refine aX (pt p)<|aX (pt p)<|aX (pf p 20)<|aX (pf G 9)<|Rs (pt m.tb) (aL m22.aH 20) ?_;refine Rs (aD v.node) (aL og.aH 9) ?_;refine gZ<|lD (JQ m.tb m.ta m.tn m.tc m.t v.node D _ (uS mZ nQ bt) hD hD2) ?_;rintro e w4 ⟨K,vv,he,hown,tX,hK1,hb3⟩;obtain⟨a1,A,rfl⟩:=hown.val;refine⟨.slice a1 K A,he,?_⟩;clear he;have Yp:K=fB m.t m.tn v.node:=wD tX hK1 hD hD2;have hKD:K<=1000:=by rw[Yp]; exact JY _ _
 have⟨oh,oD,lI,m32,pE,nR,pF⟩:=jT hb3 m22 m23 m24 mZ nQ nH og;have b5:=eZ hb3 b4 E;refine Ln<|aX (.slice a1 (K) (A))<|bS<|Ws<|ay<|av (.slice a1 (K) (A))<|av (au K) ?_;by_cases c27:(K:Int)=0
 ·refine Lv aG (eH c27)<|aC<|aM<|ay<|av (au 9)<|aC<|Wr<|sR<|aJ (au 9) ?_;have eN:aN v=a:=by unfold aN; omega
  have ne1 : ¬ 0<=m.core.lU (aN v) v.req:=by rw[eN]; exact j_ c17
  have V:jv m.core v=9:=by unfold jv; rw[b_ ne1]; exact d_ (Yp.symm.trans (by omega))
  exact⟨oL V.symm,b5,fun h0=>by rw[V]at h0; cases h0⟩
 refine Lv aF (fC c27)<|aC<|aK<|Wk<|sN<|Ws<|ay<|av (au 0)<|aC<|Wb<|Wo (fun f F => ∃ k:Nat,∃ Rk:Nat->Nat->Int,k<=K/\dz (fun x=>bG x v.o v.aT) (pG m.core v.node) m.R k=(Rk,0)/\f 0=(pt p)/\f 3=(pt G)/\f 5 = .slice a1 (K) (A)/\f 6=au (k:Int)/\aP F p 27 (mD m) 56/\Fx.Own F B 106 5 (.slice m.s.ga (m.s.gn) (m.s.gc)) m.s.gn (JO m)/\aP F m.tb 1 (fun _ => .slice m.ta m.tn m.tc) 156/\Fx.Own F B 153 2 (.slice m.ta (m.tn) (m.tc)) m.tn (RB m.t)/\xK F B 6 m/\aP F G 14 (bM v) 37/\Fx.Own F rE.heap.size 23 1 (.slice a1 (K) (A)) K (rv .u64 (fun i=>bF m.t m.tn i v.node))/\Fx.Own F B 84 56 (.slice m.s.na (m.s.nn) (m.s.nc)) m.s.nn (flat 56 (fun l=>jW (m.id l) (m.par l) (Rk l)))/\Below B w F) (fun f _=>(K-(intOf (f 6)).toNat)) ⟨0,m.R,by omega,rfl,(by rfl),(by rfl),(by rfl),Fx.ic,oh,lI,m32,pE,nR,pF,hown,oD,b5⟩ ?_;rintro f1 w5 ⟨k,Rk,hk,hRk,Z,O,h3,h4,nS,qW,qB,pK,sS,mh,lM,mH,b6⟩;refine Ws<|ay<|aU h4<|aU h3<|av (au K) ?_;by_cases c31:(k:Int)<(K:Int)
 ·refine Lv aG (gM c31)<|aC<|aM<|Wk<|sN<|Ws<|Wb<|Ws ?_;obtain⟨q,hq,eq0,_⟩:=BS (m:=m) (x:=bF m.t m.tn k v.node) (by rw[hTN]; exact tX k (by omega));have ex1:pG m.core v.node k=q:=by show(fK (fun i=>decide (m.id i=bF m.t m.tn k v.node)) m.s.nn).toNat=q; rw[eq0]; rfl
  refine Wl<|aU Z<|aU h3<|aU h4 ?_;obtain⟨Eu,eq1⟩:=lM.addr (by omega);have qg:Fx.Own w5 rE.heap.size 23 1 (bK Eu K A) K (rv .u64 (fun i=>bF m.t m.tn i v.node)):=lM.eY (L_ (fun q=>Value.slice q K A) eq1);refine Lv (pf Eu k) (dw 1 (hx:=(rfl.trans (L_ (fun q=>Value.slice q (K) (A)) eq1))))<|Lv (aD (bF m.t m.tn k v.node)) (aL qg.aH k) ?_;have qh:Fx.Own w5 rE.heap.size 23 1 (.slice a1 (K) (A)) K (rv .u64 (fun i=>bF m.t m.tn i v.node)):=qg.eY (L_ (fun q=>Value.slice q K A) eq1.symm);have VD:CQ w5 p { m with R:=Rk } := { c:=nS.aH,an:=mH.arr,ag:=qW.arr,tc:=qB.aH,at2:=pK.arr,ar:=fun i L=>(sS.1 i L).arr,bn:=(by show m.s.nn<=1000000; omega),bg:=bg,bt:=(by show m.tn<=1000000; omega),br:=M.br };refine dH ((FU { m with R:=Rk } p (bF m.t m.tn k v.node) _ VD).mono (fun e w2 O=>(⟨O.1.trans (oL eq0),O.2⟩:e = .returned (au (q:Int))/\_))) _ rfl ?_;intro w6 hb4;have⟨om,rW,wh,uD,qX,vJ,uZ,uE⟩:=nO hb4 nS qW qB pK sS mh mH qh;have b7:=eZ hb4 b6 E;refine av (au q)<|aC<|Ws ?_;obtain⟨Y,Ev⟩:=uZ.addr (by omega);have wm:Fx.Own w6 B 84 56 (bK Y m.s.nn m.s.nc) m.s.nn (flat 56 (fun l=>jW (m.id l) (m.par l) (Rk l))):=uZ.eY (L_ (fun q=>Value.slice q m.s.nn m.s.nc) Ev);refine qZ (T:=82) (T':=82) (a := .tmp 8) (v := .tmp 55) (m:=54) (z:=rv .i64 (fun _=>0)) (y:=rv .i64 ((bG (Rk q) v.o v.aT).1)) (u := .agg (aA 54 (rv .i64 ((bG (Rk q) v.o v.aT).1)))) 17 18 (List.replicate 20 (0,2,[],[])) #[(pt p),(pt p),(pt p),(pf p 18),.slice m.s.na (m.s.nn) (m.s.nc),au (q:Int),(pf Y (56*q)),(pf Y (56*q+2)),.agg (aA 54 (rv .i64 (Rk q))),(pt G),au v.o,(pf G 11),au v.aT,.tuple #[.agg (aA 54 (rv .i64 ((bG (Rk q) v.o v.aT).1))),au ((bG (Rk q) v.o v.aT).2)],.tuple #[.agg (aA 54 (rv .i64 ((bG (Rk q) v.o v.aT).1))),au ((bG (Rk q) v.o v.aT).2)],.agg (aA 54 (rv .i64 ((bG (Rk q) v.o v.aT).1))),au ((bG (Rk q) v.o v.aT).2),undef,undef,au ((bG (Rk q) v.o v.aT).2)] (by kernel_rfl) (by kernel_rfl) (by kernel_rfl) (by kernel_rfl) (by kernel_rfl) (by kernel_rfl) rfl (by kernel_rfl) rfl rfl (by kernel_rfl) (fun W=>(show ev _ (.tmp 8)=(pt W)from by kernel_rfl)) (fun W=>(show ev _ (.tmp 55) = .agg (aA 54 (rv .i64 ((bG (Rk q) v.o v.aT).1)))from by kernel_rfl)) (bE _ _) (fun _ _=>rfl) (by kernel_rfl) (fun W => ?_) ?_
  ·refine⟨?_,?_,?_,?_,?_,?_,?_,?_,?_,?_,?_,?_,?_,?_,?_,?_,?_,?_,?_,?_,trivial⟩
   ·exact .inr (.inr (uH (pt p) fun d b=>fG rfl ((bW (by kernel_rfl)).trans Z)))
   ·exact .inr (.inr qV)
   ·exact .inr (.inr qV)
   ·exact .inr (.inr qV)
   ·exact .inr (.inr (uH (.slice m.s.na (m.s.nn) (m.s.nc)) fun d b=>bA (x:=mD m) rfl (show ev _ (.tmp 44)=(pf p 18)from by kernel_rfl) (by kernel_rfl) (om.aH.below b (by have:=om.lt; omega)) (i:=18) (by omega) (by omega) rfl))
   ·exact .inr (.inr qV)
   ·exact .inr (.inr (uH (pf Y (56*q)) fun d b=>dO rfl ((show ev _ (.tmp 45) = .slice m.s.na (m.s.nn) (m.s.nc)from by kernel_rfl).trans (L_ (fun q=>Value.slice q (m.s.nn) (m.s.nc)) Ev)) (show ev _ (.tmp 46)=au (q:Int)from by kernel_rfl) Tryz.underlying47 (s:=56) (by kernel_rfl) (by omega) (by omega) (by omega)))
   ·exact .inr (.inr qV)
   ·exact .inr (.inr (uH (.agg (aA 54 (rv .i64 (Rk q)))) fun d b=>dQ (x:=flat 56 (fun l=>jW (m.id l) (m.par l) (Rk l))) (y:=rv .i64 (Rk q)) rfl (show ev _ (.tmp 48)=(pf Y (56*q+2))from by kernel_rfl) (by kernel_rfl) (by kernel_rfl) (wm.aH.below b (by have:=wm.lt; omega)) (i:=56*q+2) (by omega) (by omega) (fun X hjq=>(Fx.iq (k:=q) (j:=2+X) (by omega) (by omega)).trans ((fun X _=>BN _ _ _ X) X hjq))))
   ·exact .inr (.inr (uH (pt G) fun d b=>fO rfl ((bW (by kernel_rfl)).trans O) Tryz.underlying37 rfl (s:=1) (by kernel_rfl) rfl rfl))
   ·exact .inr (.inr (uH (au v.o) fun d b=>bA (x:=bM v) rfl (show ev _ (.tmp 50)=(pt G)from by kernel_rfl) (by kernel_rfl) (vJ.aH.below b (by have:=vJ.lt; omega)) (i:=0) (by omega) (by omega) rfl))
   ·exact .inr (.inr (uH (pf G 11) fun d b=>fO rfl ((bW (by kernel_rfl)).trans O) Tryz.underlying37 rfl (s:=1) (by kernel_rfl) rfl (by show _+11=_; omega)))
   ·exact .inr (.inr (uH (au v.aT) fun d b=>bA (x:=bM v) rfl (show ev _ (.tmp 52)=(pf G 11)from by kernel_rfl) (by kernel_rfl) (vJ.aH.below b (by have:=vJ.lt; omega)) (i:=11) (by omega) (by omega) rfl))
   ·exact .inr (.inr (Fx.Jv (v := .tuple #[.agg (aA 54 (rv .i64 ((bG (Rk q) v.o v.aT).1))),au ((bG (Rk q) v.o v.aT).2)]) (by kernel_rfl) (by kernel_rfl) (Fx.qbC (fun d b=>rC (args := [.agg (aA 54 (rv .i64 (Rk q))),au v.o,au v.aT]) rfl (Fx.Pm (show ev _ (.tmp 49) = .agg (aA 54 (rv .i64 (Rk q)))from by kernel_rfl) (show ev _ (.tmp 51)=au v.o from by kernel_rfl) (show ev _ (.tmp 53)=au v.aT from by kernel_rfl)) Tryz.func159 rfl rfl) (fun d b=>(Ze (Rk q) v.o v.aT _).mono fun e v2 h=>⟨h.1,h.2⟩))))
   ·exact .inr (.inr qV)
   ·exact .inr (.inr qV)
   ·exact .inr (.inr qV)
   ·exact .inl rfl
   ·exact .inr (.inl rfl)
   exact .inr (.inr qV)
  rintro W w7 f2 hf1 pO wo hb5;have FW:p≠W:=u_ (n_ (om.lt) pO);have anK:m.tb≠W:=u_ (n_ (wh.lt) pO);have adR:G≠W:=u_ (n_ (vJ.lt) pO);have anL:Y≠W:=u_ (n_ (wm.lt) pO);have⟨tQ,tT,uF,yD,rG,vK,pz,uI⟩:=nO hb5 om rW wh uD qX vJ uE wm;have b8:=eZ hb5 b7 E;have pO:w.heap.size<=W:=m_ b7.size pO;have yu:=wo.lt;have q1:f2 0=(pt p):=by rw[hf1]; exact(bW (by kernel_rfl)).trans Z
  have q2:f2 3=(pt G):=by rw[hf1]; exact(bW (by kernel_rfl)).trans O
  have q3:f2 5 = .slice a1 (K) (A):=by rw[hf1]; exact(bW (by kernel_rfl)).trans h3
  have q4:f2 6=au (k:Int):=by rw[hf1]; exact(bW (by kernel_rfl)).trans h4
  have q15:f2 7=au (q:Int):=by rw[hf1]; kernel_rfl
  have q33:f2 8=(pt W):=by rw[hf1]; kernel_rfl
  have q34:f2 9=au ((bG (Rk q) v.o v.aT).2):=by rw[hf1]; kernel_rfl
  clear hf1;refine sN<|Ws<|ay<|aU q34 ?_;by_cases c58:((bG (Rk q) v.o v.aT).2)=0
  ·refine Lv aF (jG c58)<|aC<|aK<|Wk<|sN ?_;refine kH [0,1,2,3,5,4,6,7,8,9] [0,0,0,0,4,0,4,0,0,3] [(9,4,[4]),(9,6,[6])] fun CJ gJ nZ => ?_;have⟨m64,xw,wN,vL,xA,tV,vM,uP,vN⟩:=Cw gJ tQ tT uF yD rG vK pz uI wo;have b9:=eZ gJ b8 E;refine bZ q1<|aX (pt p)<|aX (pt p)<|aX (pf p 18)<|bZ q15<|Rs (.slice m.s.na (m.s.nn) (m.s.nc)) (aL m64.aH 18) ?_;refine Rs (.agg (aA 54 (rv .i64 ((bG (Rk q) v.o v.aT).1)))) (eT vN.aH 0 (ha:=q33)) ?_;refine Rp (pf Y (56*q)) (fun _=>dw 56 (hx:=(rfl.trans (L_ (fun q=>Value.slice q (m.s.nn) (m.s.nc)) Ev))))<|aX (pf Y (56*q+2))<|gZ<|AB uP (56*q+2) fun w8 vO s9 z2 => ?_;have fV:=gH s9 uP.KY;have⟨zI,wO,yI,yJ,yK,yt,xB⟩:=TL fV m64 xw wN vL xA tV vM;have b10:=s9.below b9 (m_ E b9.size) uP.blk.1;have yR:Fx.Own w8 B 84 56 (bK Y m.s.nn m.s.nc) m.s.nn (flat 56 (fun l=>jW (m.id l) (m.par l) (aI Rk q ((bG (Rk q) v.o v.aT).1) l))):=vO.congr (fun U S=>(Fx.Cv (k:=q) (j:=2) (by omega) (by omega) U S).trans (bI (fun i L j hj=>C9 i L j hj) U S));refine Ln<|Rn<|bP<|sN<|Wl<|aU q4<|Lv (au ((k:Int)+1)) fA<|av (au ((k:Int)+1))<|Ln ?_;have AP:Fx.Own w8 B 84 56 (.slice m.s.na (m.s.nn) (m.s.nc)) m.s.nn (flat 56 (fun l=>jW (m.id l) (m.par l) (aI Rk q ((bG (Rk q) v.o v.aT).1) l))):=yR.eY (L_ (fun q=>Value.slice q m.s.nn m.s.nc) Ev.symm);refine gW ⟨k+1,(aI Rk q (bG (Rk q) v.o v.aT).1),by omega,(F7 hRk ex1 (by first|exact c58|exact Classical.not_not.1 c58)),q1,q2,q3,Fx.ic,zI,wO,yI,yJ,yK,yt,xB,AP,b10⟩ ?_
   show(K-(intOf (au ((k:Int)+1))).toNat)<_;simp only[h4,intOf]; omega
  refine Lv aG (mG c58)<|aC<|aM<|ay<|aU q34<|av (au ((bG (Rk q) v.o v.aT).2))<|aC<|Wr<|sR<|bL<|sR<|pV<|bL<|sR<|aJ (au ((bG (Rk q) v.o v.aT).2)) ?_;have eN:aN v=a:=by unfold aN; omega
  have ne1 : ¬ 0<=m.core.lU (aN v) v.req:=by rw[eN]; exact j_ c17
  have ne2 : ¬ fB m.core.t m.core.tn v.node=0:=fun e=>c27 (by rw[show K=0 from Yp.trans e]; rfl);have ew:nW m.core v=dz (fun x=>bG x v.o v.aT) (pG m.core v.node) m.R K:=by unfold nW; rw[show fB m.core.t m.core.tn v.node=K from Yp.symm]; rfl
  have V:jv m.core v=(bG (Rk q) v.o v.aT).2:=by
   unfold jv; rw[b_ ne1,b_ ne2,ew];have e1:=IQ hRk ex1 c58;rw[A9 (k:=k+1) (by rw[e1]; exact c58) K (by omega)]; exact e1
  exact⟨oL V.symm,b8,fun h0=>M_ (V.symm.trans h0) c58⟩
 refine Lv aF (gN c31)<|aC<|aK<|Wx<|bX<|gP<|bY<|sN<|Ws ?_;have hRK:dz (fun x=>bG x v.o v.aT) (pG m.core v.node) m.R K=(Rk,0):=by rw[show K=k by omega]; exact hRk
 refine Wl<|Lv (pt G) (iL O 0)<|Lv (au v.o) (aL mh.aH 0)<|Lv (pf G 12) (iL O 12)<|Lv (aD v.req) (aL mh.aH 12)<|Lv (pf G 9) (iL O 9)<|Lv (aD v.node) (aL mh.aH 9)<|Lv (pf G 11) (iL O 11)<|Lv (au v.aT) (aL mh.aH 11)<|av (.agg (aA 5 (bB (bB (bB (bB zR0 0 1 (fun _=>au v.o)) 1 1 (fun _=>aD v.req)) 2 1 (fun _=>aD v.node)) 3 1 (fun _=>au v.aT))))<|qR 5 zR0 fun Q w9 yE yS s10 z3 => ?_;have⟨BI,Bq,Br,AQ,AU,BJ,Es⟩:=jT s10.old nS qW qB pK sS mh mH;have b11:=eZ s10.old b6 E;have Bp:=iw yE b6.size;have adS:=cu yE nS.lt;have JR:(.slice m.s.ga (m.s.gn) (m.s.gc):Value).ownBlock≠some Q:=by rw[yE]; exact qW.jF (A_ _)
 have⟨adT,anM⟩:=sF yE qB.lt mh.lt;have Hg:=yS.lt;refine dU yS 0 (h1:=(bJ (bJ (bJ (bJ (fun X _=>by show(zR0 X).oneCell'=true; simp only[zR0]; repeat (first|rfl|split)) (fun _ _=>rfl)) (fun _ _=>rfl)) (fun _ _=>rfl)) (fun _ _=>rfl))) fun pJ CU s11 z4 => ?_
 have DX:aP pJ Q 5 (bB (bB (bB (bB zR0 0 1 (fun _=>au v.o)) 1 1 (fun _=>aD v.req)) 2 1 (fun _=>aD v.node)) 3 1 (fun _=>au v.aT)) 106:=aQ CU;have jr:=gH s11 yS.ty;have AY:=jo jr BI;have Hl:=Bq.cZ s11 JR;have⟨ET,Ho,HY,xL,xM⟩:=rD jr Br AQ AU BJ Es;have b12:=s11.below b11 (m_ E b11.size) (by omega);refine aC<|Ws ?_;have vg:aP pJ Q 5 (jc (qx v)) 106:=DX.congr (fun j hj=>by rcases j with _|_|_|_|_|j <;> first|rfl|omega)
 refine Wl<|aU Z<|av (pt p)<|av (pt p)<|av (pf p 19)<|Lv (.slice m.s.ga (m.s.gn) (m.s.gc)) (aL AY.aH 19)<|av (au m.s.gn)<|av (au m.s.gn)<|aC<|Ws ?_;refine zX [0,1,2,3,4,5,6,7,8,9,10,11,12] [0,0,0,0,0,1,4,2,2,0,0,0,3] (iF [106]) vI Fx.iF.trans (fJ := [(12,5,[5]),(7,6,[6]),(8,6,[7,6]),(12,6,[6]),(8,7,[7]),(9,7,[7]),(10,7,[7]),(11,7,[7]),(12,7,[7]),(9,8,[8]),(10,8,[8]),(11,8,[8]),(12,8,[8])]) (by kernel_rfl) (by kernel_rfl) (by kernel_rfl) (by kernel_rfl) (by kernel_rfl) fun SS mQ BG => ?_;have⟨qF,ql,rJ,qG,sI,uo,wB,sJ⟩:=nO mQ AY Hl ET Ho HY xL xM vg;have b13:=eZ mQ b12 E;refine bZ Z<|bZ Z<|aX (pt p)<|aX (pt p)<|aX (pf p 19)<|Rd (v := .slice m.s.ga (m.s.gn) (m.s.gc)) (by rfl) (by rfl) (vI _) (fun d b=>bA (x:=mD m) rfl rfl (by kernel_rfl) (qF.lu b (by decide)).aH (i:=19) (by omega) (by omega) rfl) ?_;refine Rs (.agg (aA 5 (jc (qx v)))) (eT sJ.aH 0) ?_;refine zD<|wV (vs := [(0,.agg (aA 5 (jc (qx v))))]) (s:=5) (zc:=fun H=>if H<1 then au 0 else if H<3 then aD 0 else if H<4 then au 0 else aD 0) (y:=bB (fun j=>zR0 (j % 5)) (0*5) 5 (jc (qx v))) (by rfl) rfl rfl Tryz.underlying48 (by kernel_rfl) (by rfl) (by rfl) (by kernel_rfl) (by rw[aZ (off:=0*5) (s:=5) (y:=jc (qx v)) rfl (bE _ _) (by rfl)]; rfl) rfl fun g4 DV KA vk s13 z5 => ?_;have⟨Ad,wC,Ae,CV,yF,vo,rM,yX⟩:=nO s13.old qF ql rJ qG sI uo wB sJ;have b14:=eZ s13.old b13 E;have Og:=iw KA b13.size;have Zi:=cu KA qF.lt;have Zj:(.slice m.s.ga (m.s.gn) (m.s.gc):Value).ownBlock≠some g4:=by rw[KA]; exact ql.jF (A_ _)
 have⟨ali,Zk,alj⟩:=AJ KA rJ.lt uo.lt sJ.lt;have Oh:=vk.lt;refine Ln ⟨Fx.iF.of_below s13.old,?_⟩;refine zD<|yc (B:=B) (s:=5) (bytes:=40) (k:=m.s.gn) (m:=1) (v := .slice m.s.ga (m.s.gn) (m.s.gc)) (x:=JO m) (by rfl) rfl rfl rfl Tryz.underlying48 (by kernel_rfl) (by kernel_rfl) rfl rfl wC vk.aH (uT (sH _)) (by omega) (by omega) (by omega) (m_ E b14.size) fun C A Ct ho1 hg1 tO hlt1 => ?_;have qc:=yC hg1 wC;have⟨vw,CW,JU,FX,BP,FY⟩:=TK qc Ad Ae CV yF vo rM;have HZ:=yX.grown hg1 JR;have alk:Q≠C:=fun e=>tO.elim (fun e2=>JR (by rw[e]; exact e2)) (fun e2=>by have:=yX.lt; omega);have yY:Fx.Own Ct B 106 5 (bK C (m.s.gn+1) A) (m.s.gn+1) (flat 5 (Fx.K3 (fun l=>jc (m.g l)) (jc (qx v)) m.s.gn m.s.gn)):=(ho1.congr (fun j hj=>(Fx.vS j hj).trans (bI (fun i L q _=>Fx.yN i L q) j hj)));have b15:Below B w Ct:=xZ b14 hg1 (m_ E b14.size) (fun q hq=>(wC.ge hq).1);refine Ln ⟨qc,?_⟩;refine aX (pt p)<|aX (pt p)<|aX (pf p 19)<|gZ<|ji vw 19 (bK C (m.s.gn+1) A) fun EM CX Cr z6 => ?_;have xu:=gH Cr vw.ty;have⟨AZ,J3,LV,FZ,F3,H6,H7⟩:=TL xu CW JU FX BP FY HZ yY;have b16:=Cr.below b15 (m_ E b15.size) (by omega);refine Ln<|bS<|Bo (fun f F => ∃ k:Nat,k<=m.s.gn/\k=down (fun i=>DY v (m.g i)) m.s.gn/\f 0=(pt p)/\f 3=(pt G)/\f 10=(pt Q)/\f 11=au (k:Int)/\aP F m.tb 1 (fun _ => .slice m.ta m.tn m.tc) 156/\Fx.Own F B 153 2 (.slice m.ta (m.tn) (m.tc)) m.tn (RB m.t)/\xK F B 6 m/\aP F G 14 (bM v) 37/\Fx.Own F B 84 56 (.slice m.s.na (m.s.nn) (m.s.nc)) m.s.nn (flat 56 (fun l=>jW (m.id l) (m.par l) (Rk l)))/\aP F Q 5 (jc (qx v)) 106/\aP F p 27 (dB (mD m) 19 (bK C (m.s.gn+1) A)) 56/\Fx.Own F B 106 5 (bK C (m.s.gn+1) A) (m.s.gn+1) (flat 5 (Fx.K3 (fun l=>jc (m.g l)) (jc (qx v)) m.s.gn k))/\Below B w F) ?_ ?_
 ·refine Wb<|Wo (fun f F => ∃ k:Nat,k<=m.s.gn/\(∀ i,k<=i->i<m.s.gn->DY v (m.g i)=true)/\f 0=(pt p)/\f 3=(pt G)/\f 10=(pt Q)/\f 11=au (k:Int)/\aP F m.tb 1 (fun _ => .slice m.ta m.tn m.tc) 156/\Fx.Own F B 153 2 (.slice m.ta (m.tn) (m.tc)) m.tn (RB m.t)/\xK F B 6 m/\aP F G 14 (bM v) 37/\Fx.Own F B 84 56 (.slice m.s.na (m.s.nn) (m.s.nc)) m.s.nn (flat 56 (fun l=>jW (m.id l) (m.par l) (Rk l)))/\aP F Q 5 (jc (qx v)) 106/\aP F p 27 (dB (mD m) 19 (bK C (m.s.gn+1) A)) 56/\Fx.Own F B 106 5 (bK C (m.s.gn+1) A) (m.s.gn+1) (flat 5 (Fx.K3 (fun l=>jc (m.g l)) (jc (qx v)) m.s.gn k))/\Below B w F) (fun f _=>(intOf (f 11)).toNat) ⟨m.s.gn,by omega,(fun i Z O=>M_ Z (by omega)),Z,O,(by rfl),Fx.ic,AZ,J3,LV,FZ,F3,H6,CX,H7,b16⟩ ?_;rintro f3 I ⟨k,hk,hgt,P,h6,h7,J,CY,F4,CZ,Gb,F5,A8,C8,BQ,b17⟩;refine Ws<|Ws ?_;refine vV<|eG J ?_;by_cases c97:0<(k:Int)
  ·obtain⟨j,ej⟩ : ∃ j,k=j+1:=⟨k-1,by omega⟩;refine Qv aG (fun d b=>ni c97)<|aW aG<|eG P<|aW (pt p)<|aW (pt p)<|aW (pf p 19)<|Qv (bK C (m.s.gn+1) A) (fun d b=>aL (C8.aH.dr b) 19 (Fx.mE (by omega)))<|eG J<|Qv (au j) (fun d b=>gQ)<|Qv (pf C (5*j)) (fun d b=>dw 5)<|aW (pf C (5*j))<|Qv (au ((m.g j) 0)) (fun d b=>aL (BQ.aH.dr b) (5*j) (Fx.fU (k:=j) (j:=0) (by omega) (by omega) ((congrFun (Fx.Aj (by omega) (by omega)) 0).trans rfl)))<|Qv (pt Q) (fun d b=>iL h7 0)<|Qv (au v.o) (fun d b=>aL (A8.aH.dr b) 0) ?_;by_cases VE:v.o<((m.g j) 0)
   ·refine Qv aG (fun d b=>ni VE)<|aW aG<|aR<|aR<|aR<|aR<|aR<|aR<|aR<|aR<|aR<|aR<|aR<|aR<|aR<|aR<|aR<|aR<|aR<|aR<|aR<|aR<|aR<|aR<|aR ?_;refine aR<|aR<|aR<|aR<|aR<|aW aG<|aW aG<|Qn ?_;rintro _ ⟨N,rfl⟩;obtain⟨BM,nV⟩ : ∃ d,d=World.drewN I N:=⟨_,rfl⟩;rw[<- nV];have s15:Stp I.heap.size I BM:=(by rw[nV]; exact Sb (jA I N));have⟨JV,Vr,VF,Vs,Vt,aeg,Vu,adU⟩:=nO s15.old CY F4 CZ Gb F5 A8 C8 BQ;have b18:=eZ s15.old b17 E;clear nV;refine sN<|aM<|Wk<|sN<|Wb<|Ws ?_;refine kH [0,1,2,3,5,6,7,8,9,11,12,4,10,13,14,15,16] [0,0,0,0,4,0,0,0,0,0,4,0,0,0,4,0,3] [(16,4,[4]),(16,10,[10]),(16,14,[14])] fun wt4 rU Iy => ?_;have⟨Vv,RH,Vw,Vx,adV,adW,aeh,RI⟩:=nO rU JV Vr VF Vs Vt aeg Vu adU;have b19:=eZ rU b18 E;refine bZ P<|aX (pt p)<|aX (pt p)<|aX (pf p 19)<|bZ J<|bZ P<|aX (pt p)<|aX (pt p)<|aX (pf p 19)<|bZ J<|Rp (au j) (fun _=>gQ)<|Rs (bK C (m.s.gn+1) A) (aL aeh.aH 19 (Fx.mE (by omega))) ?_;refine Rs (bK C (m.s.gn+1) A) (aL aeh.aH 19 (Fx.mE (by omega))) ?_;refine Rp (pf C (5*j)) (fun _=>dw 5)<|Rs (.agg (aA 5 (jc (m.g j)))) (eT RI.aH (5*j) (fun X hjq=>(Fx.iq (k:=j) (by omega) hjq).trans (congrFun (Fx.Aj (by omega) (by omega)) X))) ?_;refine Rp (pf C (5*k)) (fun _=>dw 5)<|gZ<|AB RI (5*k) (h1:=(fun j _=>sH _ j)) fun Lp adX KC z7 => ?_;have Aa:=gH KC RI.KY;have⟨air,adY,adZ,aea,anN⟩:=rD Aa Vv RH Vw Vx adV;have anO:=adW.cZ KC (by omega);have anP:=jo Aa aeh;have b20:=KC.below b19 (m_ E b19.size) RI.blk.1;have anQ:Fx.Own Lp B 106 5 (bK C (m.s.gn+1) A) (m.s.gn+1) (flat 5 (Fx.K3 (fun l=>jc (m.g l)) (jc (qx v)) m.s.gn j)):=adX.congr (fun U S=>(Fx.vT (k:=k) (by omega) U S).trans (bI (fun i L q _=>Fx.zB ej (by omega) i L q) U S));refine Ln<|bS<|Wl<|aU J<|Lv (au j) gQ<|av (au j)<|Ln<|bP<|gW ⟨j,by omega,(L9 ej hgt (by unfold DY; rw[f_ VE]; rfl)),P,h6,h7,Fx.ic,air,adY,adZ,aea,anN,anO,anP,anQ,b20⟩ ?_;show(intOf (au j)).toNat<_;simp only[J,intOf]; omega
   refine Qv aF (fun d b=>nk VE)<|aW aF<|eG P<|aW (pt p)<|aW (pt p)<|aW (pf p 19)<|Qv (bK C (m.s.gn+1) A) (fun d b=>aL (C8.aH.dr b) 19 (Fx.mE (by omega)))<|eG J<|Qv (au j) (fun d b=>gQ)<|Qv (pf C (5*j)) (fun d b=>dw 5)<|aW (pf C (5*j))<|Qv (au ((m.g j) 0)) (fun d b=>aL (BQ.aH.dr b) (5*j) (Fx.fU (k:=j) (j:=0) (by omega) (by omega) ((congrFun (Fx.Aj (by omega) (by omega)) 0).trans rfl)))<|Qv (pt Q) (fun d b=>iL h7 0)<|Qv (au v.o) (fun d b=>aL (A8.aH.dr b) 0) ?_;by_cases Zl:((m.g j) 0)=v.o
   ·refine Qv aG (fun d b=>eH Zl)<|aW aG<|eG P<|aW (pt p)<|aW (pt p)<|aW (pf p 19)<|Qv (bK C (m.s.gn+1) A) (fun d b=>aL (C8.aH.dr b) 19 (Fx.mE (by omega)))<|eG J<|Qv (au j) (fun d b=>gQ)<|Qv (pf C (5*j)) (fun d b=>dw 5)<|aW (pf C (5*j+1))<|Qv (aD ((m.g j) 1)) (fun d b=>aL (BQ.aH.dr b) (5*j+1) (Fx.fU (k:=j) (j:=1) (by omega) (by omega) ((congrFun (Fx.Aj (by omega) (by omega)) 1).trans rfl)))<|Qv (pf Q 1) (fun d b=>iL h7 1)<|Qv (aD v.req) (fun d b=>aL (A8.aH.dr b) 1) ?_;by_cases c139:v.req<((m.g j) 1)
    ·refine Qv aG (fun d b=>ni c139)<|aW aG<|aW aG<|aW aG<|Qn ?_;rintro _ ⟨N,rfl⟩;obtain⟨wq2,um⟩ : ∃ d,d=World.drewN I N:=⟨_,rfl⟩;rw[<- um];have Nq:Stp I.heap.size I wq2:=(by rw[um]; exact Sb (jA I N));have⟨anR,anS,anT,anU,anV,anW,anX,anY⟩:=nO Nq.old CY F4 CZ Gb F5 A8 C8 BQ;have NU:=eZ Nq.old b17 E;clear um;refine sN<|aM<|Wk<|sN<|Wb<|Ws ?_;refine kH [0,1,2,3,5,6,7,8,9,11,12,4,10,13,14,15,16] [0,0,0,0,4,0,0,0,0,0,4,0,0,0,4,0,3] [(16,4,[4]),(16,10,[10]),(16,14,[14])] fun wt5 Ao Un => ?_;have⟨anZ,aoa,aob,aoc,aod,aoe,aei,Zm⟩:=nO Ao anR anS anT anU anV anW anX anY;have PL:=eZ Ao NU E;refine bZ P<|aX (pt p)<|aX (pt p)<|aX (pf p 19)<|bZ J<|bZ P<|aX (pt p)<|aX (pt p)<|aX (pf p 19)<|bZ J<|Rp (au j) (fun _=>gQ)<|Rs (bK C (m.s.gn+1) A) (aL aei.aH 19 (Fx.mE (by omega))) ?_;refine Rs (bK C (m.s.gn+1) A) (aL aei.aH 19 (Fx.mE (by omega))) ?_;refine Rp (pf C (5*j)) (fun _=>dw 5)<|Rs (.agg (aA 5 (jc (m.g j)))) (eT Zm.aH (5*j) (fun X hjq=>(Fx.iq (k:=j) (by omega) hjq).trans (congrFun (Fx.Aj (by omega) (by omega)) X))) ?_;refine Rp (pf C (5*k)) (fun _=>dw 5)<|gZ<|AB Zm (5*k) (h1:=(fun j _=>sH _ j)) fun w16 aof s20 z8 => ?_;have Ac:=gH s20 Zm.KY;have⟨aog,aoh,aoi,aoj,aok⟩:=rD Ac anZ aoa aob aoc aod;have aol:=aoe.cZ s20 (by omega);have aom:=jo Ac aei;have YN:=s20.below PL (m_ E PL.size) Zm.blk.1;have aon:Fx.Own w16 B 106 5 (bK C (m.s.gn+1) A) (m.s.gn+1) (flat 5 (Fx.K3 (fun l=>jc (m.g l)) (jc (qx v)) m.s.gn j)):=aof.congr (fun U S=>(Fx.vT (k:=k) (by omega) U S).trans (bI (fun i L q _=>Fx.zB ej (by omega) i L q) U S));refine Ln<|bS<|Wl<|aU J<|Lv (au j) gQ<|av (au j)<|Ln<|bP<|gW ⟨j,by omega,(L9 ej hgt (by unfold DY; rw[f_ Zl,f_ c139]; cases decide (v.o<m.g j 0) <;> rfl)),P,h6,h7,Fx.ic,aog,aoh,aoi,aoj,aok,aol,aom,aon,YN⟩ ?_
     show(intOf (au j)).toNat<_;simp only[J,intOf]; omega
    refine Qv aF (fun d b=>nk c139)<|aW aF<|aW aF<|aW aF<|Qn ?_;rintro _ ⟨N,rfl⟩;obtain⟨Yo,Bb⟩ : ∃ d,d=World.drewN I N:=⟨_,rfl⟩;rw[<- Bb];have s21:Stp I.heap.size I Yo:=(by rw[Bb]; exact Sb (jA I N));have⟨aoo,aop,aoq,aor,aos,aot,aou,aov⟩:=nO s21.old CY F4 CZ Gb F5 A8 C8 BQ;have YO:=eZ s21.old b17 E;clear Bb;refine sN<|aK<|Wx<|bX<|gP<|bY ?_;exact rT ⟨k,hk,(Fx.qo hk hgt (.inr (fun j2 e=>by rw[show j2=j by omega]; unfold DY; rw[g_ VE,g_ c139,I_]; rfl))),P,h6,h7,(J.trans Fx.ic),aoo,aop,aoq,aor,aos,aot,aou,aov,YO⟩
   refine Qv aF (fun d b=>fC Zl)<|aW aF<|aR<|aR<|aR<|aR<|aR<|aR<|aR<|aR<|aR<|aR<|aR<|aR<|aR<|aW aF<|aW aF<|aW aF<|Qn ?_;rintro _ ⟨N,rfl⟩;obtain⟨wq4,Gc⟩ : ∃ d,d=World.drewN I N:=⟨_,rfl⟩;rw[<- Gc];have s22:Stp I.heap.size I wq4:=(by rw[Gc]; exact Sb (jA I N));have⟨aow,aox,aoy,aoz,aoA,aoB,aoC,aoD⟩:=nO s22.old CY F4 CZ Gb F5 A8 C8 BQ;have b25:=eZ s22.old b17 E;clear Gc;refine sN<|aK<|Wx<|bX<|gP<|bY ?_;exact rT ⟨k,hk,(Fx.qo hk hgt (.inr (fun j2 e=>by rw[show j2=j by omega]; unfold DY; rw[g_ VE,g_ Zl]; rfl))),P,h6,h7,(J.trans Fx.ic),aow,aox,aoy,aoz,aoA,aoB,aoC,aoD,b25⟩
  refine Qv aF (fun d b=>nk c97)<|aW aF<|aR<|aR<|aR<|aR<|aR<|aR<|aR<|aR<|aR<|aR<|aR<|aR<|aR<|aR<|aR<|aR<|aR<|aR<|aR<|aR<|aR<|aR<|aR ?_;refine aR<|aR<|aR<|aR<|aR<|aR<|aR<|aR<|aR<|aR<|aR<|aR<|aR<|aR<|aR<|aR<|aR<|aR<|aR<|aR<|aW aF<|Qn ?_;rintro _ ⟨N,rfl⟩;obtain⟨wq5,Oi⟩ : ∃ d,d=World.drewN I N:=⟨_,rfl⟩;rw[<- Oi];have s23:Stp I.heap.size I wq5:=by rw[Oi]; exact Sb (jA I N)
  have⟨aoE,aoF,aoG,aoH,aoI,aoJ,aoK,aoL⟩:=nO s23.old CY F4 CZ Gb F5 A8 C8 BQ;have b26:=eZ s23.old b17 E;clear Oi;refine sN<|aK<|Wx<|bX<|gP<|bY ?_;exact rT ⟨k,hk,(Fx.qo hk hgt (.inl (by omega))),P,h6,h7,(J.trans Fx.ic),aoE,aoF,aoG,aoH,aoI,aoJ,aoK,aoL,b26⟩
 rintro f4 Ur ⟨k,hk,ek,h9,h10,h11,h12,aoM,aoN,aoO,aoP,aoQ,aoR,aoS,aoT,b27⟩;refine Ws ?_;refine kH [0,1,2,3,5,4,6,7,8] [0,0,0,0,4,0,4,0,3] [(8,4,[4]),(8,6,[6])] fun wt6 Lr ahN => ?_;have⟨aoU,aoV,aoW,aoX,aoY,aiB,aiC,aej⟩:=nO Lr aoM aoN aoO aoP aoQ aoR aoS aoT;have b28:=eZ Lr b27 E;refine bZ h9<|aX (pt p)<|aX (pt p)<|aX (pf p 19)<|bZ h12<|Rs (bK C (m.s.gn+1) A) (aL aiC.aH 19 (Fx.mE (by omega))) ?_;refine Rs (.agg (aA 5 (jc (qx v)))) (eT aiB.aH 0 (ha:=h11)) ?_;refine Rp (pf C (5*k)) (fun _=>dw 5)<|gZ<|AB aej (5*k) (h1:=(fun j _=>sH _ j)) fun Ut aoZ s25 z9 => ?_;have BO:=gH s25 aej.KY;have⟨apa,apb,aiD,apc,apd⟩:=rD BO aoU aoV aoW aoX aoY;have ape:=aiB.cZ s25 (by omega);have apf:=jo BO aiC;have b29:=s25.below b28 (m_ E b28.size) aej.blk.1;have apg:Fx.Own Ut B 106 5 (bK C (m.s.gn+1) A) (m.s.gn+1) (flat 5 (Fx.JA (fun l=>jc (m.g l)) k (jc (qx v)))):=aoZ.congr (fun U S=>(Fx.vT (k:=k) (by omega) U S).trans (bI (fun i L q _=>Fx.uL (by omega) i L q) U S));refine Ln<|bS<|Ws ?_;have aph:Fx.Own Ut B 23 1 (.slice (m.ra a) (m.rn a) (m.rc a)) (m.rn a) (rv .u64 (m.rq a)):=aiD.1 a ha;have bra:=M.br a ha;refine zX [0,1,4,5,8,9,12,16,17,2,3,6,7,10,11,13,14,15,18,19] [0,0,1,0,0,0,1,0,0,0,0,1,0,4,2,2,0,0,0,3] (iF [23]) vI Fx.iF.trans (fJ := [(19,2,[2]),(19,6,[6]),(19,11,[11]),(14,13,[13]),(15,13,[14,13]),(19,13,[13]),(15,14,[14]),(18,14,[14]),(19,14,[14]),(18,15,[15]),(19,15,[15])]) (by kernel_rfl) (by kernel_rfl) (by kernel_rfl) (by kernel_rfl) (by kernel_rfl) fun wt7 Ls ahO => ?_;have⟨aiE,apj,apk,Zn,apl,apm,aek,aiF,aiG⟩:=Cw Ls apa apb aiD apc apd ape apf apg aph;have b30:=eZ Ls b29 E;refine bZ h9<|Rp (pt G) (fun _=>iL h10 0)<|bZ h9<|Rp (pt G) (fun _=>iL h10 0)<|aX (pt p)<|aX (pf p 21)<|Rp (pf G 12) (fun _=>iL h10 12)<|aX (pt p)<|aX (pf p 21)<|Rd (v:=au v.o) (by rfl) (by rfl) (vI _) (fun d b=>bA (x:=bM v) rfl rfl (by kernel_rfl) (Zn.lu b (by decide)).aH (i:=0) (by omega) (by omega) rfl) ?_;refine Rp (au a) (fun _=>gQ)<|Rd (v:=au v.o) (by rfl) (by rfl) (vI _) (fun d b=>bA (x:=bM v) rfl rfl (by kernel_rfl) (Zn.lu b (by decide)).aH (i:=0) (by omega) (by omega) rfl) ?_;refine Rp (au a) (fun _=>gQ)<|Rp (pf p (a+21)) (fun _=>jJ 6 1)<|Rd (v := .slice (m.ra a) (m.rn a) (m.rc a)) (by rfl) (by rfl) (vI _) (fun d b=>bA (x:=dB (mD m) 19 (bK C (m.s.gn+1) A)) rfl rfl (by kernel_rfl) (aek.lu b (by decide)).aH (i:=a+21) (by omega) (by omega) (Fx.Bu (by omega) (xJ _ (by omega)))) ?_;refine Rs (aD v.req) (aL Zn.aH 12) ?_;refine zD<|wV (vs := [(0,aD v.req)]) (s:=1) (zc:=rv .u64 (fun _=>0)) (y:=bB (fun j=>(rv .u64 (fun _=>0)) (j % 1)) (0*1) 1 (fun _=>aD v.req)) (by rfl) rfl rfl Tryz.underlying53 (by kernel_rfl) (by rfl) (by rfl) (by kernel_rfl) (by rw[aZ (off:=0*1) (s:=1) (y:=fun _=>aD v.req) rfl (cells_one (by rfl)) (by rfl)]; rfl) rfl fun g6 w19 eg6 aiH s27 z10 => ?_;have⟨apn,apo,apq,apr,aps,apt,aem⟩:=jT s27.old aiE apj apk apl aek aiF aiG;have b31:=eZ s27.old b30 E;have lg6:=iw eg6 b30.size;have⟨aln,alo,alp,alq,alr⟩:=AL eg6 aiE.lt Zn.lt apm.lt aek.lt aiF.lt;have als:(.slice (m.ra a) (m.rn a) (m.rc a):Value).ownBlock≠some g6:=by rw[eg6]; exact aiG.jF (A_ _)
 have tg6:=aiH.lt;refine Ln ⟨Fx.iF.of_below s27.old,?_⟩;refine zD<|yc (B:=B) (s:=1) (bytes:=8) (k:=(m.rn a)) (m:=1) (v := .slice (m.ra a) (m.rn a) (m.rc a)) (x:=rv .u64 (m.rq a)) (by rfl) rfl rfl rfl Tryz.underlying53 (by kernel_rfl) (by kernel_rfl) rfl rfl aem aiH.aH (uT (fun _=>rfl)) (by omega) (by omega) (by omega) (m_ E b31.size) fun g7 cap2 Uw ho2 hg2 NZ hlt2 => ?_;have FV:=yC hg2 aem;have⟨apu,apv,apw,aiI,apx⟩:=rD FV apn apo apr aps apt;have apy:Fx.Own Uw B 23 1 (.slice (some ⟨g7,0,none⟩) ((m.rn a)+1) cap2) ((m.rn a)+1) (rv .u64 (aI (m.rq a) (m.rn a) v.req)):=(ho2.congr (fun j hj=>Qe j hj));have b32:Below B w Uw:=xZ b31 hg2 (m_ E b31.size) (fun q hq=>(aem.ge hq).1);have apz:xK Uw B 6 { m with ra:=aI m.ra a (some ⟨g7,0,none⟩),rn:=aI m.rn a (m.rn a+1),rc:=aI m.rc a cap2,rq:=aI m.rq a (aI (m.rq a) (m.rn a) v.req) }:=xK.app apq ha rfl rfl rfl rfl apy hg2 NZ;refine Ln ⟨FV,?_⟩;refine Rp (pf p (a+21)) (fun _=>jJ 6 1)<|gZ<|ji aiI (a+21) (.slice (some ⟨g7,0,none⟩) ((m.rn a)+1) (cap2)) fun w21 apA s28 z11 => ?_;have aen:=gH s28 aiI.ty;have⟨apB,apC,apD,apE,apF⟩:=rD aen apu apv apw apx apz;have b33:=s28.below b32 (m_ E b32.size) (by omega);refine Ln<|bS<|ay<|av (au 0)<|aC<|Wr<|aJ (au 0) ?_;have eN:aN v=a:=by unfold aN; omega
 have ne1 : ¬ 0<=m.core.lU (aN v) v.req:=by rw[eN]; exact j_ c17
 have ne2 : ¬ fB m.core.t m.core.tn v.node=0:=fun e=>c27 (by rw[show K=0 from Yp.trans e]; rfl);have ew:nW m.core v=dz (fun x=>bG x v.o v.aT) (pG m.core v.node) m.R K:=by unfold nW; rw[show fB m.core.t m.core.tn v.node=K from Yp.symm]; rfl
 have V:jv m.core v=0:=by unfold jv; rw[b_ ne1,b_ ne2,ew,hRK]
 have eW:nW m.core v=(Rk,0):=ew.trans hRK;have apG:Fx.Own w21 B 106 5 (bK C (m.s.gn+1) A) (m.s.gn+1) (flat 5 fun l=>jc (cO m.g k (qx v) l)):=by rw[<- Zd]; exact apE
 refine⟨oL V.symm,b33,fun _=>⟨{ m with s := { m.s with ga:=some ⟨C,0,none⟩,gn:=m.s.gn+1,gc:=A },R:=Rk,g:=cO m.g k (qx v),ra:=aI m.ra a (some ⟨g7,0,none⟩),rn:=aI m.rn a (m.rn a+1),rc:=aI m.rc a cap2,rq:=aI m.rq a (aI (m.rq a) (m.rn a) v.req) },?_,?_⟩⟩
 ·unfold mW rO; rw[eW,eN]; rw[show down (fun i=>DY v (m.core.g i)) m.core.gn=k from ek.symm]; rfl
 exact { c:=apA.to ((L_ (fun z=>dB z (a+21) _) (Oa m _ _ _)).trans (LX _ rfl _ _ _)),n:=apD,g:=apG,tc:=apB,t:=apC,r:=apF,pB:=Vq,tB:=Et,bn:=bn,bg:=(by show m.s.gn+1<=1000000; omega),bt:=bt,br:=(fun i L=>by show aI m.rn a (m.rn a+1) i<=1000000; have:=brr i L; have:=brr a ha; unfold aI; split <;> omega) }
namespace Rt
def yZ(L:dP)(v:EvM):Nat:=(L.grant v.o v.of).toNat
def mX(L:dP)(v:EvM):(Nat->Nat->Int) × Int:=dz (fun x=>bH x v.o (L.g (yZ L v) 3)) (pG L (L.g (yZ L v) 2)) L.R (fB L.t L.tn (L.g (yZ L v) 2))
def jd(L:dP)(v:EvM):Int:=if 0<=L.lU (aN v) v.req then 14 else if L.grant v.o v.of<0\/L.g (yZ L v) 4≠0 then 12 else(mX L v).2
def kX(L:dP)(v:EvM):dP:=rO { L with R:=(mX L v).1,g:=aI L.g (yZ L v) (aI (L.g (yZ L v)) 4 v.req) } (aN v) v.req
theorem VG{m:mo}{o r:Int}(h : ¬ m.grant o r<0) : ∃ q:Nat,q<m.s.gn/\m.grant o r=(q:Int)/\m.g q 0=o/\m.g q 1=r:=by
 rcases iR (fun i=>decide (m.g i 0=o)&&decide (m.g i 1=r)) m.s.gn with ⟨q,b,e,a⟩|⟨e,_⟩
 ·rw[T_]at a;exact⟨q,b,e,h_ a.1,h_ a.2⟩
 unfold mo.grant at h; omega
theorem RV{n q:Nat}{g:Nat->Nat->Int}{r:Int} : ∀ i,i<n -> ∀ j,j<5->Fx.rz (fun a=>jc (g a)) q (dB (jc (g q)) 4 (aD r)) i j=jc (aI g q (aI (g q) 4 r) i) j:=fun i _ j b=>by
 unfold Fx.rz;by_cases h:i=q
 ·subst h;rw[d_ rfl];unfold aI dB jc;rw[d_ rfl]
  rcases j with _|_|_|_|_|j <;> first|rfl|omega
 ·rw[b_ h]; unfold aI; rw[b_ h]
end Rt
set_option maxRecDepth 20000 in
set_option maxHeartbeats 2000000 in
theorem Zo(m:mo)(B p a:Nat)(v:EvM)(w:World)(F:uh w B p m)(A:B<=w.heap.size)(ha:a<6)(ho:v.o=(a:Int)+1)(bgg:m.s.gn<=900000)(brr : ∀ i,i<6->m.rn i<=900000)(hTN : ∀ x,m.node x=bC m.t m.tn x)(hDx : ∀ x,∃ D,D<=1000/\bC m.t m.tn (bF m.t m.tn D x)<0) :
 Calls Tryz.prog 126 #[(pt p),.agg (aA 14 (bM v))] w fun e w'=>e = .returned (au (jd m.core v))/\Below B w w'/\(jd m.core v=0 -> ∃ m',m'.core=kX m.core v/\uh w' B p m'):=by
 have Vo:=F.c;have hLn:=F.n;have hLg:=F.g;have SY:=F.tc;have Vp:=F.t;have hLr:=F.r;have Vq:=F.pB;have Et:=F.tB;have bn:=F.bn;have bg:=F.bg;have bt:=F.bt;have lpp:p<w.heap.size:=Vo.lt;have SQ:m.tb<w.heap.size:=SY.lt;refine Kent Tryz.func126 128 ?_;refine ay<|oz fun E w1 kQ m1 s1 z1 => ?_;have⟨m2,m3,m4,m5,m6,m7⟩:=oJ s1.old Vo hLn hLg SY Vp hLr;have b1:=eZ s1.old (Below.refl B w) A;have rF:=iw kQ (Below.refl B w).size;have⟨ny,yA⟩:=sF kQ Vo.lt SY.lt;have sQ:=m1.lt;refine av (au 0)<|aC<|Ws<|ay<|av (pt p)<|av (pt E)<|Lv (au v.o) (aL m1.aH 0)<|av (pf E 12)<|Lv (aD v.req) (aL m1.aH 12) ?_;have Oe:CQ w1 p m := { c:=m2.aH,an:=m3.arr,ag:=m4.arr,tc:=m5.aH,at2:=m6.arr,ar:=fun i J=>(m7.1 i J).arr,bn:=(by show m.s.nn<=1000000; omega),bg:=bg,bt:=(by show m.tn<=1000000; omega),br:=F.br };by_cases S:(decide (0<=m.lU a v.req))=true
 ·refine dH (BU m p a v.o v.req _ Oe ha ho) aG (by rw[S]) ?_;intro w2 hb1;have b2:=eZ hb1 b1 A;refine aC<|aM<|ay<|av (au 14)<|aC<|Wr<|sR<|aJ (au 14) ?_;have L:aN v=a:=by unfold aN; omega
  have H:jd m.core v=14:=by unfold jd; rw[L]; exact d_ (h_ S)
  exact⟨oL H.symm,b2,fun M=>by rw[H]at M; cases M⟩
 rw[U_]at S;refine dH (BU m p a v.o v.req _ Oe ha ho) aF (by rw[S]) ?_;intro w3 hb2;have⟨m15,m16,m17,m18,m19,m20,m21⟩:=jT hb2 m2 m3 m4 m5 m6 m7 m1;have b3:=eZ hb2 b1 A;refine aC<|aK<|Wk<|sN<|ay<|av (pt p)<|av (pt E)<|Lv (au v.o) (aL m21.aH 0)<|av (pf E 13)<|Lv (aD v.of) (aL m21.aH 13) ?_;have VD:CQ w3 p m := { c:=m15.aH,an:=m16.arr,ag:=m17.arr,tc:=m18.aH,at2:=m19.arr,ar:=fun i J=>(m20.1 i J).arr,bn:=(by show m.s.nn<=1000000; omega),bg:=bg,bt:=(by show m.tn<=1000000; omega),br:=F.br };refine dH (Y2 m p v.o v.of _ VD) _ rfl ?_;intro w4 hb3;have⟨m22,m23,m24,mZ,nQ,nH,og⟩:=jT hb3 m15 m16 m17 m18 m19 m20 m21;have b4:=eZ hb3 b3 A;refine av (au (m.grant v.o v.of))<|aC<|Ws<|ay<|av (au (m.grant v.o v.of)) ?_;by_cases aa:(m.grant v.o v.of)<0
 ·refine Lv aG (gM aa)<|av aG<|bO<|bO<|bO<|bO<|bO<|bO<|bO<|bO<|bO<|bO<|av aG<|aC<|aM<|ay<|av (au 12)<|aC<|Wr<|sR<|aJ (au 12) ?_;have L:aN v=a:=by unfold aN; omega
  have Y : ¬ 0<=m.core.lU (aN v) v.req:=by rw[L]; exact j_ S
  have H:jd m.core v=12:=by unfold jd; rw[b_ Y]; exact d_ (.inl aa)
  exact⟨oL H.symm,b4,fun M=>by rw[H]at M; cases M⟩
 obtain⟨b,hkg,ekg,_,_⟩:=VG aa;have ab:yZ m.core v=b:=by show(m.grant v.o v.of).toNat=b; rw[ekg]; rfl
 refine Lv aF (gN aa)<|av aF<|av (pt p)<|av (pt p)<|av (pt p)<|av (pf p 19)<|Lv (.slice m.s.ga (m.s.gn) (m.s.gc)) (aL m22.aH 19)<|aU (L_ (Value.int .i64) ekg) ?_;obtain⟨af,eq1⟩:=m24.addr (by omega);have oh:Fx.Own w4 B 106 5 (bK af m.s.gn m.s.gc) m.s.gn (JO m):=m24.eY (L_ (fun q=>Value.slice q m.s.gn m.s.gc) eq1);refine Lv (pf af (5*b)) (dw 5 (hx:=(rfl.trans (L_ (fun q=>Value.slice q (m.s.gn) (m.s.gc)) eq1))))<|av (pf af (5*b+4))<|Lv (aD ((m.g b) 4)) (aL oh.aH (5*b+4) (Fx.fU (k:=b) (j:=4) (by omega) (by omega) rfl)) ?_;by_cases ae:((m.g b) 4)=0
 ·refine Lv aF (jG ae)<|av aF<|aC<|aK<|Wk<|sN<|Ws ?_;obtain⟨D,hD2,hD⟩:=hDx (m.g b 2);refine kH [0,1,2,4,5,6,7,9,3,8,10,11,12,13,14] [0,0,0,4,0,0,0,0,4,0,0,0,4,3,0] [(13,3,[3]),(13,8,[12,11,10,8]),(13,12,[12]),(14,13,[13])] fun rE dR iK => ?_;have⟨oD,lI,m32,pE,nR,pF,nS⟩:=jT dR m22 m23 mZ nQ nH og oh;have b5:=eZ dR b4 A;refine aX (pt p)<|aX (pt p)<|aX (pf p 20)<|aX (pt p)<|aX (pt p)<|aX (pt p)<|aX (pf p 19)<|bZ (L_ (Value.int .i64) ekg)<|Rs (pt m.tb) (aL oD.aH 20) ?_;refine Rs (.slice m.s.ga (m.s.gn) (m.s.gc)) (aL oD.aH 19) ?_;refine Rp (pf af (5*b)) (fun _=>dw 5 (hx:=(rfl.trans (L_ (fun q=>Value.slice q (m.s.gn) (m.s.gc)) eq1))))<|aX (pf af (5*b+2))<|Rs (aD ((m.g b) 2)) (aL nS.aH (5*b+2) (Fx.fU (k:=b) (j:=2) (by omega) (by omega) rfl)) ?_;refine gZ<|lD (JQ m.tb m.ta m.tn m.tc m.t (m.g b 2) D _ (uS m32 pE bt) hD hD2) ?_;rintro e w5 ⟨K,vv,he,hown,tX,hK1,hb4⟩;obtain⟨Z,C,rfl⟩:=hown.val;refine⟨.slice Z K C,he,?_⟩;clear he;have Yp:K=fB m.t m.tn (m.g b 2):=wD tX hK1 hD hD2;have hKD:K<=1000:=by rw[Yp]; exact JY _ _
  have⟨qW,qB,pK,sS,mh,lM,mH⟩:=jT hb4 oD lI m32 pE nR pF nS;have b6:=eZ hb4 b5 A;refine Ln<|aX (.slice Z (K) (C))<|bS<|Ws<|ay<|av (au 0)<|aC<|Wb ?_;have qg:Fx.Own w5 B 106 5 (.slice m.s.ga (m.s.gn) (m.s.gc)) m.s.gn (JO m):=mH.eY (L_ (fun q=>Value.slice q m.s.gn m.s.gc) eq1.symm);refine Wo (fun f Q => ∃ k:Nat,∃ Rk:Nat->Nat->Int,k<=K/\dz (fun x=>bH x v.o (m.g b 3)) (pG m.core (m.g b 2)) m.R k=(Rk,0)/\f 0=(pt p)/\f 3=(pt E)/\f 6 = .slice Z (K) (C)/\f 7=au (k:Int)/\f 5=au (b:Int)/\aP Q p 27 (mD m) 56/\aP Q m.tb 1 (fun _ => .slice m.ta m.tn m.tc) 156/\Fx.Own Q B 153 2 (.slice m.ta (m.tn) (m.tc)) m.tn (RB m.t)/\xK Q B 6 m/\aP Q E 14 (bM v) 37/\Fx.Own Q B 106 5 (.slice m.s.ga (m.s.gn) (m.s.gc)) m.s.gn (JO m)/\Fx.Own Q rE.heap.size 23 1 (.slice Z (K) (C)) K (rv .u64 (fun i=>bF m.t m.tn i (m.g b 2)))/\Fx.Own Q B 84 56 (.slice m.s.na (m.s.nn) (m.s.nc)) m.s.nn (flat 56 (fun l=>jW (m.id l) (m.par l) (Rk l)))/\Below B w Q) (fun f _=>(K-(intOf (f 7)).toNat)) ⟨0,m.R,by omega,rfl,(by rfl),(by rfl),(by rfl),Fx.ic,((L_ (Value.int .i64) ekg).trans Fx.ic),qW,pK,sS,mh,lM,qg,hown,qB,b6⟩ ?_;rintro f1 w6 ⟨k,Rk,hk,hRk,W,O,h3,h4,h5,qh,om,rW,wh,uD,qX,vJ,uZ,b7⟩;refine Ws<|ay<|aU h4<|aU h3<|av (au K) ?_;by_cases c54:(k:Int)<(K:Int)
  ·refine Lv aG (gM c54)<|aC<|aM<|Wk<|sN<|Ws<|Wb<|Ws ?_;obtain⟨q,hq,eq0,_⟩:=BS (m:=m) (x:=bF m.t m.tn k (m.g b 2)) (by rw[hTN]; exact tX k (by omega));have ex1:pG m.core (m.g b 2) k=q:=(by show(fK (fun i=>decide (m.id i=bF m.t m.tn k (m.g b 2))) m.s.nn).toNat=q; rw[eq0]; rfl);refine Wl<|aU W<|aU h3<|aU h4 ?_;obtain⟨Oj,Ev⟩:=vJ.addr (by omega);have uE:Fx.Own w6 rE.heap.size 23 1 (bK Oj K C) K (rv .u64 (fun i=>bF m.t m.tn i (m.g b 2))):=vJ.eY (L_ (fun q=>Value.slice q K C) Ev);refine Lv (pf Oj k) (dw 1 (hx:=(rfl.trans (L_ (fun q=>Value.slice q (K) (C)) Ev))))<|Lv (aD ((fun i=>bF m.t m.tn i (m.g b 2)) k)) (aL uE.aH k) ?_;have wm:Fx.Own w6 rE.heap.size 23 1 (.slice Z (K) (C)) K (rv .u64 (fun i=>bF m.t m.tn i (m.g b 2))):=uE.eY (L_ (fun q=>Value.slice q K C) Ev.symm);have apH:CQ w6 p { m with R:=Rk } := { c:=qh.aH,an:=uZ.arr,ag:=qX.arr,tc:=om.aH,at2:=rW.arr,ar:=fun i J=>(wh.1 i J).arr,bn:=(by show m.s.nn<=1000000; omega),bg:=bg,bt:=(by show m.tn<=1000000; omega),br:=F.br };refine dH ((FU { m with R:=Rk } p (bF m.t m.tn k (m.g b 2)) _ apH).mono (fun e w2 O=>(⟨O.1.trans (oL eq0),O.2⟩:e = .returned (au (q:Int))/\_))) _ rfl ?_;intro w7 hb5;have⟨ad,tQ,tT,uF,yD,rG,vK,pz⟩:=nO hb5 qh om rW wh uD qX uZ wm;have b8:=eZ hb5 b7 A;refine av (au q)<|aC<|Ws ?_;obtain⟨N,Qf⟩:=vK.addr (by omega);have uI:Fx.Own w7 B 84 56 (bK N m.s.nn m.s.nc) m.s.nn (flat 56 (fun l=>jW (m.id l) (m.par l) (Rk l))):=vK.eY (L_ (fun q=>Value.slice q m.s.nn m.s.nc) Qf);obtain⟨ac,eq4⟩:=rG.addr (by omega);have m64:Fx.Own w7 B 106 5 (bK ac m.s.gn m.s.gc) m.s.gn (JO m):=rG.eY (L_ (fun q=>Value.slice q m.s.gn m.s.gc) eq4);refine qZ (T:=82) (T':=82) (a := .tmp 9) (v := .tmp 85) (m:=54) (z:=rv .i64 (fun _=>0)) (y:=rv .i64 ((bH (Rk q) v.o ((m.g b) 3)).1)) (u := .agg (aA 54 (rv .i64 ((bH (Rk q) v.o ((m.g b) 3)).1)))) 24 25 (List.replicate 27 (0,2,[],[])) #[(pt p),(pt p),(pt p),(pf p 18),.slice m.s.na (m.s.nn) (m.s.nc),au (q:Int),(pf N (56*q)),(pf N (56*q+2)),.agg (aA 54 (rv .i64 (Rk q))),(pt E),au v.o,(pt p),(pt p),(pt p),(pf p 19),.slice m.s.ga (m.s.gn) (m.s.gc),au (b:Int),(pf ac (5*b)),(pf ac (5*b+3)),au ((m.g b) 3),.tuple #[.agg (aA 54 (rv .i64 ((bH (Rk q) v.o ((m.g b) 3)).1))),au ((bH (Rk q) v.o ((m.g b) 3)).2)],.tuple #[.agg (aA 54 (rv .i64 ((bH (Rk q) v.o ((m.g b) 3)).1))),au ((bH (Rk q) v.o ((m.g b) 3)).2)],.agg (aA 54 (rv .i64 ((bH (Rk q) v.o ((m.g b) 3)).1))),au ((bH (Rk q) v.o ((m.g b) 3)).2),undef,undef,au ((bH (Rk q) v.o ((m.g b) 3)).2)] (by kernel_rfl) (by kernel_rfl) (by kernel_rfl) (by kernel_rfl) (by kernel_rfl) (by kernel_rfl) rfl (by kernel_rfl) rfl rfl (by kernel_rfl) (fun I=>(show ev _ (.tmp 9)=(pt I)from by kernel_rfl)) (fun I=>(show ev _ (.tmp 85) = .agg (aA 54 (rv .i64 ((bH (Rk q) v.o ((m.g b) 3)).1)))from by kernel_rfl)) (bE _ _) (fun _ _=>rfl) (by kernel_rfl) (fun I => ?_) ?_
   ·refine⟨?_,?_,?_,?_,?_,?_,?_,?_,?_,?_,?_,?_,?_,?_,?_,?_,?_,?_,?_,?_,?_,?_,?_,?_,?_,?_,?_,trivial⟩
    ·exact .inr (.inr (uH (pt p) fun G d=>fG rfl ((bW (by kernel_rfl)).trans W)))
    ·exact .inr (.inr qV)
    ·exact .inr (.inr qV)
    ·exact .inr (.inr qV)
    ·exact .inr (.inr (uH (.slice m.s.na (m.s.nn) (m.s.nc)) fun G d=>bA (x:=mD m) rfl (show ev _ (.tmp 67)=(pf p 18)from by kernel_rfl) (by kernel_rfl) (ad.aH.below d (by have:=ad.lt; omega)) (i:=18) (by omega) (by omega) rfl))
    ·exact .inr (.inr qV)
    ·exact .inr (.inr (uH (pf N (56*q)) fun G d=>dO rfl ((show ev _ (.tmp 68) = .slice m.s.na (m.s.nn) (m.s.nc)from by kernel_rfl).trans (L_ (fun q=>Value.slice q (m.s.nn) (m.s.nc)) Qf)) (show ev _ (.tmp 69)=au (q:Int)from by kernel_rfl) Tryz.underlying47 (s:=56) (by kernel_rfl) (by omega) (by omega) (by omega)))
    ·exact .inr (.inr qV)
    ·exact .inr (.inr (uH (.agg (aA 54 (rv .i64 (Rk q)))) fun G d=>dQ (x:=flat 56 (fun l=>jW (m.id l) (m.par l) (Rk l))) (y:=rv .i64 (Rk q)) rfl (show ev _ (.tmp 71)=(pf N (56*q+2))from by kernel_rfl) (by kernel_rfl) (by kernel_rfl) (uI.aH.below d (by have:=uI.lt; omega)) (i:=56*q+2) (by omega) (by omega) (fun jq hjq=>(Fx.iq (k:=q) (j:=2+jq) (by omega) (by omega)).trans ((fun jq _=>BN _ _ _ jq) jq hjq))))
    ·exact .inr (.inr (uH (pt E) fun G d=>fO rfl ((bW (by kernel_rfl)).trans O) Tryz.underlying37 rfl (s:=1) (by kernel_rfl) rfl rfl))
    ·exact .inr (.inr (uH (au v.o) fun G d=>bA (x:=bM v) rfl (show ev _ (.tmp 73)=(pt E)from by kernel_rfl) (by kernel_rfl) (yD.aH.below d (by have:=yD.lt; omega)) (i:=0) (by omega) (by omega) rfl))
    ·exact .inr (.inr (uH (pt p) fun G d=>fG rfl ((bW (by kernel_rfl)).trans W)))
    ·exact .inr (.inr qV)
    ·exact .inr (.inr qV)
    ·exact .inr (.inr qV)
    ·exact .inr (.inr (uH (.slice m.s.ga (m.s.gn) (m.s.gc)) fun G d=>bA (x:=mD m) rfl (show ev _ (.tmp 78)=(pf p 19)from by kernel_rfl) (by kernel_rfl) (ad.aH.below d (by have:=ad.lt; omega)) (i:=19) (by omega) (by omega) rfl))
    ·exact .inr (.inr (uH (au b) fun G d=>fG rfl ((bW (by kernel_rfl)).trans h5)))
    ·exact .inr (.inr (uH (pf ac (5*b)) fun G d=>dO rfl ((show ev _ (.tmp 79) = .slice m.s.ga (m.s.gn) (m.s.gc)from by kernel_rfl).trans (L_ (fun q=>Value.slice q (m.s.gn) (m.s.gc)) eq4)) (show ev _ (.tmp 80)=au (b:Int)from by kernel_rfl) Tryz.underlying48 (s:=5) (by kernel_rfl) (by omega) (by omega) (by omega)))
    ·exact .inr (.inr qV)
    ·exact .inr (.inr (uH (au ((m.g b) 3)) fun G d=>bA (x:=JO m) rfl (show ev _ (.tmp 82)=(pf ac (5*b+3))from by kernel_rfl) (by kernel_rfl) (m64.aH.below d (by have:=m64.lt; omega)) (i:=5*b+3) (by omega) (by omega) (Fx.fU (k:=b) (j:=3) (by omega) (by omega) rfl)))
    ·exact .inr (.inr (Fx.Jv (v := .tuple #[.agg (aA 54 (rv .i64 ((bH (Rk q) v.o ((m.g b) 3)).1))),au ((bH (Rk q) v.o ((m.g b) 3)).2)]) (by kernel_rfl) (by kernel_rfl) (Fx.qbC (fun G d=>rC (args := [.agg (aA 54 (rv .i64 (Rk q))),au v.o,au ((m.g b) 3)]) rfl (Fx.Pm (show ev _ (.tmp 72) = .agg (aA 54 (rv .i64 (Rk q)))from by kernel_rfl) (show ev _ (.tmp 74)=au v.o from by kernel_rfl) (show ev _ (.tmp 83)=au ((m.g b) 3)from by kernel_rfl)) Tryz.func161 rfl rfl) (fun G d=>(Zf (Rk q) v.o ((m.g b) 3) _).mono fun e v2 h=>⟨h.1,h.2⟩))))
    ·exact .inr (.inr qV)
    ·exact .inr (.inr qV)
    ·exact .inr (.inr qV)
    ·exact .inl rfl
    ·exact .inr (.inl rfl)
    exact .inr (.inr qV)
   rintro I w8 U P X xw hb6;have aeo:p≠I:=u_ (n_ (ad.lt) X);have aep:m.tb≠I:=u_ (n_ (tQ.lt) X);have aer:E≠I:=u_ (n_ (yD.lt) X);have aes:N≠I:=u_ (n_ (uI.lt) X);have apI:ac≠I:=u_ (n_ (m64.lt) X);have⟨wN,vL,xA,tV,vM,uP,vN,vO⟩:=nO hb6 ad tQ tT uF yD pz uI m64;have b9:=eZ hb6 b8 A;have X:w.heap.size<=I:=m_ b8.size X;have yu:=xw.lt;have q1:U 0=(pt p):=(by rw[P]; exact(bW (by kernel_rfl)).trans W);have q2:U 3=(pt E):=(by rw[P]; exact(bW (by kernel_rfl)).trans O);have q3:U 6 = .slice Z (K) (C):=(by rw[P]; exact(bW (by kernel_rfl)).trans h3);have q4:U 7=au (k:Int):=(by rw[P]; exact(bW (by kernel_rfl)).trans h4);have q5:U 5=au (b:Int):=(by rw[P]; exact(bW (by kernel_rfl)).trans h5);have q16:U 8=au (q:Int):=(by rw[P]; kernel_rfl);have q41:U 9=(pt I):=(by rw[P]; kernel_rfl);have q42:U 10=au ((bH (Rk q) v.o ((m.g b) 3)).2):=(by rw[P]; kernel_rfl);clear P;refine sN<|Ws<|ay<|aU q42 ?_;by_cases V:((bH (Rk q) v.o ((m.g b) 3)).2)=0
   ·refine Lv aF (jG V)<|aC<|aK<|Wk<|sN ?_;refine kH [0,1,2,3,5,4,6,7,8,9] [0,0,0,0,4,0,4,0,0,3] [(9,4,[4]),(9,6,[6])] fun CJ gJ nZ => ?_;have⟨zI,wO,yI,yJ,yK,yt,xB,xC,yR⟩:=Cw gJ wN vL xA tV vM uP vN vO xw;have b10:=eZ gJ b9 A;refine bZ q1<|aX (pt p)<|aX (pt p)<|aX (pf p 18)<|bZ q16<|Rs (.slice m.s.na (m.s.nn) (m.s.nc)) (aL zI.aH 18) ?_;refine Rs (.agg (aA 54 (rv .i64 ((bH (Rk q) v.o ((m.g b) 3)).1)))) (eT yR.aH 0 (ha:=q41)) ?_;refine Rp (pf N (56*q)) (fun _=>dw 56 (hx:=(rfl.trans (L_ (fun q=>Value.slice q (m.s.nn) (m.s.nc)) Qf))))<|aX (pf N (56*q+2))<|gZ<|AB xB (56*q+2) fun w9 AP s10 z2 => ?_;have fV:=gH s10 xB.KY;have⟨yS,BI,Bq,Br,AQ,AU,BJ⟩:=TL fV zI wO yI yJ yK yt xC;have b11:=s10.below b10 (m_ A b10.size) xB.blk.1;have Es:Fx.Own w9 B 84 56 (bK N m.s.nn m.s.nc) m.s.nn (flat 56 (fun l=>jW (m.id l) (m.par l) (aI Rk q ((bH (Rk q) v.o ((m.g b) 3)).1) l))):=AP.congr (fun pq hp=>(Fx.Cv (k:=q) (j:=2) (by omega) (by omega) pq hp).trans (bI (fun i J j hj=>C9 i J j hj) pq hp));refine Ln<|Rn<|bP<|sN<|Wl<|aU q4<|Lv (au ((k:Int)+1)) fA<|av (au ((k:Int)+1))<|Ln ?_;have CU:Fx.Own w9 B 106 5 (.slice m.s.ga (m.s.gn) (m.s.gc)) m.s.gn (JO m):=BJ.eY (L_ (fun q=>Value.slice q m.s.gn m.s.gc) eq4.symm);have DX:Fx.Own w9 B 84 56 (.slice m.s.na (m.s.nn) (m.s.nc)) m.s.nn (flat 56 (fun l=>jW (m.id l) (m.par l) (aI Rk q ((bH (Rk q) v.o ((m.g b) 3)).1) l))):=Es.eY (L_ (fun q=>Value.slice q m.s.nn m.s.nc) Qf.symm);refine gW ⟨k+1,(aI Rk q (bH (Rk q) v.o (m.g b 3)).1),by omega,(F7 hRk ex1 (by first|exact V|exact Classical.not_not.1 V)),q1,q2,q3,Fx.ic,(q5.trans Fx.ic),yS,BI,Bq,Br,AQ,CU,AU,DX,b11⟩ ?_
    show(K-(intOf (au ((k:Int)+1))).toNat)<_;simp only[h4,intOf]; omega
   refine Lv aG (mG V)<|aC<|aM<|ay<|aU q42<|av (au ((bH (Rk q) v.o ((m.g b) 3)).2))<|aC<|Wr<|sR<|bL<|sR<|pV<|bL<|sR<|aJ (au ((bH (Rk q) v.o ((m.g b) 3)).2)) ?_;have L:aN v=a:=(by unfold aN; omega);have Y : ¬ 0<=m.core.lU (aN v) v.req:=(by rw[L]; exact j_ S);have ne2 : ¬ (m.core.grant v.o v.of<0\/m.core.g (yZ m.core v) 4≠0):=(by rw[ab]; exact fun h=>h.elim aa (fun h=>h ae));have ew:mX m.core v=dz (fun x=>bH x v.o (m.g b 3)) (pG m.core (m.g b 2)) m.R K:=(by unfold mX; rw[ab,show fB m.core.t m.core.tn (m.core.g b 2)=K from Yp.symm]; rfl);have H:jd m.core v=(bH (Rk q) v.o (m.g b 3)).2:=by
    unfold jd; rw[b_ Y,b_ ne2,ew];have e1:=IQ hRk ex1 V;rw[A9 (k:=k+1) (by rw[e1]; exact V) K (by omega)]; exact e1
   exact⟨oL H.symm,b9,fun M=>M_ (H.symm.trans M) V⟩
  refine Lv aF (gN c54)<|aC<|aK<|Wx<|bX<|gP<|bY<|sN<|Ws ?_;have hRK:dz (fun x=>bH x v.o (m.g b 3)) (pG m.core (m.g b 2)) m.R K=(Rk,0):=by rw[show K=k by omega]; exact hRk
  refine kH [0,1,2,3,5,6,4,7,8,9,10] [0,0,0,0,4,0,0,4,0,0,3] [(10,4,[4]),(10,7,[7])] fun SS mQ BG => ?_;have⟨AY,Hl,ET,Ho,HY,xL,xM⟩:=jT mQ qh om rW wh uD qX uZ;have b12:=eZ mQ b7 A;refine bZ W<|aX (pt p)<|aX (pt p)<|aX (pf p 19)<|bZ h5<|Rp (pf E 12) (fun _=>iL O 12)<|Rs (.slice m.s.ga (m.s.gn) (m.s.gc)) (aL AY.aH 19) ?_;refine Rs (aD v.req) (aL HY.aH 12) ?_;obtain⟨gq5,eq5⟩:=xL.addr (by omega);have vg:Fx.Own SS B 106 5 (bK gq5 m.s.gn m.s.gc) m.s.gn (JO m):=xL.eY (L_ (fun q=>Value.slice q m.s.gn m.s.gc) eq5);refine Rp (pf gq5 (5*b)) (fun _=>dw 5 (hx:=(rfl.trans (L_ (fun q=>Value.slice q (m.s.gn) (m.s.gc)) eq5))))<|aX (pf gq5 (5*b+4))<|gZ<|qU vg (5*b+4) (aD v.req) fun pJ qF s12 z3 => ?_;have jr:=gH s12 vg.KY;have⟨ql,rJ,qG,sI,uo,sJ⟩:=TK jr AY Hl ET Ho HY xM;have b13:=s12.below b12 (m_ A b12.size) vg.blk.1;have vk:Fx.Own pJ B 106 5 (bK gq5 m.s.gn m.s.gc) m.s.gn (flat 5 (fun l=>jc (aI m.g b (aI (m.g b) 4 v.req) l))):=qF.congr (fun pq hp=>(Fx.Ii (k:=b) (j:=4) (by omega) (by omega) pq hp).trans (bI (fun i J j hj=>RV i J j hj) pq hp));refine Ln<|bS<|Ws ?_;have Ad:Fx.Own pJ B 106 5 (.slice m.s.ga (m.s.gn) (m.s.gc)) m.s.gn (flat 5 (fun l=>jc (aI m.g b (aI (m.g b) 4 v.req) l))):=vk.eY (L_ (fun q=>Value.slice q m.s.gn m.s.gc) eq5.symm);have wC:Fx.Own pJ B 23 1 (.slice (m.ra a) (m.rn a) (m.rc a)) (m.rn a) (rv .u64 (m.rq a)):=sI.1 a ha;have bra:=F.br a ha;refine zX [0,1,4,5,8,9,12,16,17,2,3,6,7,10,11,13,14,15,18,19] [0,0,1,0,0,0,1,0,0,0,0,1,0,4,2,2,0,0,0,3] (iF [23]) vI Fx.iF.trans (fJ := [(19,2,[2]),(19,6,[6]),(19,11,[11]),(14,13,[13]),(15,13,[14,13]),(19,13,[13]),(15,14,[14]),(18,14,[14]),(19,14,[14]),(18,15,[15]),(19,15,[15])]) (by kernel_rfl) (by kernel_rfl) (by kernel_rfl) (by kernel_rfl) (by kernel_rfl) fun wt4 rU Iy => ?_;have⟨Ae,CV,yF,vo,rM,yX,yY,vw⟩:=nO rU ql rJ qG sI uo sJ Ad wC;have b14:=eZ rU b13 A;refine bZ W<|Rp (pt E) (fun _=>iL O 0)<|bZ W<|Rp (pt E) (fun _=>iL O 0)<|aX (pt p)<|aX (pf p 21)<|Rp (pf E 12) (fun _=>iL O 12)<|aX (pt p)<|aX (pf p 21)<|Rd (v:=au v.o) (by rfl) (by rfl) (vI _) (fun G d=>bA (x:=bM v) rfl rfl (by kernel_rfl) (rM.lu d (by decide)).aH (i:=0) (by omega) (by omega) rfl) ?_;refine Rp (au a) (fun _=>gQ)<|Rd (v:=au v.o) (by rfl) (by rfl) (vI _) (fun G d=>bA (x:=bM v) rfl rfl (by kernel_rfl) (rM.lu d (by decide)).aH (i:=0) (by omega) (by omega) rfl) ?_;refine Rp (au a) (fun _=>gQ)<|Rp (pf p (a+21)) (fun _=>jJ 6 1)<|Rd (v := .slice (m.ra a) (m.rn a) (m.rc a)) (by rfl) (by rfl) (vI _) (fun G d=>bA (x:=mD m) rfl rfl (by kernel_rfl) (Ae.lu d (by decide)).aH (i:=a+21) (by omega) (by omega) (xJ _ (by omega))) ?_;refine Rs (aD v.req) (aL rM.aH 12) ?_;refine zD<|wV (vs := [(0,aD v.req)]) (s:=1) (zc:=rv .u64 (fun _=>0)) (y:=bB (fun j=>(rv .u64 (fun _=>0)) (j % 1)) (0*1) 1 (fun _=>aD v.req)) (by rfl) rfl rfl Tryz.underlying53 (by kernel_rfl) (by rfl) (by rfl) (by kernel_rfl) (by rw[aZ (off:=0*1) (s:=1) (y:=fun _=>aD v.req) rfl (cells_one (by rfl)) (by rfl)]; rfl) rfl fun g3 DV yE CW Cr z4 => ?_;have⟨JU,FX,BP,FY,CX,AZ,J3⟩:=jT Cr.old Ae CV yF vo yX yY vw;have b15:=eZ Cr.old b14 A;have Bp:=iw yE b14.size;have⟨alz,alA,alB⟩:=AJ yE Ae.lt CV.lt rM.lt;have alC:(.slice (m.ra a) (m.rn a) (m.rc a):Value).ownBlock≠some g3:=by rw[yE]; exact vw.jF (A_ _)
  have Hg:=CW.lt;refine Ln ⟨Fx.iF.of_below Cr.old,?_⟩;refine zD<|yc (B:=B) (s:=1) (bytes:=8) (k:=(m.rn a)) (m:=1) (v := .slice (m.ra a) (m.rn a) (m.rc a)) (x:=rv .u64 (m.rq a)) (by rfl) rfl rfl rfl Tryz.underlying53 (by kernel_rfl) (by kernel_rfl) rfl rfl J3 CW.aH (uT (fun _=>rfl)) (by omega) (by omega) (by omega) (m_ A b15.size) fun g4 C Ct ho1 hg1 tO hlt1 => ?_;have qc:=yC hg1 J3;have⟨FZ,F3,H6,CY,F4⟩:=rD qc JU FX BP CX AZ;have LV:Fx.Own Ct B 23 1 (.slice (some ⟨g4,0,none⟩) ((m.rn a)+1) C) ((m.rn a)+1) (rv .u64 (aI (m.rq a) (m.rn a) v.req)):=(ho1.congr (fun j hj=>Qe j hj));have b16:Below B w Ct:=xZ b15 hg1 (m_ A b15.size) (fun q hq=>(J3.ge hq).1);have CZ:xK Ct B 6 { m with ra:=aI m.ra a (some ⟨g4,0,none⟩),rn:=aI m.rn a (m.rn a+1),rc:=aI m.rc a C,rq:=aI m.rq a (aI (m.rq a) (m.rn a) v.req) }:=xK.app FY ha rfl rfl rfl rfl LV hg1 tO;refine Ln ⟨qc,?_⟩;refine Rp (pf p (a+21)) (fun _=>jJ 6 1)<|gZ<|ji FZ (a+21) (.slice (some ⟨g4,0,none⟩) ((m.rn a)+1) (C)) fun EM Gb s15 z5 => ?_;have xu:=gH s15 FZ.ty;have⟨F5,A8,BQ,JV,VF⟩:=rD xu F3 H6 CY F4 CZ;have b17:=s15.below b16 (m_ A b16.size) (by omega);refine Ln<|bS<|ay<|av (au 0)<|aC<|Wr<|aJ (au 0) ?_;have L:aN v=a:=by unfold aN; omega
  have Y : ¬ 0<=m.core.lU (aN v) v.req:=by rw[L]; exact j_ S
  have ne2 : ¬ (m.core.grant v.o v.of<0\/m.core.g (yZ m.core v) 4≠0):=by rw[ab]; exact fun h=>h.elim aa (fun h=>h ae)
  have ew:mX m.core v=dz (fun x=>bH x v.o (m.g b 3)) (pG m.core (m.g b 2)) m.R K:=by unfold mX; rw[ab,show fB m.core.t m.core.tn (m.core.g b 2)=K from Yp.symm]; rfl
  have H:jd m.core v=0:=by unfold jd; rw[b_ Y,b_ ne2,ew,hRK]
  have eW:mX m.core v=(Rk,0):=ew.trans hRK;refine⟨oL H.symm,b17,fun _=>⟨{ m with s := { m.s with ga:=m.s.ga,gn:=m.s.gn,gc:=m.s.gc },R:=Rk,g:=aI m.g b (aI (m.g b) 4 v.req),ra:=aI m.ra a (some ⟨g4,0,none⟩),rn:=aI m.rn a (m.rn a+1),rc:=aI m.rc a C,rq:=aI m.rq a (aI (m.rq a) (m.rn a) v.req) },?_,?_⟩⟩
  ·unfold kX rO; rw[eW,L]; rw[ab]; rfl
  exact { c:=Gb.to (LX _ rfl _ _ _),n:=BQ,g:=JV,tc:=F5,t:=A8,r:=VF,pB:=Vq,tB:=Et,bn:=bn,bg:=(by show m.s.gn<=1000000; omega),bt:=bt,br:=(fun i J=>by show aI m.rn a (m.rn a+1) i<=1000000; have:=brr i J; have:=brr a ha; unfold aI; split <;> omega) }
 refine Lv aG (mG ae)<|av aG<|aC<|aM<|ay<|av (au 12)<|aC<|Wr<|sR<|aJ (au 12) ?_;have L:aN v=a:=by unfold aN; omega
 have Y : ¬ 0<=m.core.lU (aN v) v.req:=by rw[L]; exact j_ S
 have H:jd m.core v=12:=by unfold jd; rw[b_ Y,ab]; exact d_ (.inr ae)
 exact⟨oL H.symm,b4,fun M=>by rw[H]at M; cases M⟩
namespace Rt
def xP(L:dP)(v:EvM):Int:=if L.node v.node<0 then 9 else if 140737488355328<L.R (L.node v.node).toNat (aN v)+v.aT then 6 else 0
def Gd(L:dP)(v:EvM):dP := { L with R:=aI L.R (L.node v.node).toNat (upd (L.R (L.node v.node).toNat) (aN v) (L.R (L.node v.node).toNat (aN v)+v.aT)) }
def wF(L:dP)(v:EvM):(Nat->Int) × Int:=dn (L.R (L.node v.node).toNat) v.o v.dst v.aT
def oO(L:dP)(v:EvM):Int:=if L.node v.node<0 then 9 else if v.dst<1\/6<v.dst\/L.inn (v.dst-1).toNat=false then 10 else(wF L v).2
def Bc(L:dP)(v:EvM):dP := { L with R:=aI L.R (L.node v.node).toNat (wF L v).1 }
noncomputable def dX(L:dP)(v:EvM):Int :=
 if v.kind=1 then kW L v else if v.kind=2 then xP L v else if v.kind=3 then jv L v else if v.kind=4 then jd L v else if v.kind=5 then oO L v else 0
def iE(L:dP)(v:EvM):dP :=
 if v.kind=1 then rH L v else if v.kind=2 then Gd L v else if v.kind=3 then mW L v else if v.kind=4 then kX L v else if v.kind=5 then Bc L v
 else if v.kind=6 then { L with inn:=aI L.inn (v.dst-1).toNat true } else { L with left:=aI L.left (aN v) true }
theorem Ol{n q a:Nat}{id par:Nat->Int}{R:Nat->Nat->Int}{x:Int} : ∀ i,i<n -> ∀ j,j<56->Fx.rz (fun b=>jW (id b) (par b) (R b)) q (dB (jW (id q) (par q) (R q)) (a+2) (au x)) i j=jW (id i) (par i) (aI R q (upd (R q) a x) i) j:=fun i _ j _=>by
 unfold Fx.rz;by_cases h:i=q
 ·subst h; rw[d_ rfl,P8 rfl]; unfold aI; rw[d_ rfl]
 ·rw[b_ h]; unfold aI; rw[b_ h]
theorem Zp(m:mo){i:Nat}(hi:i<6):dB (mD m) i (.bool true)=mD { m with s := { m.s with inn:=aI m.s.inn i true } }:=by
 funext p
 unfold dB mD;by_cases h:p=i
 ·subst h; rw[d_ rfl,d_ (by omega)]; unfold kI; rw[d_ hi]; simp[aI]
 rw[b_ h];by_cases a:p<20
 ·rw[d_ a,d_ a]; unfold kI;by_cases b:p<6
  ·rw[d_ b,d_ b]; simp[aI,h]
  rw[b_ b,b_ b]
 rw[b_ a,b_ a]
theorem VH(m:mo){i q:Nat}(hi:i<6)(d:q=i+6):dB (mD m) q (.bool true)=mD { m with s := { m.s with left:=aI m.s.left i true } }:=by
 subst d
 funext p
 unfold dB mD;by_cases h:p=i+6
 ·subst h; rw[d_ rfl,d_ (by omega)]; unfold kI; rw[b_ (by omega),d_ (by omega)]; simp[aI]
 rw[b_ h];by_cases a:p<20
 ·rw[d_ a,d_ a]; unfold kI;by_cases b:p<6
  ·rw[d_ b,d_ b]
  rw[b_ b,b_ b];by_cases c:p<12
  ·rw[d_ c,d_ c]; simp[aI,show ¬ p-6=i by omega]
  rw[b_ c,b_ c]
 rw[b_ a,b_ a]
theorem RX(m:mo){i q:Nat}(hi:i<6)(e:q=i+12)(x:Int):dB (mD m) q (aD x)=mD { m with s := { m.s with known:=aI m.s.known i x } }:=by
 subst e
 funext p
 unfold dB mD;by_cases h:p=i+12
 ·subst h; rw[d_ rfl,d_ (by omega)]; unfold kI; rw[b_ (by omega),b_ (by omega),d_ (by omega)]; simp[aI]
 rw[b_ h];by_cases a:p<20
 ·rw[d_ a,d_ a]; unfold kI;by_cases b:p<6
  ·rw[d_ b,d_ b]
  rw[b_ b,b_ b];by_cases c:p<12
  ·rw[d_ c,d_ c]
  rw[b_ c,b_ c];by_cases d:p<18
  ·rw[d_ d,d_ d]; simp[aI,show ¬ p-12=i by omega]
  rw[b_ d,b_ d]
 rw[b_ a,b_ a]
theorem jC{v:EvM}(h:bR v=true):1<=v.kind/\v.kind<=7:=by
 unfold bR at h;simp only[T_]at h;have a:=h.2;unfold dG at a;split at a; · omega
 split at a; · omega
 split at a; · omega
 split at a; · omega
 split at a; · omega
 split at a; · omega
 have:=h_ a; omega
theorem lV{v:EvM}(h:bR v=true)(c:v.kind=2\/v.kind=3\/v.kind=5):1<=v.aT/\v.aT<=1125899906842624:=by
 unfold bR at h;simp only[T_]at h;have a:=h.2;unfold dG at a;rw[b_ (by omega)]at a;have b:someE v=true->1<=v.aT/\v.aT<=1125899906842624:=fun h=>by unfold someE at h; simpa using h
 split at a; · exact b a
 split at a; · rw[T_]at a; exact b a.1
 rw[b_ (by omega)]at a;split at a; · rw[T_]at a; exact b a.1
 omega
theorem IU{v:EvM}(h:bR v=true)(c:v.kind=6) : ∃ b:Nat,b<6/\v.dst=(b:Int)+1:=by
 unfold bR at h;simp only[T_]at h;have a:=h.2;unfold dG at a;rw[b_ (by omega),b_ (by omega),b_ (by omega),b_ (by omega),b_ (by omega),d_ c]at a;unfold lN at a;rw[T_]at a;exact fq a.1
end Rt
set_option maxRecDepth 20000 in
set_option maxHeartbeats 2000000 in
theorem aeu(m:mo)(B p a:Nat)(v:EvM)(w:World)(S:uh w B p m)(H:B<=w.heap.size)(ha:a<6)(ho:v.o=(a:Int)+1)(bnn:m.s.nn<=900)(bgg:m.s.gn<=900000)(brr : ∀ i,i<6->m.rn i<=900000)(hTN : ∀ x,m.node x=bC m.t m.tn x)(hDx : ∀ x,∃ D,D<=1000/\bC m.t m.tn (bF m.t m.tn D x)<0)(hv:gL v)(hmay:bR v=true)(hR : ∀ k,k<m.s.nn->may (m.R k)=true) :
 Calls Tryz.prog 82 #[(pt p),.agg (aA 14 (bM v))] w fun e w'=>e = .returned (au (dX m.core v))/\Below B w w'/\(dX m.core v=0 -> ∃ m',m'.core=iE m.core v/\uh w' B p m'):=by
 have Vq:=S.pB;have Et:=S.tB;have bn:=S.bn;have bg:=S.bg;have bt:=S.bt;have lpp:p<w.heap.size:=S.c.lt;have SQ:m.tb<w.heap.size:=S.tc.lt;have hvk:=hv.kind;have hvt:=hv.dst;have hkr:=jC hmay;obtain⟨D,hD2,hD⟩:=hDx v.node;refine Kent Tryz.func82 152 ?_;refine ay<|oz fun I w1 kQ W s1 z1 => ?_;have C:=bf s1.old S;have X:=eZ s1.old (Below.refl B w) H;have rF:=iw kQ (Below.refl B w).size;have sQ:=W.lt;refine av (au 0)<|aC<|Ws<|ay<|av (pf I 8)<|Lv (.int .u8 (v.kind)) (aL W.aH 8)<|aC<|Wb<|ay ?_;by_cases F:v.kind=1
 ·refine Lv aG (eH F)<|av aG<|aC<|aM<|ay<|av (pt p)<|Lv (.agg (aA 14 (bM v))) (eT W.aH 0)<|dH (Za m B p a D v _ C (m_ H X.size) ha ho bnn hD hD2) _ rfl ?_;rintro w2 ⟨hb1,hr1⟩;have b2:Below B w w2:=X.trans hb1;refine av (au (kW m.core v))<|aC<|Wr<|bL<|sR<|aJ (au (kW m.core v)) ?_;have A:dX m.core v=kW m.core v:=by unfold dX; rw[d_ F]
  have ec:iE m.core v=rH m.core v:=by unfold iE; rw[d_ F]
  exact⟨oL A.symm,b2,fun E=>by rw[ec]; exact hr1 (A.symm.trans E)⟩
 refine Lv aF (fC F)<|av aF<|aC<|aK<|ay ?_;by_cases G:v.kind=2
 ·refine Lv aG (eH G)<|av aG<|aC<|aM<|Ws ?_;have aa:=C.c;have ac:=C.n;have ab:=C.g;have ae:=C.tc;have af:=C.t;have ad:=C.r;refine Wl<|av (pt p)<|av (pf I 9)<|Lv (aD v.node) (aL W.aH 9) ?_;have Oe:CQ w1 p m := { c:=aa.aH,an:=ac.arr,ag:=ab.arr,tc:=ae.aH,at2:=af.arr,ar:=fun i hi=>(ad.1 i hi).arr,bn:=(by show m.s.nn<=1000000; omega),bg:=bg,bt:=(by show m.tn<=1000000; omega),br:=S.br };refine dH (FU m p v.node _ Oe) _ rfl ?_;intro w3 hb2;have⟨m3,m4,m5,m6,m7,m8,m9⟩:=jT hb2 W aa ac ab ae af ad;have b3:=eZ hb2 X H;refine av (au (m.node v.node))<|aC<|Ws<|ay<|av (au (m.node v.node)) ?_;by_cases c23:(m.node v.node)<0
  ·refine Lv aG (gM c23)<|aC<|aM<|ay<|av (au 9)<|aC<|Wr<|sR<|bL<|sR<|aJ (au 9) ?_;have P:aN v=a:=(by unfold aN; omega);have A:dX m.core v=9:=(by unfold dX; rw[b_ F,d_ G]; unfold xP; exact d_ c23);exact⟨oL A.symm,b3,fun E=>by rw[A]at E; cases E⟩
  obtain⟨d,hkq,V,_⟩:=BS (m:=m) (x:=v.node) (by omega);have V:m.node v.node=(d:Int):=V;have ekN:(m.core.node v.node).toNat=d:=by show(m.node v.node).toNat=d; rw[V]; rfl
  refine Lv aF (gN c23)<|aC<|aK<|Wk<|sN<|Ws<|Ws ?_;have hRb:=mI (hR d hkq) a (by omega);have hab:=lV hmay (.inl G);refine vV<|aW (pt p)<|aW (pt p)<|aW (pt p)<|aW (pf p 18)<|Qv (.slice m.s.na (m.s.nn) (m.s.nc)) (fun l f=>aL (m4.aH.dr f) 18)<|eG (L_ (Value.int .i64) V)<|aW (pt I)<|Qv (au v.o) (fun l f=>aL (m3.aH.dr f) 0)<|Qv (au a) (fun l f=>gQ) ?_;obtain⟨Q,eq1⟩:=m5.addr (by omega);have m10:Fx.Own w3 B 84 56 (bK Q m.s.nn m.s.nc) m.s.nn (KE m):=m5.eY (L_ (fun q=>Value.slice q m.s.nn m.s.nc) eq1);refine Qv (pf Q (56*d)) (fun l f=>dw 56 (hx:=(rfl.trans (L_ (fun q=>Value.slice q (m.s.nn) (m.s.nc)) eq1))))<|aW (pf Q (56*d+2))<|aW (pf Q (56*d+2))<|Qv (pf Q (a+56*d+2)) (fun l f=>jJ 6 1)<|Qv (au ((m.R d) a)) (fun l f=>aL (m10.aH.dr f) (a+56*d+2) (Fx.fU (k:=d) (j:=a+2) (by omega) (by omega) (N7 _ _ _ (by omega))))<|aW (pf I 11)<|Qv (au v.aT) (fun l f=>aL (m3.aH.dr f) 11)<|Qv (au (((m.R d) a)+v.aT)) (fun l f=>fA) ?_;by_cases c41:140737488355328<(((m.R d) a)+v.aT)
  ·refine Qv aG (fun l f=>ni c41)<|Qn ?_;rintro _ ⟨L,rfl⟩;obtain⟨BM,nV⟩ : ∃ l,l=World.drewN w3 L:=⟨_,rfl⟩;rw[<- nV];have s3:Stp w3.heap.size w3 BM:=(by rw[nV]; exact Sb (jA w3 L));have b4:=eZ s3.old b3 H;clear nV;refine sN<|aM<|ay<|av (au 6)<|aC<|Wr<|sR<|bL<|sR<|aJ (au 6) ?_;have P:aN v=a:=(by unfold aN; omega);have A:dX m.core v=6:=(by unfold dX; rw[b_ F,d_ G]; unfold xP; rw[ekN,P,b_ (show ¬ m.core.node v.node<0 from c23)]; exact d_ c41);exact⟨oL A.symm,b4,fun E=>by rw[A]at E; cases E⟩
  refine Qv aF (fun l f=>nk c41)<|Qn ?_;rintro _ ⟨L,rfl⟩;obtain⟨wq2,um⟩ : ∃ l,l=World.drewN w3 L:=⟨_,rfl⟩;rw[<- um];have s4:Stp w3.heap.size w3 wq2:=by rw[um]; exact Sb (jA w3 L)
  have⟨m18,m19,m20,m21,m22,m23,m24⟩:=jT s4.old m3 m4 m6 m7 m8 m9 m10;have b5:=eZ s4.old b3 H;clear um;refine sN<|aK<|Wk<|sN ?_;refine kH [0,1,2,3,5,6,14,4,9,10,11,17,18,19,7,8,12,13,15,16,20,21] [0,0,0,0,4,0,0,4,0,0,0,0,0,4,0,4,0,0,0,0,0,3] [(21,4,[4]),(21,7,[7]),(21,13,[13]),(21,15,[15])] fun rE dR iK => ?_;have⟨mZ,nQ,nH,og,oh,oD,lI⟩:=jT dR m18 m19 m20 m21 m22 m23 m24;have b6:=eZ dR b5 H;refine aX (pt p)<|aX (pt p)<|aX (pt p)<|aX (pf p 18)<|bZ (L_ (Value.int .i64) V)<|aX (pt I)<|aX (pf I 11)<|Rs (.slice m.s.na (m.s.nn) (m.s.nc)) (aL nQ.aH 18) ?_;refine Rp (pf Q (56*d)) (fun _=>dw 56 (hx:=(rfl.trans (L_ (fun q=>Value.slice q (m.s.nn) (m.s.nc)) eq1))))<|aX (pf Q (56*d+2))<|aX (pf Q (56*d+2))<|Rp (pf Q (56*d)) (fun _=>dw 56 (hx:=(rfl.trans (L_ (fun q=>Value.slice q (m.s.nn) (m.s.nc)) eq1))))<|aX (pf Q (56*d+2))<|aX (pf Q (56*d+2))<|Rs (au v.o) (aL mZ.aH 0) ?_;refine Rp (au a) (fun _=>gQ)<|Rp (pf Q (a+56*d+2)) (fun _=>jJ 6 1)<|Rs (au ((m.R d) a)) (aL lI.aH (a+56*d+2) (Fx.fU (k:=d) (j:=a+2) (by omega) (by omega) (N7 _ _ _ (by omega)))) ?_;refine Rs (au v.aT) (aL mZ.aH 11) ?_;refine Rp (au (((m.R d) a)+v.aT)) (fun _=>fA)<|Rp (pf Q (a+56*d+2)) (fun _=>jJ 6 1)<|gZ<|qU lI (a+56*d+2) (au (((m.R d) a)+v.aT)) fun w4 m32 s6 z2 => ?_;have fV:=gH s6 lI.KY;have⟨nR,pF,nS,qW,qB⟩:=rD fV nQ nH og oh oD;have b7:=s6.below b6 (m_ H b6.size) lI.blk.1;have pK:Fx.Own w4 B 84 56 (bK Q m.s.nn m.s.nc) m.s.nn (flat 56 (fun O=>jW (m.id O) (m.par O) (aI m.R d (upd (m.R d) a (((m.R d) a)+v.aT)) O))):=m32.congr (fun pq hp=>(Fx.Ii (k:=d) (j:=a+2) (by omega) (by omega) pq hp).trans (bI (fun i hi j hj=>Ol (a:=a) (x:=((m.R d) a)+v.aT) (q:=d) (id:=m.id) (par:=m.par) (R:=m.R) i hi j hj) pq hp));refine Ln<|Rn<|bP<|sN<|ay<|av (au 0)<|aC<|Wr<|aJ (au 0) ?_;have P:aN v=a:=by unfold aN; omega
  have sS:Fx.Own w4 B 84 56 (.slice m.s.na (m.s.nn) (m.s.nc)) m.s.nn (flat 56 (fun O=>jW (m.id O) (m.par O) (aI m.R d (upd (m.R d) a (((m.R d) a)+v.aT)) O))):=pK.eY (L_ (fun q=>Value.slice q m.s.nn m.s.nc) eq1.symm);have A:dX m.core v=0:=by unfold dX; rw[b_ F,d_ G]; unfold xP; rw[ekN,P,b_ (show ¬ m.core.node v.node<0 from c23)]; exact b_ c41
  refine⟨oL A.symm,b7,fun _=>⟨{ m with R:=aI m.R d (upd (m.R d) a (m.R d a+v.aT)) },by symm; unfold iE; rw[b_ F,d_ G]; unfold Gd; rw[ekN,P]; rfl,?_⟩⟩;exact { c:=nR,n:=sS,g:=pF,tc:=nS,t:=qW,r:=qB,pB:=Vq,tB:=Et,bn:=bn,bg:=bg,bt:=bt,br:=S.br }
 refine Lv aF (fC G)<|av aF<|aC<|aK<|ay ?_;by_cases K:v.kind=3
 ·refine Lv aG (eH K)<|av aG<|aC<|aM<|ay<|av (pt p)<|Lv (.agg (aA 14 (bM v))) (eT W.aH 0)<|dH (Zh m B p a D v _ C (m_ H X.size) ha ho bgg brr hTN hD hD2) _ rfl ?_;rintro w5 ⟨hb3,hr2⟩;have b8:Below B w w5:=X.trans hb3;refine av (au (jv m.core v))<|aC<|Wr<|bL<|sR<|aJ (au (jv m.core v)) ?_;have A:dX m.core v=jv m.core v:=by unfold dX; rw[b_ F,b_ G,d_ K]
  have ec:iE m.core v=mW m.core v:=by unfold iE; rw[b_ F,b_ G,d_ K]
  exact⟨oL A.symm,b8,fun E=>by rw[ec]; exact hr2 (A.symm.trans E)⟩
 refine Lv aF (fC K)<|av aF<|aC<|aK<|ay ?_;by_cases N:v.kind=4
 ·refine Lv aG (eH N)<|av aG<|aC<|aM<|ay<|av (pt p)<|Lv (.agg (aA 14 (bM v))) (eT W.aH 0)<|dH (Zo m B p a  v _ C (m_ H X.size) ha ho bgg brr hTN hDx) _ rfl ?_;rintro w6 ⟨hb4,hr3⟩;have J:Below B w w6:=X.trans hb4;refine av (au (jd m.core v))<|aC<|Wr<|bL<|sR<|aJ (au (jd m.core v)) ?_;have A:dX m.core v=jd m.core v:=by unfold dX; rw[b_ F,b_ G,b_ K,d_ N]
  have ec:iE m.core v=kX m.core v:=by unfold iE; rw[b_ F,b_ G,b_ K,d_ N]
  exact⟨oL A.symm,J,fun E=>by rw[ec]; exact hr3 (A.symm.trans E)⟩
 refine Lv aF (fC N)<|av aF<|aC<|aK<|ay ?_;by_cases U:v.kind=5
 ·refine Lv aG (eH U)<|av aG<|aC<|aM<|Ws ?_;have aa:=C.c;have ac:=C.n;have ab:=C.g;have ae:=C.tc;have af:=C.t;have ad:=C.r;refine Wl<|av (pt p)<|av (pf I 9)<|Lv (aD v.node) (aL W.aH 9) ?_;have VD:CQ w1 p m := { c:=aa.aH,an:=ac.arr,ag:=ab.arr,tc:=ae.aH,at2:=af.arr,ar:=fun i hi=>(ad.1 i hi).arr,bn:=(by show m.s.nn<=1000000; omega),bg:=bg,bt:=(by show m.tn<=1000000; omega),br:=S.br };refine dH (FU m p v.node _ VD) _ rfl ?_;intro M hb5;have⟨mh,lM,mH,qg,qh,om,rW⟩:=jT hb5 W aa ac ab ae af ad;have b10:=eZ hb5 X H;refine av (au (m.node v.node))<|aC<|Ws<|ay<|av (au (m.node v.node)) ?_;by_cases c80:(m.node v.node)<0
  ·refine Lv aG (gM c80)<|aC<|aM<|ay<|av (au 9)<|aC<|Wr<|sR<|bL<|sR<|aJ (au 9) ?_;have P:aN v=a:=(by unfold aN; omega);have A:dX m.core v=9:=(by unfold dX; rw[b_ F,b_ G,b_ K,b_ N,d_ U]; unfold oO; exact d_ c80);exact⟨oL A.symm,b10,fun E=>by rw[A]at E; cases E⟩
  obtain⟨d,hkq,V,_⟩:=BS (m:=m) (x:=v.node) (by omega);have V:m.node v.node=(d:Int):=V;have ekN:(m.core.node v.node).toNat=d:=by show(m.node v.node).toNat=d; rw[V]; rfl
  refine Lv aF (gN c80)<|aC<|aK<|Wk<|sN<|Ws<|Ws ?_;refine vV<|aW (pf I 10)<|Qv (au v.dst) (fun l f=>aL (mh.aH.dr f) 10) ?_;by_cases c83:v.dst<1
  ·refine Qv aG (fun l f=>gM c83)<|aW aG<|aR<|aR<|aR<|aW aG<|aW aG<|aR<|aR<|aR<|aR<|aR<|aR<|aR<|aR<|aR<|aR<|aW aG<|Qn ?_;rintro _ ⟨L,rfl⟩;obtain⟨Yo,Bb⟩ : ∃ l,l=World.drewN M L:=⟨_,rfl⟩;rw[<- Bb];have s8:Stp M.heap.size M Yo:=(by rw[Bb]; exact Sb (jA M L));have b11:=eZ s8.old b10 H;clear Bb;refine sN<|aM<|ay<|av (au 10)<|aC<|Wr<|sR<|bL<|sR<|aJ (au 10) ?_;have P:aN v=a:=(by unfold aN; omega);have A:dX m.core v=10:=(by unfold dX; rw[b_ F,b_ G,b_ K,b_ N,d_ U]; unfold oO; rw[b_ (show ¬ m.core.node v.node<0 from c80)]; exact d_ (.inl c83));exact⟨oL A.symm,b11,fun E=>by rw[A]at E; cases E⟩
  refine Qv aF (fun l f=>gN c83)<|aW aF<|aW (pf I 10)<|Qv (au v.dst) (fun l f=>aL (mh.aH.dr f) 10) ?_;by_cases c87:6<v.dst
  ·refine Qv aG (fun l f=>ni c87)<|aW aG<|aW aG<|aR<|aR<|aR<|aR<|aR<|aR<|aR<|aR<|aR<|aR<|aW aG<|Qn ?_;rintro _ ⟨L,rfl⟩;obtain⟨wq4,Gc⟩ : ∃ l,l=World.drewN M L:=⟨_,rfl⟩;rw[<- Gc];have s9:Stp M.heap.size M wq4:=(by rw[Gc]; exact Sb (jA M L));have b12:=eZ s9.old b10 H;clear Gc;refine sN<|aM<|ay<|av (au 10)<|aC<|Wr<|sR<|bL<|sR<|aJ (au 10) ?_;have P:aN v=a:=(by unfold aN; omega);have A:dX m.core v=10:=(by unfold dX; rw[b_ F,b_ G,b_ K,b_ N,d_ U]; unfold oO; rw[b_ (show ¬ m.core.node v.node<0 from c80)]; exact d_ (.inr (.inl c87)));exact⟨oL A.symm,b12,fun E=>by rw[A]at E; cases E⟩
  obtain⟨J,Yn,eb9⟩ : ∃ b:Nat,b<6/\v.dst=(b:Int)+1:=⟨(v.dst-1).toNat,by omega,by omega⟩;refine Qv aF (fun l f=>nk c87)<|aW aF<|aW aF<|aW (pt p)<|aW (pf I 10)<|Qv (au v.dst) (fun l f=>aL (mh.aH.dr f) 10)<|Qv (au J) (fun l f=>gQ)<|aW (pt p)<|aW (pt p)<|aW (pt p)<|Qv (pf p J) (fun l f=>jJ 6 1) ?_;by_cases Zq:(m.s.inn J)=true
  ·refine Qv aG (fun l f=>aL (lM.aH.dr f) J ((kV _ (by omega) (yU _ (by omega))).trans (L_ Value.bool Zq)))<|aW aF<|aW aF<|Qn ?_;rintro _ ⟨L,rfl⟩;obtain⟨wq5,Oi⟩ : ∃ l,l=World.drewN M L:=⟨_,rfl⟩;rw[<- Oi];have s10:Stp M.heap.size M wq5:=(by rw[Oi]; exact Sb (jA M L));have⟨pz,uI,m64,xw,wN,vL,xA⟩:=jT s10.old mh lM mH qg qh om rW;have b13:=eZ s10.old b10 H;clear Oi;refine sN<|aK<|Wk<|sN<|Ws ?_;obtain⟨Z,Ev⟩:=m64.addr (by omega);have tV:Fx.Own wq5 B 84 56 (bK Z m.s.nn m.s.nc) m.s.nn (KE m):=m64.eY (L_ (fun q=>Value.slice q m.s.nn m.s.nc) Ev);refine qZ (T:=82) (T':=82) (a := .tmp 7) (v := .tmp 118) (m:=54) (z:=rv .i64 (fun _=>0)) (y:=rv .i64 ((dn (m.R d) v.o v.dst v.aT).1)) (u := .agg (aA 54 (rv .i64 ((dn (m.R d) v.o v.dst v.aT).1)))) 19 20 (List.replicate 22 (0,2,[],[])) #[(pt p),(pt p),(pt p),(pf p 18),.slice m.s.na (m.s.nn) (m.s.nc),au (d:Int),(pf Z (56*d)),(pf Z (56*d+2)),.agg (aA 54 (rv .i64 (m.R d))),(pt I),au v.o,(pf I 10),au v.dst,(pf I 11),au v.aT,.tuple #[.agg (aA 54 (rv .i64 ((dn (m.R d) v.o v.dst v.aT).1))),au ((dn (m.R d) v.o v.dst v.aT).2)],.tuple #[.agg (aA 54 (rv .i64 ((dn (m.R d) v.o v.dst v.aT).1))),au ((dn (m.R d) v.o v.dst v.aT).2)],.agg (aA 54 (rv .i64 ((dn (m.R d) v.o v.dst v.aT).1))),au ((dn (m.R d) v.o v.dst v.aT).2),undef,undef,au ((dn (m.R d) v.o v.dst v.aT).2)] (by kernel_rfl) (by kernel_rfl) (by kernel_rfl) (by kernel_rfl) (by kernel_rfl) (by kernel_rfl) rfl (by kernel_rfl) rfl rfl (by kernel_rfl) (fun Y=>(show ev _ (.tmp 7)=(pt Y)from by kernel_rfl)) (fun Y=>(show ev _ (.tmp 118) = .agg (aA 54 (rv .i64 ((dn (m.R d) v.o v.dst v.aT).1)))from by kernel_rfl)) (bE _ _) (fun _ _=>rfl) (by kernel_rfl) (fun Y => ?_) ?_
   ·refine⟨?_,?_,?_,?_,?_,?_,?_,?_,?_,?_,?_,?_,?_,?_,?_,?_,?_,?_,?_,?_,?_,?_,trivial⟩
    ·exact .inr (.inr qV)
    ·exact .inr (.inr qV)
    ·exact .inr (.inr qV)
    ·exact .inr (.inr qV)
    ·exact .inr (.inr (uH (.slice m.s.na (m.s.nn) (m.s.nc)) fun l f=>bA (x:=mD m) rfl (show ev _ (.tmp 105)=(pf p 18)from by kernel_rfl) (by kernel_rfl) (uI.aH.below f (by have:=uI.lt; omega)) (i:=18) (by omega) (by omega) rfl))
    ·exact .inr (.inr (uH (au d) fun l f=>fG rfl ((bW (by kernel_rfl)).trans (L_ (Value.int .i64) V))))
    ·exact .inr (.inr (uH (pf Z (56*d)) fun l f=>dO rfl ((show ev _ (.tmp 106) = .slice m.s.na (m.s.nn) (m.s.nc)from by kernel_rfl).trans (L_ (fun q=>Value.slice q (m.s.nn) (m.s.nc)) Ev)) (show ev _ (.tmp 107)=au (d:Int)from by kernel_rfl) Tryz.underlying47 (s:=56) (by kernel_rfl) (by omega) (by omega) (by omega)))
    ·exact .inr (.inr qV)
    ·exact .inr (.inr (uH (.agg (aA 54 (rv .i64 (m.R d)))) fun l f=>dQ (x:=KE m) (y:=rv .i64 (m.R d)) rfl (show ev _ (.tmp 109)=(pf Z (56*d+2))from by kernel_rfl) (by kernel_rfl) (by kernel_rfl) (tV.aH.below f (by have:=tV.lt; omega)) (i:=56*d+2) (by omega) (by omega) (fun jq hjq=>(Fx.iq (k:=d) (j:=2+jq) (by omega) (by omega)).trans ((fun jq _=>BN _ _ _ jq) jq hjq))))
    ·exact .inr (.inr qV)
    ·exact .inr (.inr (uH (au v.o) fun l f=>bA (x:=bM v) rfl (show ev _ (.tmp 111)=(pt I)from by kernel_rfl) (by kernel_rfl) (pz.aH.below f (by have:=pz.lt; omega)) (i:=0) (by omega) (by omega) rfl))
    ·exact .inr (.inr qV)
    ·exact .inr (.inr (uH (au v.dst) fun l f=>bA (x:=bM v) rfl (show ev _ (.tmp 113)=(pf I 10)from by kernel_rfl) (by kernel_rfl) (pz.aH.below f (by have:=pz.lt; omega)) (i:=10) (by omega) (by omega) rfl))
    ·exact .inr (.inr qV)
    ·exact .inr (.inr (uH (au v.aT) fun l f=>bA (x:=bM v) rfl (show ev _ (.tmp 115)=(pf I 11)from by kernel_rfl) (by kernel_rfl) (pz.aH.below f (by have:=pz.lt; omega)) (i:=11) (by omega) (by omega) rfl))
    ·exact .inr (.inr (Fx.Jv (v := .tuple #[.agg (aA 54 (rv .i64 ((dn (m.R d) v.o v.dst v.aT).1))),au ((dn (m.R d) v.o v.dst v.aT).2)]) (by kernel_rfl) (by kernel_rfl) (Fx.qbC (fun l f=>rC (args := [.agg (aA 54 (rv .i64 (m.R d))),au v.o,au v.dst,au v.aT]) rfl (Fx.Ti (show ev _ (.tmp 110) = .agg (aA 54 (rv .i64 (m.R d)))from by kernel_rfl) (show ev _ (.tmp 112)=au v.o from by kernel_rfl) (show ev _ (.tmp 114)=au v.dst from by kernel_rfl) (show ev _ (.tmp 116)=au v.aT from by kernel_rfl)) Tryz.func127 rfl rfl) (fun l f=>(Zg (m.R d) v.o v.dst v.aT _).mono fun e v2 h=>⟨h.1,h.2⟩))))
    ·exact .inr (.inr qV)
    ·exact .inr (.inr qV)
    ·exact .inr (.inr qV)
    ·exact .inl rfl
    ·exact .inr (.inl rfl)
    exact .inr (.inr qV)
   rintro Y w8 f1 hf1 pO vM hb6;have apK:I≠Y:=u_ (n_ (pz.lt) pO);have aes:p≠Y:=u_ (n_ (uI.lt) pO);have apL:m.tb≠Y:=u_ (n_ (wN.lt) pO);have apM:Z≠Y:=u_ (n_ (tV.lt) pO);have⟨vN,vO,zI,wO,yI,yJ⟩:=oJ hb6 uI xw wN vL xA tV;have b14:=eZ hb6 b13 H;have pO:w.heap.size<=Y:=m_ b13.size pO;have yu:=vM.lt;have q1:f1 0=(pt p):=(by rw[hf1]; kernel_rfl);have q3:f1 6=au (d:Int):=(by rw[hf1]; exact(bW (by kernel_rfl)).trans (L_ (Value.int .i64) V));have q4:f1 7=(pt Y):=(by rw[hf1]; kernel_rfl);have q5:f1 8=au ((dn (m.R d) v.o v.dst v.aT).2):=(by rw[hf1]; kernel_rfl);clear hf1;refine sN<|Ws<|ay<|aU q5 ?_;by_cases Zr:((dn (m.R d) v.o v.dst v.aT).2)=0
   ·refine Lv aF (jG Zr)<|aC<|aK<|Wk<|sN ?_;refine kH [0,1,2,3,5,4,6,7,8,9] [0,0,0,0,4,0,4,0,0,3] [(9,4,[4]),(9,6,[6])] fun CJ gJ nZ => ?_;have⟨yt,xB,xC,yR,AP,yS,BI⟩:=jT gJ vN vO zI wO yI yJ vM;have b15:=eZ gJ b14 H;refine bZ q1<|aX (pt p)<|aX (pt p)<|aX (pf p 18)<|bZ q3<|Rs (.slice m.s.na (m.s.nn) (m.s.nc)) (aL yt.aH 18) ?_;refine Rs (.agg (aA 54 (rv .i64 ((dn (m.R d) v.o v.dst v.aT).1)))) (eT BI.aH 0 (ha:=q4)) ?_;refine Rp (pf Z (56*d)) (fun _=>dw 56 (hx:=(rfl.trans (L_ (fun q=>Value.slice q (m.s.nn) (m.s.nc)) Ev))))<|aX (pf Z (56*d+2))<|gZ<|AB yS (56*d+2) fun w9 Bq s13 z3 => ?_;have jr:=gH s13 yS.KY;have⟨AQ,AU,BJ,FL,Es⟩:=rD jr yt xB xC yR AP;have b16:=s13.below b15 (m_ H b15.size) yS.blk.1;have DX:Fx.Own w9 B 84 56 (bK Z m.s.nn m.s.nc) m.s.nn (flat 56 (fun O=>jW (m.id O) (m.par O) (aI m.R d ((dn (m.R d) v.o v.dst v.aT).1) O))):=Bq.congr (fun pq hp=>(Fx.Cv (k:=d) (j:=2) (by omega) (by omega) pq hp).trans (bI (fun i hi j hj=>C9 (r:=(dn (m.R d) v.o v.dst v.aT).1) (q:=d) (id:=m.id) (par:=m.par) (R:=m.R) i hi j hj) pq hp));refine Ln<|Rn<|bP<|sN<|ay<|av (au 0)<|aC<|Wr<|aJ (au 0) ?_;have P:aN v=a:=(by unfold aN; omega);have eto : ¬ (v.dst<1\/6<v.dst\/m.core.inn (v.dst-1).toNat=false):=fun h=>h.elim c83 (fun h=>h.elim c87 (fun h=>by rw[show(v.dst-1).toNat=J by omega]at h; rw[show m.core.inn J=true from Zq]at h; cases h))
    have eW:wF m.core v=dn (m.R d) v.o v.dst v.aT:=(by unfold wF; rw[ekN]; rfl);have AY:Fx.Own w9 B 84 56 (.slice m.s.na (m.s.nn) (m.s.nc)) m.s.nn (flat 56 (fun O=>jW (m.id O) (m.par O) (aI m.R d ((dn (m.R d) v.o v.dst v.aT).1) O))):=DX.eY (L_ (fun q=>Value.slice q m.s.nn m.s.nc) Ev.symm);have A:dX m.core v=0:=(by unfold dX; rw[b_ F,b_ G,b_ K,b_ N,d_ U]; unfold oO; rw[b_ (show ¬ m.core.node v.node<0 from c80),b_ eto,eW]; exact Zr);refine⟨oL A.symm,b16,fun _=>⟨{ m with R:=aI m.R d (dn (m.R d) v.o v.dst v.aT).1 },by symm; unfold iE; rw[b_ F,b_ G,b_ K,b_ N,d_ U]; unfold Bc; rw[ekN,eW]; rfl,?_⟩⟩;exact { c:=AQ,n:=AY,g:=AU,tc:=BJ,t:=FL,r:=Es,pB:=Vq,tB:=Et,bn:=bn,bg:=bg,bt:=bt,br:=S.br }
   refine Lv aG (mG Zr)<|aC<|aM<|ay<|aU q5<|av (au ((dn (m.R d) v.o v.dst v.aT).2))<|aC<|Wr<|sR<|bL<|sR<|aJ (au ((dn (m.R d) v.o v.dst v.aT).2)) ?_;have P:aN v=a:=(by unfold aN; omega);have eto : ¬ (v.dst<1\/6<v.dst\/m.core.inn (v.dst-1).toNat=false):=fun h=>h.elim c83 (fun h=>h.elim c87 (fun h=>by rw[show(v.dst-1).toNat=J by omega]at h; rw[show m.core.inn J=true from Zq]at h; cases h))
   have eW:wF m.core v=dn (m.R d) v.o v.dst v.aT:=(by unfold wF; rw[ekN]; rfl);have A:dX m.core v=(dn (m.R d) v.o v.dst v.aT).2:=(by unfold dX; rw[b_ F,b_ G,b_ K,b_ N,d_ U]; unfold oO; rw[b_ (show ¬ m.core.node v.node<0 from c80),b_ eto,eW]);exact⟨oL A.symm,b14,fun E=>by rw[A]at E; exact M_ E Zr⟩
  rw[U_]at Zq;refine Qv aF (fun l f=>aL (lM.aH.dr f) J ((kV _ (by omega) (yU _ (by omega))).trans (L_ Value.bool Zq)))<|aW aG<|aW aG<|Qn ?_;rintro _ ⟨L,rfl⟩;obtain⟨wq6,aew⟩ : ∃ l,l=World.drewN M L:=⟨_,rfl⟩;rw[<- aew];have Cr:Stp M.heap.size M wq6:=by rw[aew]; exact Sb (jA M L)
  have b17:=eZ Cr.old b10 H;clear aew;refine sN<|aM<|ay<|av (au 10)<|aC<|Wr<|sR<|bL<|sR<|aJ (au 10) ?_;have P:aN v=a:=by unfold aN; omega
  have A:dX m.core v=10:=by unfold dX; rw[b_ F,b_ G,b_ K,b_ N,d_ U]; unfold oO; rw[b_ (show ¬ m.core.node v.node<0 from c80)]; exact d_ (.inr (.inr (by rw[show(v.dst-1).toNat=J by omega]; exact Zq)))
  exact⟨oL A.symm,b17,fun E=>by rw[A]at E; cases E⟩
 refine Lv aF (fC U)<|av aF<|aC<|aK<|ay ?_;by_cases VI:v.kind=6
 ·refine Lv aG (eH VI)<|av aG<|aC<|aM ?_;have aa:=C.c;have ac:=C.n;have ab:=C.g;have ae:=C.tc;have af:=C.t;have ad:=C.r;obtain⟨J,Yn,eb9⟩:=IU hmay VI;refine kH [0,1,4,5,6,2,3,7,8] [0,0,4,0,0,0,0,0,3] [(8,2,[2])] fun SS mQ BG => ?_;have⟨vg,qF,ql,rJ,qG,sI,uo⟩:=jT mQ W aa ac ab ae af ad;have b18:=eZ mQ X H;refine aX (pt p)<|aX (pf I 10)<|aX (pt p)<|aX (pt p)<|aX (pt p)<|Rs (au v.dst) (aL vg.aH 10) ?_;refine Rp (au J) (fun _=>gQ)<|Rp (pf p J) (fun _=>jJ 6 1)<|gZ<|ji qF J aG fun pJ wB s16 z4 => ?_;have qc:=gH s16 qF.ty;have⟨vk,Ad,wC,Ae,CV⟩:=rD qc ql rJ qG sI uo;have b19:=s16.below b18 (m_ H b18.size) (by omega);refine Ln<|Rn<|bP<|sN<|ay<|av (au 0)<|aC<|Wr<|aJ (au 0) ?_;have P:aN v=a:=by unfold aN; omega
  have A:dX m.core v=0:=by unfold dX; rw[b_ F,b_ G,b_ K,b_ N,b_ U]
  refine⟨oL A.symm,b19,fun _=>⟨{ m with s := { m.s with inn:=aI m.s.inn J true } },by symm; unfold iE; rw[b_ F,b_ G,b_ K,b_ N,b_ U,d_ VI]; rw[show(v.dst-1).toNat=J by omega]; rfl,?_⟩⟩;exact { c:=wB.to (Zp m Yn),n:=vk,g:=Ad,tc:=wC,t:=Ae,r:=CV,pB:=Vq,tB:=Et,bn:=bn,bg:=bg,bt:=bt,br:=S.br }
 refine Lv aF (fC VI)<|av aF<|aC<|aK<|ay<|Lv aG abj<|av aG<|aC<|aM ?_;have aa:=C.c;have ac:=C.n;have ab:=C.g;have ae:=C.tc;have af:=C.t;have ad:=C.r;refine kH [0,1,4,5,6,2,3,7,8] [0,0,4,0,0,0,0,0,3] [(8,2,[2])] fun wt4 rU Iy => ?_;have⟨yF,vo,rM,yX,yY,vw,CW⟩:=jT rU W aa ac ab ae af ad;have b20:=eZ rU X H;refine aX (pt p)<|aX (pt I)<|aX (pt p)<|aX (pt p)<|aX (pf p 6)<|Rs (au v.o) (aL yF.aH 0) ?_;refine Rp (au a) (fun _=>gQ)<|Rp (pf p (a+6)) (fun _=>jJ 6 1)<|gZ<|ji vo (a+6) aG fun DV JU Nq z5 => ?_;have xu:=gH Nq vo.ty;have⟨BP,FY,HZ,CX,AZ⟩:=rD xu rM yX yY vw CW;have NU:=Nq.below b20 (m_ H b20.size) (by omega);refine Ln<|Rn<|bP<|sN<|ay<|av (au 0)<|aC<|Wr<|aJ (au 0) ?_;have P:aN v=a:=by unfold aN; omega
 have A:dX m.core v=0:=by unfold dX; rw[b_ F,b_ G,b_ K,b_ N,b_ U]
 refine⟨oL A.symm,NU,fun _=>⟨{ m with s := { m.s with left:=aI m.s.left a true } },by symm; unfold iE; rw[b_ F,b_ G,b_ K,b_ N,b_ U,b_ VI]; rw[P]; rfl,?_⟩⟩;exact { c:=JU.to (VH m ha rfl),n:=BP,g:=FY,tc:=HZ,t:=CX,r:=AZ,pB:=Vq,tB:=Et,bn:=bn,bg:=bg,bt:=bt,br:=S.br }
namespace Rt
structure aex(L:dP)(T:Nat):Prop where
 nn:L.nn<=33
 gn:L.gn<=T
 rn : ∀ i,i<6->L.rn i<=T
 tn : ∀ x,L.node x=bC L.t L.tn x
 dx : ∀ x,∃ D,D<=1000/\bC L.t L.tn (bF L.t L.tn D x)<0
 may : ∀ k,k<L.nn->may (L.R k)=true
 kn:BL L.known
open Classical in
noncomputable def bD(L:dP)(v:EvM):Int :=
 if bR v=false then 1 else if lQ L.known v=true then 14 else if dJ L.known v=false then 13 else if L.inn (aN v)=false\/L.left (aN v)=true then 10 else dX L v
def D5(L:dP)(v:EvM):dP := { L with known:=aI L.known (aN v) (L.known (aN v)+1) }
open Classical in
noncomputable def bV(L:dP)(v:EvM):dP:=if bD L v=0 then D5 (iE L v) v else L
theorem qH(L:dP)(v:EvM):(iE L v).known=L.known:=by
 unfold iE;split; · unfold rH; rfl
 split; · unfold Gd; rfl
 split; · unfold mW rO; rfl
 split; · unfold kX rO; rfl
 split; · unfold Bc; rfl
 split <;> rfl
end Rt
set_option maxRecDepth 20000 in
set_option maxHeartbeats 2000000 in
theorem Qg(m:mo)(B p T:Nat)(v:EvM)(w:World)(L:uh w B p m)(z:gL v)(I:aex m.core T)(hT:T<=900000) :
 Calls Tryz.prog 44 #[(pt p),.agg (aA 14 (bM v))] w fun e w' => ∃ p' m',e = .returned (.tuple #[(pt p'),au (bD m.core v)])/\m'.core=bV m.core v/\uh w' B p' m'/\Below w.heap.size w w':=by
 have O:=L.c;have lpp:p<w.heap.size:=O.lt;have hpB:=L.pB;refine Kent Tryz.func44 73 ?_;refine ay<|oz fun g1 w1 kQ U s1 z1 => ?_;have⟨F,d,Y⟩:=iy s1.old L O (Below.refl w.heap.size w);have rF:=gD kQ;have P7:=cu kQ O.lt;have sQ:=U.lt;refine av (.pointer none)<|av (au 0)<|aC<|Ws<|ay<|Lv (.agg (aA 14 (bM v))) (eT U.aH 0) ?_;by_cases l:(bR v)=true
 ·refine dH (IB v _ z) aG (by rw[l]) ?_;intro w2 hb1;have⟨m4,m5,m6,Z⟩:=jN hb1 F d U Y;refine av aF<|aC<|aK<|Wk<|sN<|Ws<|Ws ?_;refine nM<|aW (pt p)<|aW (pt p)<|aW (pt p)<|aW (pf p 12)<|Qv (.agg (aA 6 (rv .u64 m.s.known))) (fun W A=>eT (m5.cb A) 12 (fun j S=>kV _ (by omega) (jV _ S (by omega))))<|Qv (.agg (aA 14 (bM v))) (fun W A=>eT (m6.cb A) 0) ?_;by_cases u:(lQ m.s.known v)=true
  ·refine zY (fun _ _=>U3 m.s.known v _ z) aG (by rw[u])<|Qn ?_;intro YL uO;have⟨m7,b3⟩:=eU uO m4 Z;refine sN<|aM<|ay<|av (pt p)<|av (pt p)<|av (au 14)<|aC<|Wr<|sR<|aJ (.tuple #[(pt p),au 14]) ?_;have b:bD m.core v=14:=(by unfold bD; rw[b_ (by rw[l]; decide)]; exact d_ u);have q:bV m.core v=m.core:=(by unfold bV; rw[b_ (by rw[b]; decide)]);exact⟨p,m,by rw[b],q.symm,m7,b3⟩
  rw[U_]at u;refine zY (fun _ _=>U3 m.s.known v _ z) aF (by rw[u])<|Qn ?_;intro wb2 yh;have⟨m10,m11,m12,b4⟩:=jN yh m4 m5 m6 Z;refine sN<|aK<|Wk<|sN<|Ws<|Ws ?_;refine nM<|aW (pt p)<|aW (pt p)<|aW (pt p)<|aW (pf p 12)<|Qv (.agg (aA 6 (rv .u64 m.s.known))) (fun W A=>eT (m11.cb A) 12 (fun j S=>kV _ (by omega) (jV _ S (by omega))))<|Qv (.agg (aA 14 (bM v))) (fun W A=>eT (m12.cb A) 0) ?_;by_cases x:(dJ m.s.known v)=true
  ·refine zY (fun _ _=>PS m.s.known v _ z I.kn) aG (by rw[x])<|aW aF<|Qn ?_;intro N yj;have⟨K,M,m15,G⟩:=jN yj m10 m11 m12 b4;refine sN<|aK<|Wk<|sN<|Ws ?_;obtain⟨a,P,ho⟩:=fq (jg l);refine Wl<|av (pt g1)<|Lv (au v.o) (aL m15.aH 0)<|Lv (au a) gQ<|av (au a)<|aC<|Ws<|ay<|av (pt p)<|av (au a)<|av (pt p)<|av (pt p)<|av (pt p)<|Lv (pf p a) (jJ 6 1) ?_;by_cases C:(m.s.inn a)=true
   ·refine Lv aG (aL M.aH a ((kV _ (by omega) (yU _ (by omega))).trans (L_ Value.bool C)))<|av aF<|av aF<|av (pt p)<|av (au a)<|av (pt p)<|av (pt p)<|av (pf p 6)<|Lv (pf p (a+6)) (jJ 6 1) ?_;by_cases D:(m.s.left a)=true
    ·refine Lv aG (aL M.aH (a+6) ((kV _ (by omega) (ug _ (by omega) (by omega))).trans (L_ Value.bool D)))<|av aG<|aC<|aM<|ay<|av (pt p)<|av (pt p)<|av (au 10)<|aC<|Wr<|sR<|aJ (.tuple #[(pt p),au 10]) ?_;have y:aN v=a:=(by unfold aN; omega);have b:bD m.core v=10:=(by unfold bD; rw[b_ (by rw[l]; decide),b_ (by rw[show lQ m.core.known v=false from u]; decide),b_ (by rw[show dJ m.core.known v=true from x]; decide),y]; exact d_ (.inr D));have q:bV m.core v=m.core:=(by unfold bV; rw[b_ (by rw[b]; decide)]);exact⟨p,m,by rw[b],q.symm,K,G⟩
    rw[U_]at D;refine Lv aF (aL M.aH (a+6) ((kV _ (by omega) (ug _ (by omega) (by omega))).trans (L_ Value.bool D)))<|av aF<|aC<|aK<|Wk<|sN<|ay<|av (pt p)<|lD (adP m p _ K.ldg (by have:=I.nn; have e:m.core.nn=m.s.nn:=rfl; omega) K.bt) ?_;rintro e w3 ⟨f,F,J,R,hL2,Q⟩;refine⟨(pt f),J,?_⟩;clear J;have⟨m18,b6⟩:=eU Q m15 G;have E:aex F.core T:=(by rw[R]; exact I);refine av (pt f)<|aC<|Ws ?_;have apO:=hL2;refine Wl<|av (pt f)<|Lv (.agg (aA 14 (bM v))) (eT m18.aH 0)<|lD (aeu F N.heap.size f a v _ apO Q.size P ho (by have h9:F.s.nn<=33:=E.nn; omega) (m_ E.gn hT) (fun i hi=>m_ (E.rn i hi) hT) E.tn E.dx z l E.may) ?_;rintro e X ⟨J,hbd,hL3⟩;refine⟨au (dX m.core v),by rw[<- R]; exact J,?_⟩;clear J;rw[R]at hL3;have b8:Below N.heap.size N X:=Q.trans hbd;have b7:Below w.heap.size w X:=b6.trans (hbd.mono (m_ (A_ _) G.size));have m19:uh X B p m:=K.up b8;refine av (au (dX m.core v))<|aC<|Ws<|ay<|av (au (dX m.core v)) ?_;by_cases H:(dX m.core v)=0
    ·refine Lv aF (jG H)<|aC<|aK<|Wk<|sN<|Ws ?_;obtain⟨d,hc3,k⟩:=hL3 H;have hMc:=k.c;have hMn:=k.n;have hMg:=k.g;have hMt:=k.tc;have apQ:=k.t;have hMr:=k.r;have ek3:d.s.known=m.s.known:=(by show d.core.known=_; rw[hc3,qH]; rfl);have hk3:=I.kn a P;have hk3:0<=d.s.known a/\d.s.known a<1099511627776:=(by rw[ek3]; exact hk3);have lp2:=k.pB;have sw1:=G.size;refine kH [0,1,2,3,4,5,8,9,10,6,7,11,12] [0,0,0,0,0,0,4,0,0,0,0,0,3] [(12,6,[6])] fun rE dR iK => ?_;have⟨V,m21,m22,m23,m24,mZ,b9⟩:=jT dR hMc hMn hMg hMt apQ hMr b7;refine aX (pt f)<|aX (au a)<|aX (pt f)<|aX (pt f)<|aX (pf f 12)<|Rp (pf f (a+12)) (fun _=>jJ 6 1)<|aX (pt f)<|aX (pt f)<|aX (pf f 12)<|Rs (aD (d.s.known a)) (aL V.aH (a+12) (kV _ (by omega) (jV _ (by omega) (by omega)))) ?_;refine Rp (aD (d.s.known a+1)) (fun _=>fA)<|Rp (pf f (a+12)) (fun _=>jJ 6 1)<|gZ<|ji V (a+12) (aD (d.s.known a+1)) fun w5 nQ s8 z2 => ?_;have fV:=gH s8 V.ty;have⟨nH,og,oh,oD,lI⟩:=rD fV m21 m22 m23 m24 mZ;have b10:=s8.below b9 b9.size (by omega);refine Ln<|bS<|ay<|av (pt f)<|av (pt f)<|av (au 0)<|aC<|Wr<|aJ (.tuple #[(pt f),au 0]) ?_;have y:aN v=a:=(by unfold aN; omega);have b:bD m.core v=0:=by unfold bD; rw[b_ (by rw[l]; decide),b_ (by rw[show lQ m.core.known v=false from u]; decide),b_ (by rw[show dJ m.core.known v=true from x]; decide),y]; rw[b_ (show ¬ (m.core.inn a=false\/m.core.left a=true)from fun h=>h.elim (fun h=>by rw[show m.core.inn a=true from C]at h; cases h) (fun h=>by rw[show m.core.left a=false from D]at h; cases h))]; exact H
     have hfin:uh w5 N.heap.size f { d with s := { d.s with known:=aI d.s.known a (d.s.known a+1) } } := { c:=nQ.to (RX d P rfl _),n:=nH,g:=og,tc:=oh,t:=oD,r:=lI,pB:=k.pB,tB:=k.tB,bn:=k.bn,bg:=k.bg,bt:=k.bt,br:=k.br };refine⟨f,{ d with s := { d.s with known:=aI d.s.known a (d.s.known a+1) } },by rw[b],?_,hfin.mono (by have:=L.pB; have:=lpp; omega),b10⟩;unfold bV; rw[d_ b]; unfold D5; rw[y,qH,<- hc3,show m.core.known=d.s.known from ek3.symm]; rfl
    refine Lv aG (mG H)<|aC<|aM<|ay<|av (pt p)<|av (au (dX m.core v))<|av (pt p)<|av (au (dX m.core v))<|aC<|Wr<|sR<|aJ (.tuple #[(pt p),au (dX m.core v)]) ?_;have y:aN v=a:=(by unfold aN; omega);have b:bD m.core v=dX m.core v:=by unfold bD; rw[b_ (by rw[l]; decide),b_ (by rw[show lQ m.core.known v=false from u]; decide),b_ (by rw[show dJ m.core.known v=true from x]; decide),y]; rw[b_ (show ¬ (m.core.inn a=false\/m.core.left a=true)from fun h=>h.elim (fun h=>by rw[show m.core.inn a=true from C]at h; cases h) (fun h=>by rw[show m.core.left a=false from D]at h; cases h))]
    have q:bV m.core v=m.core:=(by unfold bV; rw[b_ (by rw[b]; exact H)]);exact⟨p,m,by rw[b],q.symm,m19,b7⟩
   rw[U_]at C;refine Lv aF (aL M.aH a ((kV _ (by omega) (yU _ (by omega))).trans (L_ Value.bool C)))<|av aG<|av aG<|bO<|bO<|bO<|bO<|bO<|bO<|bO<|av aG<|aC<|aM<|ay<|av (pt p)<|av (pt p)<|av (au 10)<|aC<|Wr<|sR<|aJ (.tuple #[(pt p),au 10]) ?_;have y:aN v=a:=(by unfold aN; omega);have b:bD m.core v=10:=(by unfold bD; rw[b_ (by rw[l]; decide),b_ (by rw[show lQ m.core.known v=false from u]; decide),b_ (by rw[show dJ m.core.known v=true from x]; decide),y]; exact d_ (.inl C));have q:bV m.core v=m.core:=(by unfold bV; rw[b_ (by rw[b]; decide)]);exact⟨p,m,by rw[b],q.symm,K,G⟩
  rw[U_]at x;refine zY (fun _ _=>PS m.s.known v _ z I.kn) aF (by rw[x])<|aW aG<|Qn ?_;intro wb4 BH;have⟨m32,b11⟩:=eU BH m10 b4;refine sN<|aM<|ay<|av (pt p)<|av (pt p)<|av (au 13)<|aC<|Wr<|sR<|aJ (.tuple #[(pt p),au 13]) ?_;have b:bD m.core v=13:=by unfold bD; rw[b_ (by rw[l]; decide),b_ (by rw[show lQ m.core.known v=false from u]; decide)]; exact d_ x
  have q:bV m.core v=m.core:=by unfold bV; rw[b_ (by rw[b]; decide)]
  exact⟨p,m,by rw[b],q.symm,m32,b11⟩
 rw[U_]at l;refine dH (IB v _ z) aF (by rw[l]) ?_;intro w6 hb2;have⟨pF,b12⟩:=eU hb2 F Y;refine av aG<|aC<|aM<|ay<|av (pt p)<|av (pt p)<|av (au 1)<|aC<|Wr<|sR<|aJ (.tuple #[(pt p),au 1]) ?_;have b:bD m.core v=1:=by unfold bD; exact d_ l
 have q:bV m.core v=m.core:=by unfold bV; rw[b_ (by rw[b]; decide)]
 exact⟨p,m,by rw[b],q.symm,pF,b12⟩
section
namespace Rt
structure Inv0(L:dP)(T:Nat):Prop where
 Db:L.tn=L.nn
 nn:L.nn<=32
 tid : ∀ i,i<L.nn->L.t i 0=L.id i/\L.t i 1=L.par i
 rise : ∀ i j,i<j->j<L.nn->L.id i<L.id j
 pos : ∀ i,i<L.nn->1<=L.id i
 top : ∀ i,i<L.nn->L.id i<7696581394432
 up : ∀ i,i<L.nn->L.par i=0 \/ ∃ j,j<L.nn/\L.id j=L.par i
 dep : ∀ x,∃ D,D<=4/\bC L.t L.tn (bF L.t L.tn D x)<0
 gn:L.gn<=T
 rn : ∀ i,i<6->L.rn i<=T
 may : ∀ k,k<L.nn->may (L.R k)=true
 g47 : ∀ k,k<L.nn -> ∀ a,a<6->L.R k a<=140737488355328
 kn:BL L.known
theorem ilt(a:Int):a<0\/0<=a:=by omega
theorem iV{t:Nat->Nat->Int}{tn:Nat}{x:Int}:0<=bC t tn x <-> ∃ i,i<tn/\t i 0=x:=by
 constructor
 ·intro h;obtain⟨j,c,_,e⟩:=wz h;exact⟨j,c,e⟩
 rintro ⟨i,b,e⟩
 rcases iR (fun i=>decide (t i 0=x)) tn with ⟨k,_,a,_⟩|⟨_,h2⟩
 ·unfold bC; rw[a]; omega
 have:=h2 i b; rw[f_ e]at this; cases this
theorem wG{t:Nat->Nat->Int}{tn:Nat}{x:Int}:bC t tn x<0 <-> ∀ i,i<tn->t i 0≠x:=by
 constructor
 ·intro h i a e;have:=iV.2 ⟨i,a,e⟩; omega
 intro h
 rcases ilt (bC t tn x)with h1|h1
 ·exact h1
 obtain⟨i,a,e⟩:=iV.1 h1;exact M_ e (h i a)
theorem wH{t:Nat->Nat->Int}{tn i:Nat}(c : ∀ i j,i<tn->j<tn->t i 0=t j 0->i=j)(hi:i<tn):bC t tn (t i 0)=(i:Int):=by
 obtain⟨j,b,e,a⟩:=wz (iV.2 ⟨i,hi,rfl⟩);rw[e,c j i b hi a]
theorem Gf{t:Nat->Nat->Int}{tn:Nat}{x:Int} : ∀ j,bF t tn (j+1) x=bF t tn j (bF t tn 1 x)
 | 0=>rfl
 | j+1=>by
   show t (bC t tn (bF t tn (j+1) x)).toNat 1=t (bC t tn (bF t tn j (bF t tn 1 x))).toNat 1;rw[Gf j]
section
variable {L:dP} {T:Nat}
theorem Inv0.inj(h:Inv0 L T) : ∀ i j,i<L.nn->j<L.nn->L.id i=L.id j->i=j:=fun i j a b e=>by
 rcases Nat.lt_trichotomy i j with h1|h1|h1
 ·have:=h.rise i j h1 b; omega
 ·exact h1
 ·have:=h.rise j i h1 a; omega
theorem Inv0.aiM(h:Inv0 L T) : ∀ i j,i<L.tn->j<L.tn->L.t i 0=L.t j 0->i=j:=fun i j a b e=>by
 rw[h.Db]at a b;rw[(h.tid i a).1,(h.tid j b).1]at e;exact h.inj i j a b e
theorem D6{P Q:Nat->Bool} : ∀ {n:Nat},(∀ i,i<n->P i=Q i)->fK P n=fK Q n
 | 0,_=>rfl
 | n+1,h=>by
   simp only[fK];rw[D6 (n:=n) fun i a=>h i (by omega),h n (by omega)]
theorem Inv0.node(h:Inv0 L T)(x:Int):L.node x=bC L.t L.tn x:=by
 unfold dP.node bC;rw[h.Db];exact D6 fun i a=>by rw[(h.tid i a).1]
theorem Inv0.w(h:Inv0 L T):aex L T where
 nn:=by have:=h.nn; omega
 gn:=h.gn
 rn:=h.rn
 tn:=h.node
 dx:=fun x=>by obtain⟨D,b,a⟩:=h.dep x; exact⟨D,by omega,a⟩
 may:=h.may
 kn:=h.kn
theorem Inv0.mono{T':Nat}(h:Inv0 L T)(a:T<=T'):Inv0 L T' := { h with gn:=m_ h.gn a,rn:=fun i b=>m_ (h.rn i b) a }
theorem EU{a:Type}{f:Nat->a}{k i:Nat}{v:a}(h:i<k):cO f k v i=f i:=by unfold cO; rw[d_ h]
theorem dI{a:Type}{f:Nat->a}{k:Nat}{v:a}:cO f k v k=v:=by unfold cO; rw[b_ (by omega),d_ rfl]
theorem EW{a:Type}{f:Nat->a}{k i:Nat}{v:a}(h:k<i):cO f k v i=f (i-1):=by unfold cO; rw[b_ (by omega),b_ (by omega)]
theorem dY{k i n:Nat}(b:k<=n)(hi:i<n+1):i=k \/ ∃ j,j<n/\(∀ {α:Type} (f:Nat->α) (v:α),cO f k v i=f j)/\(j<k->i=j)/\(k<=j->i=j+1):=by
 rcases Nat.lt_trichotomy i k with h|h|h
 ·exact .inr ⟨i,by omega,fun f v=>EU h,fun _=>rfl,fun a=>by omega⟩
 ·exact .inl h
 exact .inr ⟨i-1,by omega,fun f v=>EW h,fun a=>by omega,fun _=>by omega⟩
theorem BX{k j n:Nat}(a:j<n) : ∃ i,i<n+1/\i≠k /\ ∀ {α:Type} (f:Nat->α) (v:α),cO f k v i=f j:=by
 by_cases h:j<k
 ·exact⟨j,by omega,by omega,fun f v=>EU h⟩
 exact⟨j+1,by omega,by omega,fun f v=>by rw[EW (by omega)]; rfl⟩
theorem zN(t:Nat->Nat->Int)(k:Nat)(id par:Int)(i:Nat):qj t k id par i=cO t k (fun j=>if j=0 then id else par) i:=rfl
theorem IV{P Q:Nat->Bool} : ∀ {n:Nat},(∀ i,i<n->P i=Q i)->down P n=down Q n
 | 0,_=>rfl
 | n+1,h=>by
   unfold down;rw[IV (n:=n) fun i a=>h i (by omega),h n (by omega)]
structure qm(t t':Nat->Nat->Int)(tn:Nat)(id par:Int):Prop where
 u : ∀ i j,i<tn->j<tn->t i 0=t j 0->i=j
 u' : ∀ i j,i<tn+1->j<tn+1->t' i 0=t' j 0->i=j
 no : ∀ i,i<tn->t i 0≠id
 old : ∀ i,i<tn -> ∃ j,j<tn+1/\t' j=t i
 new : ∃ j,j<tn+1/\t' j 0=id/\t' j 1=par
 back : ∀ j,j<tn+1->t' j 0=id \/ ∃ i,i<tn/\t' j=t i
variable {t t':Nat->Nat->Int} {tn:Nat} {id par:Int}
theorem qm.find(h:qm t t' tn id par){x:Int}:0<=bC t' (tn+1) x<->(0<=bC t tn x\/x=id):=by
 rw[iV,iV];constructor
 ·rintro ⟨j,b,e⟩
  rcases h.back j b with a|⟨i,hi,a⟩
  ·exact .inr (e.symm.trans a)
  exact .inl ⟨i,hi,by rw[<- a]; exact e⟩
 rintro (⟨i,hi,e⟩|e)
 ·obtain⟨j,b,a⟩:=h.old i hi;exact⟨j,b,by rw[a]; exact e⟩
 obtain⟨j,b,a,_⟩:=h.new;exact⟨j,b,a.trans e.symm⟩
theorem qm.Zt(h:qm t t' tn id par){x:Int}(hx:0<=bC t tn x):t' (bC t' (tn+1) x).toNat 1=t (bC t tn x).toNat 1:=by
 obtain⟨i,b,e⟩:=iV.1 hx;obtain⟨j,f,a⟩:=h.old i b;have c:bC t tn x=(i:Int):=by rw[<- e]; exact wH h.u b
 have d:bC t' (tn+1) x=(j:Int):=by
  have:t' j 0=x:=by rw[a]; exact e
  rw[<- this]; exact wH h.u' f
 rw[c,d];show t' j 1=t i 1;rw[a]
theorem qm.iter(h:qm t t' tn id par){x:Int} : ∀ K,(∀ i,i<K->0<=bC t tn (bF t tn i x))->bF t' (tn+1) K x=bF t tn K x
 | 0,_=>rfl
 | K+1,hk=>by
   have a:=qm.iter h K fun i b=>hk i (by omega);show t' (bC t' (tn+1) (bF t' (tn+1) K x)).toNat 1=t (bC t tn (bF t tn K x)).toNat 1;rw[a]; exact h.Zt (hk K (by omega))
theorem wI{t:Nat->Nat->Int}{tn:Nat}{x:Int} : ∀ D,bC t tn (bF t tn D x)<0 -> ∃ K,K<=D/\bC t tn (bF t tn K x)<0 /\ ∀ i,i<K->0<=bC t tn (bF t tn i x)
 | 0,h=>⟨0,A_ _,h,fun _ a=>M_ a (z_ _)⟩
 | D+1,h=>by
   by_cases f : ∀ i,i<D+1->0<=bC t tn (bF t tn i x)
   ·exact⟨D+1,A_ _,h,f⟩
   ·obtain⟨i,a⟩:=Classical.not_forall.1 f;obtain⟨a,o⟩:=Classical.not_imp.1 a
    rcases Nat.lt_or_ge i D with h3|h3
    ·-- an earlier end
     have : ∀ n,n<=D->(∃ j,j<=n/\bC t tn (bF t tn j x)<0) -> ∃ K,K<=n/\bC t tn (bF t tn K x)<0 /\ ∀ i,i<K->0<=bC t tn (bF t tn i x):=by
      intro n
      induction n with
      | zero=>rintro _ ⟨j,m,k⟩; obtain rfl:j=0:=by omega
              exact⟨0,A_ _,k,fun _ a=>M_ a (z_ _)⟩
      | succ n ih =>
        rintro k ⟨j,m,g⟩;by_cases c : ∃ j,j<=n/\bC t tn (bF t tn j x)<0
        ·obtain⟨K,d,l⟩:=ih (by omega) c; exact⟨K,by omega,l⟩
        ·refine⟨n+1,A_ _,?_,fun i a => ?_⟩
         ·by_cases e:j=n+1
          ·rw[<- e]; exact g
          ·exact M_ ⟨j,by omega,g⟩ c
         ·rcases ilt (bC t tn (bF t tn i x))with h7|h7
          ·exact M_ ⟨i,by omega,h7⟩ c
          ·exact h7
     obtain⟨K,d,b⟩:=this i (by omega) ⟨i,A_ _,by omega⟩;exact⟨K,by omega,b⟩
    ·obtain rfl:i=D:=(by omega);obtain⟨K,d,b⟩:=wI (t:=t) (tn:=tn) (x:=x) i (by omega);exact⟨K,by omega,b⟩
theorem qm.dep(h:qm t t' tn id par)(z:1<=id)(v : ∀ i,i<tn->t i 1=0\/0<=bC t tn (t i 1))(s:par=0\/0<=bC t tn par)(B:bC t tn 0<0)(o : ∀ x,∃ D,D<=4/\bC t tn (bF t tn D x)<0)(p : ¬ DW t tn par) :
 ∀ x,∃ D,D<=4/\bC t' (tn+1) (bF t' (tn+1) D x)<0:=by
 have A:bC t tn id<0:=wG.2 h.no;have k : ∀ x K,x≠id->bC t tn (bF t tn K x)<0->(∀ i,i<K->0<=bC t tn (bF t tn i x))->bC t' (tn+1) (bF t' (tn+1) K x)<0:=fun x K c f a=>by
  rw[h.iter K a]
  rcases ilt (bC t' (tn+1) (bF t tn K x))with h1|h1
  ·exact h1
  ·exfalso
   rcases h.find.1 h1 with h2|h2
   ·omega
   ·cases K with
    | zero=>exact c h2
    | succ K =>
      have q:=a K (by omega);obtain⟨i,b,e⟩:=iV.1 q;have d:bF t tn (K+1) x=t i 1:=by
       show t (bC t tn (bF t tn K x)).toNat 1=t i 1;rw[<- e,wH h.u b]; rfl
      rw[d]at h2 f
      rcases v i b with h4|h4
      ·omega
      ·omega
 intro x;by_cases c:x=id
 ·subst c;obtain⟨i,b⟩:=Classical.not_forall.1 p;obtain⟨y,b⟩:=Classical.not_imp.1 b;obtain⟨K,f,g,a⟩:=wI (t:=t) (tn:=tn) (x:=par) i (by omega);refine⟨K+1,by omega,?_⟩;have l:bF t' (tn+1) 1 x=par:=by
   obtain⟨j,r,m,d⟩:=h.new;show t' (bC t' (tn+1) x).toNat 1=par;rw[<- m,wH h.u' r]; exact d
  rw[Gf,l];refine k par K ?_ g a;rintro rfl
  rcases s with h1|h1 <;> omega
 obtain⟨D,w,n⟩:=o x;obtain⟨K,f,g,a⟩:=wI D n;exact⟨K,by omega,k x K c g a⟩
end
end Rt
end
section
namespace Rt
section
variable {L:dP} {T:Nat} {v:EvM}
theorem Zu{t:Nat->Nat->Int}{tn:Nat}{id par:Int}(h:jP t tn id par=0):id≠0/\bC t tn id<0/\(par=0\/0<=bC t tn par)/\tn<32 /\ ¬ DW t tn par:=by
 unfold jP at h;split at h; · cases h
 rename_i h1;split at h; · cases h
 rename_i h2;split at h; · cases h
 rename_i h3;split at h; · cases h
 rename_i h4;refine⟨h1,by omega,?_,?_,fun b=>h4 (.inr b)⟩
 ·rcases ilt (bC t tn par)with h5|h5
  ·by_cases a:par=0
   ·exact .inl a
   exact M_ ⟨a,h5⟩ h3
  exact .inr h5
 rcases Nat.lt_or_ge tn 32 with h5|h5
 ·exact h5
 exact M_ (Or.inl h5) h4
theorem oP(h:bR v=true):1<=v.o/\v.o<=6/\1<=v.seq/\v.seq<1099511627776:=by
 have a:=jg h;have b:=EN h;unfold jh at a;simp only[T_,decide_eq_true_eq]at a;exact⟨a.1,a.2,b.1,b.2⟩
theorem sK(h:bR v=true):jE v.o v.seq=1099511627776*v.o+v.seq:=by
 have:=oP h;unfold jE; rw[d_ (by omega)]
theorem ku(h:bR v=true):aN v<6:=by
 have:=oP h; unfold aN; omega
theorem Zv{a:Nat}{n:Int}(ha:a<6)(f:0<=n)(h1:n<=1125899906842624):may (upd (fun _=>0) a n)=true:=by
 have e : ∀ p,upd (fun _=>0) a n p=if p=a then n else 0:=fun p=>rfl;rw[kr];refine⟨fun p l => ?_,fun k h => ?_,?_⟩
 ·rw[e]; split <;> omega
 ·have b : ∀ i j,R (upd (fun _=>0) a n) i j=0:=fun i j=>by unfold R; rw[e,b_ (by omega)]
  refine⟨?_,?_,b k k⟩
  ·unfold L;simp only[b];have g:0<=G (upd (fun _=>0) a n) k:=by unfold G; rw[e]; split <;> omega
   have d:F (upd (fun _=>0) a n) k=0:=(by unfold F; rw[e,b_ (by omega)]);have c:C (upd (fun _=>0) a n) k=0:=(by unfold C; rw[e,b_ (by omega)]);omega
  have d:F (upd (fun _=>0) a n) k=0:=by unfold F; rw[e,b_ (by omega)]
  have c:C (upd (fun _=>0) a n) k=0:=by unfold C; rw[e,b_ (by omega)]
  omega
 unfold nT G;simp only[e];have:(if 0=a then n else 0)+(if 1=a then n else 0)+(if 2=a then n else 0)+(if 3=a then n else 0)+(if 4=a then n else 0)+(if 5=a then n else 0)=n:=six a ha n;omega
theorem xQ(h:Inv0 L T)(d:bR v=true)(F:v.kind=1)(f:kW L v=0) : ∃ k,k<=L.nn/\1<=jE v.o v.seq/\L.nn<32/\(0<=v.aT/\v.aT<=140737488355328)/\(v.node=0\/0<=bC L.t L.tn v.node) /\ ¬ DW L.t L.tn v.node /\
 rH L v = { L with nn:=L.nn+1,id:=cO L.id k (jE v.o v.seq),par:=cO L.par k v.node,R:=cO L.R k (upd (fun _=>0) (aN v) v.aT),tn:=L.tn+1,t:=qj L.t k (jE v.o v.seq) v.node } /\
 (∀ i j,i<j->j<L.nn+1->cO L.id k (jE v.o v.seq) i<cO L.id k (jE v.o v.seq) j)/\(∀ i,i<L.nn+1->qj L.t k (jE v.o v.seq) v.node i 0=cO L.id k (jE v.o v.seq) i/\qj L.t k (jE v.o v.seq) v.node i 1=cO L.par k v.node i) /\
 qm L.t (qj L.t k (jE v.o v.seq) v.node) L.tn (jE v.o v.seq) v.node:=by
 unfold kW at f;split at f
 ·cases f
 rename_i h47;obtain⟨K,s,w,M,y⟩:=Zu f;have S:=oP d;have U:=sK d;have W:=ku d;have D:0<=v.aT/\v.aT<=140737488355328:=by
  have Q : ¬ 140737488355328<v.aT:=fun h=>h47 (.inr h);unfold bR at d;simp only[T_]at d;have l:=d.2;unfold dG at l;rw[d_ F]at l;simp only[T_,decide_eq_true_eq]at l;omega
 generalize hx:jE v.o v.seq=x at *;have J:1<=x:=by omega
 have A:down (fun i=>decide (x<L.t i 0)) L.tn=uj L.id L.nn x:=by
  unfold uj; rw[h.Db]; exact IV fun i a=>by rw[(h.tid i a).1]
 have z:rH L v = { L with nn:=L.nn+1,id:=cO L.id (uj L.id L.nn x) x,par:=cO L.par (uj L.id L.nn x) v.node,R:=cO L.R (uj L.id L.nn x) (upd (fun _=>0) (aN v) v.aT),tn:=L.tn+1,t:=qj L.t (uj L.id L.nn x) x v.node }:=by
  unfold rH; rw[hx,A]; rfl
 generalize hkk:uj L.id L.nn x=k at *;have c:k<=L.nn:=by rw[<- hkk]; exact Fx.wY _ _
 have G : ∀ i,i<L.nn->L.id i≠x:=fun i a e=>wG.1 s i (by rw[h.Db]; exact a) (by rw[(h.tid i a).1]; exact e);have C : ∀ q,k<=q->q<L.nn->x<L.id q:=fun q b g=>by
  have:=Fx.JC (P:=fun i=>decide (x<L.id i)) (n:=L.nn) (i:=q) (by show uj L.id L.nn x<=q; omega) g;exact h_ this
 have B : ∀ q,q<k->L.id q<x:=fun q b=>by
  obtain⟨j,rfl⟩ : ∃ j,k=j+1:=⟨k-1,by omega⟩;have g:=Fx.JD (P:=fun i=>decide (x<L.id i)) (n:=L.nn) (j:=j) hkk;have N : ¬ x<L.id j:=j_ g;have O:=G j (by omega);by_cases e:q=j
  ·subst e; omega
  ·have:=h.rise q j (by omega) (by omega); omega
 have H:L.nn<32:=by have:=h.Db; omega
 have m : ∀ i j,i<j->j<L.nn+1->cO L.id k x i<cO L.id k x j:=fun i j V hj=>by
  rcases dY c (show i<L.nn+1 by omega)with rfl|⟨q,hq,eq,q1,q2⟩
  ·rcases dY c hj with rfl|⟨r,hr,er,r1,r2⟩
   ·omega
   ·rw[dI,er];exact C r (by omega) hr
  ·rcases dY c hj with rfl|⟨r,hr,er,r1,r2⟩
   ·rw[dI,eq];exact B q (by omega)
   ·rw[eq,er];exact h.rise q r (by omega) hr
 have p : ∀ i,i<L.nn+1->qj L.t k x v.node i 0=cO L.id k x i/\qj L.t k x v.node i 1=cO L.par k v.node i:=fun i a=>by
  rw[zN]
  rcases dY c a with rfl|⟨q,hq,eq,_,_⟩
  ·rw[dI,dI,dI]; exact⟨rfl,rfl⟩
  ·rw[eq,eq,eq]; exact h.tid q hq
 have E : ∀ i j,i<L.nn+1->j<L.nn+1->cO L.id k x i=cO L.id k x j->i=j:=fun i j a hj e=>by
  rcases Nat.lt_trichotomy i j with b|b|b
  ·have:=m i j b hj; omega
  ·exact b
  ·have:=m j i b a; omega
 have I:qm L.t (qj L.t k x v.node) L.tn x v.node := {
  u:=h.aiM
  u':=fun i j a hj e=>by
   rw[h.Db]at a hj;rw[(p i a).1,(p j hj).1]at e;exact E i j a hj e
  no:=wG.1 s
  old:=fun i a=>by
   obtain⟨j,hj,_,e⟩:=BX (k:=k) a;exact⟨j,hj,by rw[zN]; exact e L.t _⟩
  new:=⟨k,by have:=h.Db; omega,by rw[zN,dI]; rfl,by rw[zN,dI]; rfl⟩
  back:=fun j hj=>by
   rw[h.Db]at hj
   rcases dY c hj with rfl|⟨q,hq,eq,_,_⟩
   ·exact .inl (by rw[zN,dI]; rfl)
   ·exact .inr ⟨q,by rw[h.Db]; exact hq,by rw[zN]; exact eq L.t _⟩ }
 exact⟨k,c,J,H,D,w,y,z,m,p,I⟩
theorem RY(h:Inv0 L T)(c:bR v=true)(w:v.kind=1)(r:kW L v=0):Inv0 (rH L v) (T+1):=by
 obtain⟨k,a,m,K,s,g,n,p,B,E,F⟩:=xQ h c w r;have I:=oP c;have J:=sK c;have C:=ku c;rw[p];generalize hx:jE v.o v.seq=x at *;have z : ∀ j,j<L.nn -> ∃ i,i<L.nn+1/\cO L.id k x i=L.id j:=fun j hj=>by
  obtain⟨i,hi,_,e⟩:=BX (k:=k) hj;exact⟨i,hi,e L.id x⟩
 have H:bC L.t L.tn 0<0:=wG.2 fun i hi e=>by
  rw[h.Db]at hi;rw[(h.tid i hi).1]at e;have:=h.pos i hi; omega
 have A:v.node=0 \/ ∃ j,j<L.nn/\L.id j=v.node:=by
  rcases g with e|e
  ·exact .inl e
  ·obtain⟨i,hi,d⟩:=iV.1 e;rw[h.Db]at hi;exact .inr ⟨i,hi,by rw[<- (h.tid i hi).1]; exact d⟩
 exact {
  Db:=by show L.tn+1=L.nn+1; rw[h.Db]
  nn:=by show L.nn+1<=32; omega
  tid:=E
  rise:=B
  pos:=fun i hi=>by
   show 1<=cO L.id k x i
   rcases dY a hi with rfl|⟨q,hq,eq,_,_⟩
   ·rw[dI]; exact m
   ·rw[eq]; exact h.pos q hq
  top:=fun i hi=>by
   show cO L.id k x i<_
   rcases dY a hi with rfl|⟨q,hq,eq,_,_⟩
   ·rw[dI]; omega
   ·rw[eq]; exact h.top q hq
  up:=fun i hi=>by
   show cO L.par k v.node i=0 \/ ∃ j,j<L.nn+1/\cO L.id k x j=cO L.par k v.node i;have l : ∀ y,(y=0 \/ ∃ j,j<L.nn/\L.id j=y)->(y=0 \/ ∃ j,j<L.nn+1/\cO L.id k x j=y):=fun y G=>G.imp id fun⟨j,hj,e⟩=>by
    obtain⟨i,hi,d⟩:=z j hj;exact⟨i,hi,d.trans e⟩
   rcases dY a hi with rfl|⟨q,hq,eq,_,_⟩
   ·rw[dI]; exact l _ A
   ·rw[eq]; exact l _ (h.up q hq)
  dep:=by
   show ∀ y,∃ D,D<=4/\bC (qj L.t k x v.node) (L.tn+1) (bF (qj L.t k x v.node) (L.tn+1) D y)<0;refine F.dep m (fun i hi => ?_) g H h.dep n;have f:=hi;rw[h.Db]at f;rw[(h.tid i f).2]
   rcases h.up i f with e|⟨j,hj,e⟩
   ·exact .inl e
   ·exact .inr (iV.2 ⟨j,by rw[h.Db]; exact hj,by rw[(h.tid j hj).1]; exact e⟩)
  gn:=Nat.le_succ_of_le h.gn
  rn:=fun i hi=>Nat.le_succ_of_le (h.rn i hi)
  may:=fun i hi=>by
   show may (cO L.R k _ i)=true
   rcases dY a hi with rfl|⟨q,hq,eq,_,_⟩
   ·rw[dI]; exact Zv C s.1 (by omega)
   ·rw[eq]; exact h.may q hq
  g47:=fun i hi b u=>by
   show cO L.R k _ i b<=_
   rcases dY a hi with rfl|⟨q,hq,eq,_,_⟩
   ·rw[dI];show(if b=aN v then v.aT else 0)<=_;split <;> omega
   ·rw[eq]; exact h.g47 q hq b u
  kn:=h.kn }
theorem IW{b:dP}{T':Nat}(h:Inv0 L T)(c:b.nn=L.nn)(d:b.id=L.id)(f:b.par=L.par)(g:b.tn=L.tn)(j:b.t=L.t)(m:b.known=L.known)(n:b.gn<=T')(hr : ∀ i,i<6->b.rn i<=T')
 (l : ∀ k,k<L.nn->may (b.R k)=true /\ ∀ a,a<6->b.R k a<=140737488355328):Inv0 b T' where
 Db:=by rw[c,g]; exact h.Db
 nn:=by rw[c]; exact h.nn
 tid:=by rw[c,d,f,j]; exact h.tid
 rise:=by rw[c,d]; exact h.rise
 pos:=by rw[c,d]; exact h.pos
 top:=by rw[c,d]; exact h.top
 up:=by rw[c,d,f]; exact h.up
 dep:=by rw[g,j]; exact h.dep
 gn:=n
 rn:=hr
 may:=by rw[c]; exact fun k e=>(l k e).1
 g47:=by rw[c]; exact fun k e=>(l k e).2
 kn:=by rw[m]; exact h.kn
def vB(x:Nat->Int):Prop:=may x=true /\ ∀ a,a<6->x a<=140737488355328
theorem Gg{f:(Nat->Int)->(Nat->Int) × Int}{idx:Nat->Nat}{R:Nat->Nat->Int}{n:Nat}(g : ∀ x,vB x->(f x).2=0->vB (f x).1)(d : ∀ k,k<n->vB (R k)) : ∀ K k,k<n->vB ((dz f idx R K).1 k)
 | 0,k,hk=>d k hk
 | K+1,k,hk=>by
   have a:=Gg g d (idx:=idx) K;unfold dz;by_cases e:(dz f idx R K).2=0
   ·rw[d_ e];by_cases b:(f ((dz f idx R K).1 (idx K))).2=0
    ·rw[d_ b];show vB (if k=idx K then _ else _);by_cases c:k=idx K
     ·rw[d_ c]; exact g _ (by rw[<- c]; exact a k hk) b
     ·rw[b_ c]; exact a k hk
    ·rw[b_ b]; exact a k hk
   ·rw[b_ e]; exact a k hk
theorem Zw{x:Nat->Int}{i n:Int}(h:vB x)(c:(bG x i n).2=0):vB (bG x i n).1:=by
 obtain⟨a,g,_,_,_,_,_,f,_,_,_,e⟩:=JW c;exact⟨f,fun b d=>by rw[e,gY _ _ _ _ (by omega)]; exact h.2 b d⟩
theorem Zx{x:Nat->Int}{i n:Int}(h:vB x)(c:(bH x i n).2=0):vB (bH x i n).1:=by
 obtain⟨a,g,_,_,_,_,f,_,_,_,e⟩:=JX c;exact⟨f,fun b d=>by rw[e,gY _ _ _ _ (by omega)]; exact h.2 b d⟩
theorem Zy{x:Nat->Int}{i j n:Int}(h:vB x)(d:(dn x i j n).2=0):vB (dn x i j n).1:=by
 obtain⟨a,b,k,l,_,_,_,_,_,_,g,e⟩:=zM d;exact⟨g.may,fun c f=>by rw[e,gY _ _ _ _ (by omega)]; exact h.2 c f⟩
theorem VJ{x:Nat->Int}{a:Nat}{n:Int}(ha:a<6)(h:vB x)(s:0<=n)(q : ¬ 140737488355328<x a+n):vB (upd x a (x a+n)):=by
 have d:=(kr x).1 h.1;have e : ∀ p,upd x a (x a+n) p=if p=a then x a+n else x p:=fun p=>rfl;have t:=d.1 a (by omega);have c : ∀ b,b<6->upd x a (x a+n) b<=140737488355328:=fun b l=>by
  rw[e]; split
  ·omega
  ·exact h.2 b l
 refine⟨(kr _).2 ⟨fun p o => ?_,fun k m => ?_,?_⟩,c⟩
 ·have:=d.1 p o;rw[e]; split <;> omega
 ·obtain⟨r,i,j⟩:=d.2.1 k m;have f:C (upd x a (x a+n)) k=C x k:=by unfold C; rw[e,b_ (by omega)]
  have g:F (upd x a (x a+n)) k=F x k:=by unfold F; rw[e,b_ (by omega)]
  refine⟨?_,?_,?_⟩
  ·rw[Vy x a (by omega),f,g,aiu]; split <;> omega
  ·rw[f,g]; exact i
  unfold R; rw[e,b_ (by omega)]; exact j
 unfold nT G;have:=c 0 (by omega); have:=c 1 (by omega); have:=c 2 (by omega); have:=c 3 (by omega); have:=c 4 (by omega); have:=c 5 (by omega);omega
theorem Inv0.Ma(h:Inv0 L T) : ∀ k,k<L.nn->vB (L.R k):=fun k a=>⟨h.may k a,h.g47 k a⟩
theorem Qh(h:Inv0 L T)(a:Nat) : ∀ i,i<6->aI L.rn a (L.rn a+1) i<=T+1:=fun i b=>by
 unfold aI;by_cases e:i=a
 ·subst e; rw[d_ rfl]; have:=h.rn i b; omega
 ·rw[b_ e]; have:=h.rn i b; omega
theorem Qi{q:Nat}{r:Nat->Int}(h : ∀ k,k<L.nn->vB (L.R k))(hr:vB r) : ∀ k,k<L.nn->vB (aI L.R q r k):=fun k a=>by
 unfold aI; split
 ·exact hr
 ·exact h k a
theorem Inv0.Qj(h:Inv0 L T){x:Int}(hx : ¬ L.node x<0):(L.node x).toNat<L.nn:=by
 rw[h.node]at hx ⊢;obtain⟨j,a,e,_⟩:=wz (show 0<=bC L.t L.tn x by omega);rw[e]; have:=h.Db; simp; omega
theorem RZ(h:Inv0 L T)(a : ∀ k,k<L.nn->vB ((nW L v).1 k)):Inv0 (mW L v) (T+1):=by
 unfold mW rO;generalize nW L v=W at a;exact IW h rfl rfl rfl rfl rfl rfl (Nat.succ_le_succ h.gn) (Qh h _) a
theorem R3(h:Inv0 L T)(a : ∀ k,k<L.nn->vB ((mX L v).1 k)):Inv0 (kX L v) (T+1):=by
 unfold kX rO;generalize mX L v=W at a;exact IW h rfl rfl rfl rfl rfl rfl (Nat.le_succ_of_le h.gn) (Qh h _) a
theorem VK(h:Inv0 L T)(f:bR v=true)(a:dX L v=0):Inv0 (iE L v) (T+1):=by
 have q:=jC f;have o:=ku f;have e:=h.gn;have d : ∀ i,i<6->L.rn i<=T+1:=fun i n=>Nat.le_succ_of_le (h.rn i n);unfold dX at a;unfold iE;by_cases b:v.kind=1
 ·rw[d_ b]at a ⊢; exact RY h f b a
 by_cases c:v.kind=2
 ·rw[b_ b,d_ c]at a ⊢;unfold xP at a;split at a; · cases a
  rename_i n1;split at a; · cases a
  rename_i n2;have p:=lV f (.inl c);exact IW h rfl rfl rfl rfl rfl rfl (Nat.le_succ_of_le e) d (Qi h.Ma (VJ o (h.Ma _ (h.Qj n1)) (by omega) n2))
 by_cases g:v.kind=3
 ·rw[b_ b,b_ c,d_ g]at a ⊢;have j : ∀ k,k<L.nn->vB ((nW L v).1 k):=by unfold nW; exact Gg (fun x=>Zw) h.Ma _
  exact RZ h j
 by_cases l:v.kind=4
 ·rw[b_ b,b_ c,b_ g,d_ l]at a ⊢;have j : ∀ k,k<L.nn->vB ((mX L v).1 k):=by unfold mX; exact Gg (fun x=>Zx) h.Ma _
  exact R3 h j
 by_cases m:v.kind=5
 ·rw[b_ b,b_ c,b_ g,b_ l,d_ m]at a ⊢;unfold oO at a;split at a; · cases a
  rename_i n1;split at a; · cases a
  exact IW h rfl rfl rfl rfl rfl rfl (Nat.le_succ_of_le e) d (Qi h.Ma (Zy (h.Ma _ (h.Qj n1)) a))
 rw[b_ b,b_ c,b_ g,b_ l,b_ m];split
 ·exact IW h rfl rfl rfl rfl rfl rfl (Nat.le_succ_of_le e) d h.Ma
 exact IW h rfl rfl rfl rfl rfl rfl (Nat.le_succ_of_le e) d h.Ma
theorem Bd(h:Inv0 L T):Inv0 (bV L v) (T+1):=by
 unfold bV;by_cases a:bD L v=0
 ·rw[d_ a];unfold bD at a;split at a; · cases a
  rename_i h1;split at a; · cases a
  split at a; · cases a
  rename_i h3;split at a; · cases a
  have b:bR v=true:=by simpa using h1
  have c:dJ L.known v=true:=by simpa using h3
  have g:=VK h b a;have k:=ku b;have m:=EN b;refine { g with kn:=fun i j => ?_ };have e:(D5 (iE L v) v).known=aI L.known (aN v) (L.known (aN v)+1):=by unfold D5; simp only[qH]
  rw[e];unfold dJ at c;simp only[T_,decide_eq_true_eq]at c;have d:=h.kn;unfold aI;split
  ·have f:=c.1.2;have l:v.seq=L.known (aN v)+1:=f;have:=d (aN v) k;omega
  exact d i j
 rw[b_ a]; exact h.mono (Nat.le_succ T)
end
end Rt
end
end Go.Proofs.YtcbedgfikejkoaaGreatDoor
