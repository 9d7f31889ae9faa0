/-
  What the proof of the law rests on, part 4: walks of functions, and plain laws; each says its conditions itself.
-/
import Derived.Laws.StructEq
import Derived.Test.YtcbedgfikejkoaaGreatDoorZB3
set_option maxHeartbeats 1600000
set_option linter.unusedVariables false
set_option linter.unusedSimpArgs false
namespace Go.Proofs.YtcbedgfikejkoaaGreatDoor
open Go.RowKit Rt
open Fx (fG fV bf dz dR dX Lv sN Ln Ws Qv Wl Rp Wr Sb Wk rC sR Rs Rn Rd Rk Wb Wx Wo Wt qB Qn xO zf Dv qz gQ zh vM wW ze CY zO rv aA aR bC ev cu Stp aP flat dA aT iM aZ down bJ bF cells_one iW bE wX jH iD bV dD bK bP bW bX gP iq pK fO)
set_option maxRecDepth 20000 in
set_option maxHeartbeats 1000000 in
theorem ace(m:kr)(p:Nat)(w:World)(h:BG w p m)(bn1:m.s.nn<=1000)(bt1:m.tn<=1000) :
 Calls Tryz.prog 81 #[(pt p)] w fun e w' => ∃ p' m',e = .returned (pt p')/\m'.core=m.core/\sM w' w.heap.size p' m'/\Below w.heap.size w w':=by
 have P:=h.c;have lp:p<w.heap.size:=P.lt (by omega);have bn:=h.bn;have bg:=h.bg;have bt:=h.bt;have han:=h.an;have hag:=h.ag;have hat:=h.at2;have htc:=h.tc;have Ra:m.tb<w.heap.size:=htc.lt (by omega);refine Kent Tryz.func81 79 ?_;refine ay<|av (.pointer none)<|aD<|ay<|av (pt p)<|av (pt p)<|av (pt p)<|Lv (.agg (aA 20 (mY m.s))) (fC P 0 (fun j hj=>(show kU _ (0+j)=mY _ j by rw[G_]; exact jr _ hj rfl)))<|av (.agg (aA 1 (fun _ => .slice none 0 0)))<|oL fun b w1 lY m1 s1 z1 => ?_;have⟨m2,m3,b1⟩:=iy s1.old P htc (Below.refl w.heap.size w);have su:=gH lY;have mJ:p≠b:=by rw[lY]; exact u_ (P.lt (by omega))
 have TT:m.tb≠b:=by rw[lY]; exact u_ (htc.lt (by omega))
 have ug:=m1.lt;refine av (.agg (aA 27 (bC (bC (fun o=>if o<12 then .bool false else if o<18 then aC 0 else if o<20 then .slice none 0 0 else if o<21 then .pointer none else .slice none 0 0) 0 20 (mY m.s)) 20 1 (fun _=>(pt b)))))<|Dv (m:=27) (y:=bC (bC (fun o=>if o<12 then .bool false else if o<18 then aC 0 else if o<20 then .slice none 0 0 else if o<21 then .pointer none else .slice none 0 0) 0 20 (mY m.s)) 20 1 (fun _=>(pt b))) (by rfl) rfl rfl (bF _ _) rfl fun a w2 X m4 s2 z2 => ?_;have⟨m5,m6,m7,b2⟩:=jP s2.old m2 m3 m1 b1;have qK:=iI X b1.size;have KT:p≠a:=by rw[X]; exact u_ (m2.lt (by omega))
 have aac:m.tb≠a:=by rw[X]; exact u_ (m3.lt (by omega))
 have KU:=bY X m1.lt;have yK:=m4.lt;refine av (pt a)<|aD<|ay<|av (pt a)<|Fx.L.N9 (s:=56) (by rfl) rfl Tryz.underlying47 (by kernel_rfl) rfl fun g3 w3 yL hO1 s3 => ?_;have R:Fx.Own w3 w.heap.size 84 56 (bL g3 0 0) 0 (JW m):=hO1 _ _ (by rw[yL]; exact b2.size);have⟨m9,m10,m11,m12,U⟩:=oQ s3.old m5 m6 m7 m4 b2;refine av (pt p)<|av (pt p)<|av (pt p)<|av (pf p 18)<|Lv (.slice m.s.na (m.s.nn) (m.s.nc)) (aL m9 18)<|Fx.L.IX (B:=w.heap.size) (s:=56) (bytes:=448) (k:=0) (m:=m.s.nn) (v:=bL g3 0 0) (x:=JW m) (by rfl) rfl rfl rfl Tryz.underlying47 (by kernel_rfl) (by kernel_rfl) rfl rfl R (han.up U rfl) (fun j _=>XO m j) (by omega) (by omega) U.size fun vv1 w4 ho1 Z wu => ?_;rw[G_]at ho1;obtain⟨C,E,rfl⟩:=ho1.val;have gY:=zh Z R;have m14:=m9.grown Z (R.not (by omega));have m15:=m10.grown Z (R.not (by omega));have⟨m16,m17⟩:=BM gY m11 m12;have m13:Fx.Own w4 w.heap.size 84 56 (.slice C (m.s.nn) (E)) m.s.nn (JW m):=(ho1.congr (fun j _=>app0 j));have b4:Below w.heap.size w w4:=ze U Z U.size (fun q l=>(R.ge l).1);refine av (pt a)<|av (pt a)<|av (pf a 18)<|jd m17 18 (.slice C (m.s.nn) (E)) fun w5 m18 s4 z3 => ?_;have m19:=m14.cB s4 (by omega);have m20:=m15.cB s4 (by omega);have jQ:=gQ s4 m17.ty;have⟨m21,m22⟩:=BM jQ m16 m13;have b5:=s4.below b4 b4.size (by omega);refine aD<|ay<|av (pt a)<|Fx.L.N9 (s:=5) (by rfl) rfl Tryz.underlying48 (by kernel_rfl) rfl fun g4 w6 JU hO2 s5 => ?_;have Q:Fx.Own w6 w.heap.size 106 5 (bL g4 0 0) 0 (Jh m):=hO2 _ _ (by rw[JU]; exact b5.size);have⟨m24,mV,nO,ow,oD,V⟩:=qD s5.old m19 m20 m21 m22 m18 b5;refine av (pt p)<|av (pt p)<|av (pt p)<|av (pf p 19)<|Lv (.slice m.s.ga (m.s.gn) (m.s.gc)) (aL m24 19)<|Fx.L.IX (B:=w.heap.size) (s:=5) (bytes:=40) (k:=0) (m:=m.s.gn) (v:=bL g4 0 0) (x:=Jh m) (by rfl) rfl rfl rfl Tryz.underlying48 (by kernel_rfl) (by kernel_rfl) rfl rfl Q (hag.up V rfl) (fun j _=>XP m j) (by omega) (by omega) V.size fun vv2 w7 ho2 aa M4 => ?_;rw[G_]at ho2;obtain⟨D,F,rfl⟩:=ho2.val;have qF:=zh aa Q;have oz:=m24.grown aa (Q.not (by omega));have lZ:=mV.grown aa (Q.not (by omega));have⟨m32,pR,nG⟩:=AB qF nO ow oD;have nU:Fx.Own w7 w.heap.size 106 5 (.slice D (m.s.gn) (F)) m.s.gn (Jh m):=(ho2.congr (fun j _=>app0 j));have b7:Below w.heap.size w w7:=ze V aa V.size (fun q l=>(Q.ge l).1);refine av (pt a)<|av (pt a)<|av (pf a 19)<|jd nG 19 (.slice D (m.s.gn) (F)) fun w8 oF s6 z4 => ?_;have nV:=oz.cB s6 (by omega);have rQ:=lZ.cB s6 (by omega);have zS:=gQ s6 nG.ty;have⟨qG,qH,tN⟩:=AB zS m32 pR nU;have b8:=s6.below b7 b7.size (by omega);refine aD<|Ws ?_;refine zO [0,1,2,4,5,6,11,12,13,3,7,8,9,10,14,15,16,17,18,19,20,21] [0,0,0,1,0,0,0,4,0,0,4,0,0,0,4,0,0,4,2,0,0,3] (iW [153]) vM Fx.iW.trans (fP := [(21,3,[3]),(18,7,[10,9,8,7]),(21,7,[7]),(18,10,[10]),(21,10,[10]),(18,14,[17,16,15,14]),(21,14,[14]),(18,17,[17]),(21,17,[17]),(19,18,[18]),(20,18,[18]),(21,18,[18])]) (by kernel_rfl) (by kernel_rfl) (by kernel_rfl) (by kernel_rfl) (by kernel_rfl) fun K dP iC => ?_;have⟨mW,mK,mX,qI,qy,oG,W⟩:=jK dP nV rQ qG qH tN oF b8;refine aY (pt a)<|aY (pt a)<|aY (pf a 20)<|aY (pt a)<|aY (pt a)<|aY (pf a 20)<|aY (pt p)<|aY (pt p)<|aY (pf p 20)<|Rd (v:=(pt b)) (by rfl) (by rfl) (vM _) (fun v1 hv1=>bf (x:=dA (dA (bC (bC (fun o=>if o<12 then .bool false else if o<18 then aC 0 else if o<20 then .slice none 0 0 else if o<21 then .pointer none else .slice none 0 0) 0 20 (mY m.s)) 20 1 (fun _=>(pt b))) 18 (.slice C (m.s.nn) (E))) 19 (.slice D (m.s.gn) (F))) rfl rfl (by kernel_rfl) (oG.kL hv1 (by decide)).aH (i:=20) (by omega) (by omega) (Fx.Ay (by omega) (Fx.Ay (by omega) (Fx.qA (j:=0) (by omega) (by omega) rfl)))) ?_;refine Rs (pt b) (aL oG.aH 20 (Fx.Ay (by omega) (Fx.Ay (by omega) (Fx.qA (j:=0) (by omega) (by omega) rfl)))) ?_;refine aY (pt b)<|aY (pt b)<|Rs (.slice none 0 0) (aL mX.aH 0) ?_;refine Rs (pt m.tb) (aL mW 20) ?_;refine aY (pt m.tb)<|aY (pt m.tb)<|Rs (.slice m.ta (m.tn) (m.tc)) (aL mK 0) ?_;refine zi<|Fx.L.IX (B:=w.heap.size) (s:=2) (bytes:=16) (k:=0) (m:=m.tn) (v := .slice none 0 0) (x:=Qe m.t) (by rfl) rfl rfl rfl Tryz.underlying154 (by kernel_rfl) (by kernel_rfl) rfl rfl (wW K w.heap.size 153 2 (Qe m.t)) (hat.up W rfl) (fun _ _=>rfl) (by omega) (by omega) W.size fun vv3 w9 ho3 A avm => ?_;rw[G_]at ho3
 obtain⟨u,z,rfl⟩:=ho3.val;have zk:=zh A (wW K w.heap.size 153 2 (Qe m.t));have hq1:Below K.heap.size K w9:=⟨A.os,A.tape,A.output,A.size,fun q l=>A.block q l (fun e=>by cases e)⟩
 have uW:=mW.cB (Sb hq1) (u_ (mW.lt (by omega)));have hq2:Below K.heap.size K w9:=⟨A.os,A.tape,A.output,A.size,fun q l=>A.block q l (fun e=>by cases e)⟩
 have tO:=mK.cB (Sb hq2) (u_ (mK.lt (by omega)));have⟨tJ,vN,uN,uj⟩:=Kh zk mX qI qy oG;have rG:Fx.Own w9 w.heap.size 153 2 (.slice u (m.tn) (z)) m.tn (Qe m.t):=(ho3.congr (fun j _=>app0 j));have b10:Below w.heap.size w w9:=ze W A W.size (fun q l=>((wW K w.heap.size 153 2 (Qe m.t)).ge l).1);refine Ln ⟨zk,?_⟩;refine aY (pt b)<|aY (pt b)<|gW<|jd tJ 0 (.slice u (m.tn) (z)) fun tH uX s8 z5 => ?_;have xC:aR tH b 1 (fun _ => .slice u (m.tn) (z)) 156:=dD uX;have sw:=uW.cB s8 (by omega);have sD:=tO.cB s8 (by omega);have zl:=gQ s8 tJ.ty;have⟨tK,xD,qJ,uz⟩:=Kh zl vN uN uj rG;have b11:=s8.below b10 b10.size (by omega);refine Ln<|bQ<|Ws<|ay<|av (au 0)<|aD<|Wb ?_;have nW:aR tH a 27 (kU (KS m C E D F b u z (fun _=>none) (fun _=>0) 0)) 56:=qJ.congr (fun j hj=>by rcases j with _|_|_|_|_|_|_|_|_|_|_|_|_|_|_|_|_|_|_|_|_|_|_|_|_|_|_|j <;> first|rfl|omega)
 have tL:=wJ.zero tH w.heap.size (KS m C E D F b u z (fun _=>none) (fun _=>0) 0);refine Wo (fun f H => ∃ k:Nat,∃ I:Nat->Option Addr,∃ J:Nat->Nat,k<=6/\f 0=(pt p)/\f 3=(pt a)/\f 4=au (k:Int)/\iM H p 0 27 (kU m)/\Fx.Own H w.heap.size 84 56 (.slice C (m.s.nn) (E)) m.s.nn (JW m)/\Fx.Own H w.heap.size 106 5 (.slice D (m.s.gn) (F)) m.s.gn (Jh m)/\Fx.Own H w.heap.size 153 2 (.slice u (m.tn) (z)) m.tn (Qe m.t)/\aR H b 1 (fun _ => .slice u (m.tn) (z)) 156/\aR H a 27 (kU (KS m C E D F b u z I J k)) 56/\wJ H w.heap.size k (KS m C E D F b u z I J k)/\Below w.heap.size w H) (fun f _=>(6-(intOf (f 4)).toNat)) ⟨0,(fun _=>none),(fun _=>0),by omega,(by rfl),(by rfl),Fx.ic,sw,tK,xD,uz,xC,nW,tL,b11⟩ ?_;rintro f1 Gc ⟨k,I,J,hk,h1,Y,M,m64,xE,xg,vO,wz,sF,uO,b12⟩;refine Ws<|ay<|aX M ?_;by_cases c57:(k:Int)<6
 ·refine Lv aG (gJ c57)<|aD<|aM<|Wk<|sN<|Ws<|Wb ?_;have brk:=h.br k (by omega);have uY:=P.below b12 lp;refine zO [0,1,2,3,4,5,6,8,9,10,11,12,15,16,7,13,14,17,18] [0,0,0,0,0,0,0,4,0,0,0,0,0,4,2,0,0,0,3] (iW [23]) vM Fx.iW.trans (fP := [(14,7,[7]),(18,7,[7]),(14,13,[13]),(18,13,[13]),(17,14,[14]),(18,14,[14])]) (by kernel_rfl) (by kernel_rfl) (by kernel_rfl) (by kernel_rfl) (by kernel_rfl) fun G gL nT => ?_;have⟨vP,vQ,zG,xk,zm,zn,yJ,xq,T⟩:=BL gL m64 xE xg vO wz sF uO uY b12;refine bU Y<|bU M<|bU Y<|bU M<|aY (pt a)<|aY (pf a 21)<|Rp (pf a (k+21)) (fun _=>jI 6 1)<|bU h1<|bU M<|aY (pt p)<|aY (pf p 21)<|Rp (pf p (k+21)) (fun _=>jI 6 1)<|aY (pt a)<|aY (pf a 21)<|Rs (.slice none 0 0) (aL zn.aH (k+21) (XR (by omega))) ?_;refine Rs (.slice (m.ra k) (m.rn k) (m.rc k)) (aL vP (k+21) (wI _ (by omega))) ?_;refine zi<|Fx.L.IX (B:=w.heap.size) (s:=1) (bytes:=8) (k:=0) (m:=(m.rn k)) (v := .slice none 0 0) (x:=rv .u64 (m.rq k)) (by rfl) rfl rfl rfl Tryz.underlying53 (by kernel_rfl) (by kernel_rfl) rfl rfl (wW G w.heap.size 23 1 (rv .u64 (m.rq k))) ((h.ar k (by omega)).up T rfl) (fun _ _=>rfl) (by omega) (by omega) T.size fun vv4 S ho4 d alz => ?_;rw[G_]at ho4;obtain⟨N,O,rfl⟩:=ho4.val;have A8:=zh d (wW G w.heap.size 23 1 (rv .u64 (m.rq k)));have hq3:Below G.heap.size G S:=⟨d.os,d.tape,d.output,d.size,fun q l=>d.block q l (fun e=>by cases e)⟩
  have wC:=vP.cB (Sb hq3) (u_ (vP.lt (by omega)));have⟨xW,zT,xX,AU,Au⟩:=rE A8 vQ zG xk zm zn;have hq4:Below G.heap.size G S:=⟨d.os,d.tape,d.output,d.size,fun q l=>d.block q l (fun e=>by cases e)⟩
  have Av:=yJ.up hq4;have hq5:Below G.heap.size G S:=⟨d.os,d.tape,d.output,d.size,fun q l=>d.block q l (fun e=>by cases e)⟩
  have zU:=xq.cB (Sb hq5) (u_ (xq.lt (by omega)));have wB:Fx.Own S w.heap.size 23 1 (.slice N (m.rn k) (O)) (m.rn k) (rv .u64 (m.rq k)):=(ho4.congr (fun j _=>app0 j));have b14:Below w.heap.size w S:=ze T d T.size (fun q l=>((wW G w.heap.size 23 1 (rv .u64 (m.rq k))).ge l).1);have hf1:=yJ.fresh alz;refine Ln ⟨A8,?_⟩;refine Rp (pf a (k+21)) (fun _=>jI 6 1)<|gW<|jd Au (k+21) (.slice N (m.rn k) (O)) fun Gq zV ab z6 => ?_;have AV:=wC.cB ab (by omega);have EY:=gQ ab Au.ty;have⟨EN,DJ,Cb,C9,zZ⟩:=rE EY xW zT xX AU Av;have Gd:=zU.cB ab (by omega);have Ec:=kR EY wB;have b15:=ab.below b14 b14.size (by omega);refine Ln<|Rn<|bP<|sN<|Wl<|aX M<|Lv (au ((k:Int)+1)) fF<|av (au ((k:Int)+1))<|Ln ?_;have Gf:aR Gq a 27 (kU (KS m C E D F b u z (aI I k N) (aI J k O) (k+1))) 56:=zV.to (TS (by omega));have Gr:wJ Gq w.heap.size (k+1) (KS m C E D F b u z (aI I k N) (aI J k O) (k+1)):=XT zZ Ec hf1
  skip
  refine iq ⟨k+1,(aI I k N),(aI J k O),by omega,h1,Y,Fx.ic,AV,EN,DJ,Cb,C9,Gf,Gr,b15⟩ ?_;show(6-(intOf (au ((k:Int)+1))).toNat)<_;simp only[M,intOf]; omega
 refine Lv aF (gK c57)<|aD<|aK<|Wx<|bW<|gP<|bX<|sN<|ay<|aX Y<|av (pt a)<|aD<|Wr<|aJ (pt a) ?_;have ek:k=6:=by omega
 subst ek;exact⟨a,atM m C E D F b u z I J,rfl,rfl,{ c:=sF.congr agv,n:=xE,g:=xg,tc:=wz,t:=vO,r:=XU uO,pB:=qK,tB:=su,bn:=bn1,bg:=bg,bt:=bt1,br:=h.br },b12⟩
namespace Rt
def mP(id:Nat->Int)(o:Int):Nat->Nat
 | 0=>0
 | n+1=>mP id o n+if id n / 1099511627776=o then 1 else 0
theorem TU{id:Nat->Int}{o:Int}{c k:Nat}(h:c=mP id o k)(e:id k / 1099511627776=o):c+1=mP id o (k+1):=by unfold mP; rw[d_ e,h]
theorem XV{id:Nat->Int}{o:Int}{c k:Nat}(h:c=mP id o k)(e : ¬ id k / 1099511627776=o):c=mP id o (k+1):=by unfold mP; rw[b_ e,h]; rfl
noncomputable def kF(L:fA)(v:EvM):Int:=if 5<=mP L.id v.o L.nn\/140737488355328<v.aQ then 6 else jE L.t L.tn (jk v.o v.seq) v.node
def sO(f:Nat->Int)(n:Nat)(x:Int):Nat:=down (fun i=>decide (x<f i)) n
def qL(L:fA)(v:EvM):fA :=
 { L with nn:=L.nn+1,id:=cu L.id (sO L.id L.nn (jk v.o v.seq)) (jk v.o v.seq),par:=cu L.par (sO L.id L.nn (jk v.o v.seq)) v.node,
          R:=cu L.R (sO L.id L.nn (jk v.o v.seq)) (upd (fun _=>0) (v.o-1).toNat v.aQ),
          tn:=L.tn+1,t:=pE L.t (down (fun i=>decide (jk v.o v.seq<L.t i 0)) L.tn) (jk v.o v.seq) v.node }
theorem TV{id par:Int}(j:Nat):bC (bC (fun c=>if c<2 then aC 0 else au 0) 0 1 (fun _=>aC id)) 1 1 (fun _=>aC par) j=mE id par (fun _=>0) j:=by
 unfold bC mE;by_cases a:j=0
 ·subst a; rfl
 by_cases b:j=1
 ·subst b; rfl
 rw[b_ (by omega),b_ (by omega),b_ a,b_ b]; show(if j<2 then _ else _)=_; rw[b_ (by omega)]
theorem OA{id par:Int}{R:Nat->Int}{a q:Nat}{x:Int}(d:q=a+2):dA (mE id par R) q (au x)=mE id par (upd R a x):=by
 subst d
 funext p
 unfold dA mE upd;by_cases h:p=a+2
 ·subst h; rw[d_ rfl,b_ (by omega),b_ (by omega),d_ (by omega)]
 rw[b_ h];by_cases b:p=0
 ·rw[d_ b,d_ b]
 by_cases c:p=1
 ·rw[b_ b,d_ c,b_ b,d_ c]
 rw[b_ b,b_ c,b_ b,b_ c,b_ (by omega)]
theorem OB{id par:Nat->Int}{R:Nat->Nat->Int}{k:Nat}{a b:Int}{c:Nat->Int}:Fx.IZ (fun d=>mE (id d) (par d) (R d)) k (mE a b c)=fun d=>mE (cu id k a d) (cu par k b d) (cu R k c d):=by
 funext i
 unfold Fx.IZ cu;by_cases h:i<k
 ·simp only[d_ h]
 by_cases e:i=k
 ·simp only[b_ h,d_ e]
 simp only[b_ h,b_ e]
theorem Hu(m:kr)(a:Option Addr)(n c:Nat):dA (kU m) 18 (.slice a n c)=kU { m with s := { m.s with na:=a,nn:=n,nc:=c } }:=by
 funext p
 unfold dA kU;by_cases h:p=18
 ·subst h; rfl
 rw[b_ h];by_cases e:p<20
 ·rw[d_ e,d_ e]; unfold mY;by_cases b:p<6
  ·rw[d_ b,d_ b]
  by_cases d:p<12
  ·rw[b_ b,d_ d,b_ b,d_ d]
  by_cases f:p<18
  ·rw[b_ b,b_ d,d_ f,b_ b,b_ d,d_ f]
  rw[b_ b,b_ d,b_ f,b_ h,b_ b,b_ d,b_ f,b_ h]
 rw[b_ e,b_ e]
theorem yO{s:Nat}{z y:Nat->Value}(hy : ∀ j,(y j).oneCell'=true) : ∀ j,j<1*s->(bC z (0*s) s y j).oneCell'=true:=fun j a=>by
 unfold bC; rw[d_ (by omega)]; exact hy _
theorem TW{f:Nat->Int}{n k j:Nat}{x:Int}(e:k=j+1)(h : ∀ i,k<=i->i<n->x<f i)(c:x<f j) : ∀ i,j<=i->i<n->x<f i:=fun i d b=>by
 by_cases a:i=j
 ·subst a; exact c
 ·exact h i (by omega) b
end Rt
theorem Rt.KV{t:Nat->Nat->Int}{tn:Nat}{id par:Int}(h:jE t tn id par=0):tn+1<=33:=by
 unfold jE at h;split at h; · cases h
 split at h; · cases h
 split at h; · cases h
 split at h; · cases h
 rename_i h4
 rcases Nat.lt_or_ge tn 32 with h5|h5
 ·omega
 exact M_ (Or.inl h5) h4
set_option maxRecDepth 20000 in
set_option maxHeartbeats 2000000 in
theorem XW(m:kr)(B p a D:Nat)(v:EvM)(w:World)(C:sM w B p m)(u:B<=w.heap.size)(ha:a<6)(ho:v.o=(a:Int)+1)(bnn:m.s.nn<=900)(hD:bD m.t m.tn (aU m.t m.tn D v.node)<0)(hD2:D<=1000) :
 Calls Tryz.prog 124 #[(pt p),.agg (aA 14 (bM v))] w fun e w'=>e = .returned (au (kF m.core v))/\Below B w w'/\(kF m.core v=0 -> ∃ m',m'.core=qL m.core v/\sM w' B p m'):=by
 have TY:=C.c;have hLn:=C.n;have hLg:=C.g;have T9:=C.tc;have Ua:=C.t;have hLr:=C.r;have Ub:=C.pB;have DK:=C.tB;have bn:=C.bn;have bg:=C.bg;have bt:=C.bt;have XY:p<w.heap.size:=TY.lt;have Ra:m.tb<w.heap.size:=T9.lt;refine Kent Tryz.func124 132 ?_;refine ay<|oL fun I w1 lY m1 s1 z1 => ?_;have⟨m2,m3,m4,m5,m6,m7⟩:=qD s1.old TY hLn hLg T9 Ua hLr;have b1:=eZ s1.old (Below.refl B w) u;have su:=iI lY (Below.refl B w).size;have⟨mJ,xw⟩:=uw lY TY.lt T9.lt;have ug:=m1.lt;refine av (au 0)<|aD<|ay<|av (au 0)<|aD<|Ws<|ay<|av (au 0)<|aD<|Wb<|Wo (fun f z => ∃ k:Nat,∃ G:Nat,k<=m.s.nn/\G<=k/\G=mP m.id v.o k/\f 0=(pt p)/\f 3=(pt I)/\f 5=au (G:Int)/\f 6=au (k:Int)/\aR z p 27 (kU m) 56/\Fx.Own z B 84 56 (.slice m.s.na (m.s.nn) (m.s.nc)) m.s.nn (JW m)/\Fx.Own z B 106 5 (.slice m.s.ga (m.s.gn) (m.s.gc)) m.s.gn (Jh m)/\aR z m.tb 1 (fun _ => .slice m.ta m.tn m.tc) 156/\Fx.Own z B 153 2 (.slice m.ta (m.tn) (m.tc)) m.tn (Qe m.t)/\wJ z B 6 m/\aR z I 14 (bM v) 37/\Below B w z) (fun f _=>(m.s.nn-(intOf (f 6)).toNat)) ⟨0,0,by omega,by omega,rfl,(by rfl),(by rfl),Fx.ic,Fx.ic,m2,m3,m4,m5,m6,m7,m1,b1⟩ ?_;rintro f1 O ⟨k,G,hk,hcl,aa,J,K,h3,Y,m8,m9,m10,m11,m12,m13,W,b2⟩;refine Ws<|ay<|aX Y<|aX J<|av (pt p)<|av (pt p)<|av (pf p 18)<|Lv (.slice m.s.na (m.s.nn) (m.s.nc)) (aL m8.aH 18)<|av (au m.s.nn) ?_;by_cases c18:(k:Int)<(m.s.nn:Int)
 ·refine Lv aG (gJ c18)<|aD<|aM<|Wk<|sN<|Ws<|Wb<|Ws ?_;refine uR<|dO J<|aW (pt p)<|aW (pt p)<|aW (pf p 18)<|Qv (.slice m.s.na (m.s.nn) (m.s.nc)) (fun F E=>aL (m8.aH.dr E) 18)<|dO Y ?_;obtain⟨Gg,eq1⟩:=m9.addr (by omega);have m15:Fx.Own O B 84 56 (bL Gg m.s.nn m.s.nc) m.s.nn (JW m):=m9.fB (L_ (fun q=>Value.slice q m.s.nn m.s.nc) eq1);refine Qv (pf Gg (56*k)) (fun F E=>cO 56 (hx:=(rfl.trans (L_ (fun q=>Value.slice q (m.s.nn) (m.s.nc)) eq1))))<|aW (pf Gg (56*k))<|Qv (aC (m.id k)) (fun F E=>aL (m15.aH.dr E) (56*k) (Fx.fq (k:=k) (j:=0) (by omega) (by omega) rfl))<|Qv (aC ((m.id k) / 1099511627776)) (fun F E=>Fx.ZJ (b:=40) (q:=1099511627776) rfl rfl rfl (by decide) (by decide))<|Qv (pt I) (fun F E=>jA K 0)<|Qv (au v.o) (fun F E=>aL (W.aH.dr E) 0)<|Qv (aC v.o) (fun F E=>dz rfl rfl (by kernel_rfl) Tryz.underlying23 (jH (by omega) rfl)) ?_;by_cases c34:((m.id k) / 1099511627776)=v.o
  ·refine Qv aG (fun F E=>fI c34)<|Qn ?_;rintro _ ⟨qd,rfl⟩;obtain⟨BX,pF⟩ : ∃ F,F=World.drewN O qd:=⟨_,rfl⟩;rw[<- pF];have s2:Stp O.heap.size O BX:=(by rw[pF]; exact Sb (je O qd));have⟨m16,m17,m18,m19,m20,m21,m22⟩:=jK s2.old m8 m10 m11 m12 m13 W m15;have b3:=eZ s2.old b2 u;clear pF;refine sN<|aM<|Wl<|aX h3<|Lv (au ((G:Int)+1)) fF<|av (au ((G:Int)+1))<|Ln<|bP<|sN<|Wl<|aX Y<|Lv (au ((k:Int)+1)) fF<|av (au ((k:Int)+1))<|Ln ?_;have m23:Fx.Own BX B 84 56 (.slice m.s.na (m.s.nn) (m.s.nc)) m.s.nn (JW m):=m22.fB (L_ (fun q=>Value.slice q m.s.nn m.s.nc) eq1.symm);refine iq ⟨k+1,G+1,by omega,by omega,(TU aa c34),J,K,Fx.ic,Fx.ic,m16,m23,m17,m18,m19,m20,m21,b3⟩ ?_;show(m.s.nn-(intOf (au ((k:Int)+1))).toNat)<_;simp only[Y,intOf]; omega
  refine Qv aF (fun F E=>gG c34)<|Qn ?_;rintro _ ⟨qd,rfl⟩;obtain⟨wq2,sP⟩ : ∃ F,F=World.drewN O qd:=⟨_,rfl⟩;rw[<- sP];have s3:Stp O.heap.size O wq2:=by rw[sP]; exact Sb (je O qd)
  have⟨m24,mV,nO,ow,oD,nU,oz⟩:=jK s3.old m8 m10 m11 m12 m13 W m15;have b4:=eZ s3.old b2 u;clear sP;refine sN<|aK<|Wk<|bP<|sN<|Wl<|aX Y<|Lv (au ((k:Int)+1)) fF<|av (au ((k:Int)+1))<|Ln ?_;have lZ:Fx.Own wq2 B 84 56 (.slice m.s.na (m.s.nn) (m.s.nc)) m.s.nn (JW m):=oz.fB (L_ (fun q=>Value.slice q m.s.nn m.s.nc) eq1.symm);refine iq ⟨k+1,G,by omega,by omega,(XV aa c34),J,K,(h3.trans Fx.ic),Fx.ic,m24,lZ,mV,nO,ow,oD,nU,b4⟩ ?_;show(m.s.nn-(intOf (au ((k:Int)+1))).toNat)<_;simp only[Y,intOf]; omega
 refine Lv aF (gK c18)<|aD<|aK<|Wx<|bW<|gP<|bX<|sN<|Ws<|ay<|aX h3 ?_;by_cases c38:5<=(G:Int)
 ·refine Lv aG (kP c38)<|av aG<|dB<|dB<|dB<|av aG<|aD<|aM<|ay<|av (au 6)<|aD<|Wr<|sR<|aJ (au 6) ?_;have N:k=m.s.nn:=by omega
  subst N;have H:kF m.core v=6:=d_ (.inl (by rw[show mP m.core.id v.o m.core.nn=G from aa.symm]; omega));exact⟨oV H.symm,b2,fun U=>by rw[H]at U; cases U⟩
 refine Lv aF (ko c38)<|av aF<|Lv (pf I 11) (jA K 11)<|Lv (au v.aQ) (aL W.aH 11) ?_;by_cases Sw:140737488355328<v.aQ
 ·refine Lv aG (mG Sw)<|av aG<|aD<|aM<|ay<|av (au 6)<|aD<|Wr<|sR<|aJ (au 6) ?_;have N:k=m.s.nn:=by omega
  subst N;have H:kF m.core v=6:=d_ (.inr (by omega));exact⟨oV H.symm,b2,fun U=>by rw[H]at U; cases U⟩
 refine Lv aF (mH Sw)<|av aF<|aD<|aK<|Wk<|sN<|ay<|Lv (pt I) (jA K 0)<|Lv (au v.o) (aL W.aH 0)<|Lv (pf I 1) (jA K 1)<|Lv (aC v.seq) (aL W.aH 1)<|kQ (alv v.o v.seq _) _ rfl<|av (aC (jk v.o v.seq))<|aD<|Ws ?_;refine jW [0,1,2,4,5,3,6,7,8] [0,0,0,4,0,0,4,3,0] [(7,3,[3]),(7,6,[6]),(8,7,[7])] fun qE dP iC => ?_;have⟨m32,pR,nG,oF,nV,rQ,qG⟩:=jK dP m8 m9 m10 m11 m12 m13 W;have b5:=eZ dP b2 u;refine bU J<|aY (pt p)<|aY (pf p 20)<|aY (aC (jk v.o v.seq))<|Rp (pf I 9) (fun _=>jA K 9)<|Rs (pt m.tb) (aL m32.aH 20) ?_;refine Rs (aC v.node) (aL qG.aH 9) ?_;refine gW<|dK (agr B m.tb m.ta m.tn m.tc m.t (jk v.o v.seq) v.node D _ oF nV (fun e=>Fx.Ty.ne (nV.ty e) oF.ty (by decide) rfl) (m_ u b5.size) bt hD hD2) _ rfl ?_;rintro X ⟨agz,hcs1⟩;have hc1:iW [156,153] qE X:=Fx.iW.RN agz (by rintro k (rfl|e) <;> first|exact⟨_,oF.ty,by decide⟩|exact⟨_,nV.ty e,by decide⟩)
 have qH:aR X p 27 (kU m) 56:=m32.kL hc1 (by decide);have tN:Fx.Own X B 84 56 (.slice m.s.na (m.s.nn) (m.s.nc)) m.s.nn (JW m):=pR.kL hc1 (by decide);have mW:Fx.Own X B 106 5 (.slice m.s.ga (m.s.gn) (m.s.gc)) m.s.gn (Jh m):=nG.kL hc1 (by decide);have mK:wJ X B 6 m:=rQ.kL hc1 (by decide);have mX:aR X I 14 (bM v) 37:=qG.kL hc1 (by decide);have b6:Below B w X:=Fx.jV.below b5 agz (by rintro k (rfl|e) <;> first|exact DK|exact(nV.ge e).1) (m_ u b5.size)
 rcases hcs1 with ⟨Q,hT1,hO1⟩|⟨Q,g9,XZ,hT1,hO1,hne1⟩
 ·refine Ln<|aY (au (jE m.t m.tn (jk v.o v.seq) v.node))<|bQ<|Ws<|ay<|av (au (jE m.t m.tn (jk v.o v.seq) v.node))<|Lv aG (nC Q)<|aD<|aM<|ay<|av (au (jE m.t m.tn (jk v.o v.seq) v.node))<|av (au (jE m.t m.tn (jk v.o v.seq) v.node))<|aD<|Wr<|sR<|aJ (au (jE m.t m.tn (jk v.o v.seq) v.node)) ?_;have N:k=m.s.nn:=by omega
  subst N;have H:kF m.core v=jE m.t m.tn (jk v.o v.seq) v.node:=b_ (fun h=>h.elim (fun h=>by rw[show mP m.core.id v.o m.core.nn=G from aa.symm]at h; omega) (fun h=>by omega));exact⟨oV H.symm,b6,fun U=>M_ (H.symm.trans U) Q⟩
 refine Ln<|aY (au (jE m.t m.tn (jk v.o v.seq) v.node))<|bQ<|Ws<|ay<|av (au (jE m.t m.tn (jk v.o v.seq) v.node))<|Lv aF (jJ Q)<|aD<|aK<|Wk<|sN<|ay<|av (aC (jk v.o v.seq))<|Lv (pf I 9) (jA K 9)<|Lv (aC v.node) (aL mX.aH 9)<|av (.agg (aA 56 (bC (bC (fun L=>if L<2 then aC 0 else au 0) 0 1 (fun _=>aC (jk v.o v.seq))) 1 1 (fun _=>aC v.node))))<|rD 56 (fun L=>if L<2 then aC 0 else au 0) fun M w4 zo qI s5 z2 => ?_;have⟨qy,oG,rG,uW,tO,tJ,vN⟩:=jK s5.old qH tN mW mK mX hT1 hO1;have b7:=eZ s5.old b6 u;have qK:=iI zo b6.size;have alB:=bY zo qH.lt;have EZ:(.slice m.s.na (m.s.nn) (m.s.nc):Value).ownBlock≠some M:=by rw[zo]; exact tN.kg (A_ _)
 have⟨alC,alD,acf⟩:=EF zo mX.lt hT1.lt hO1.lt;have yK:=qI.lt;refine eB qI 0 (h1:=(bE (bE (fun jq _=>by show((fun L=>if L<2 then aC 0 else au 0:Nat->Value) jq).oneCell'=true; simp only[]; repeat (first|rfl|split)) (fun _ _=>rfl)) (fun _ _=>rfl))) fun w5 uN s6 z3 => ?_
 have uj:aR w5 M 56 (bC (bC (fun L=>if L<2 then aC 0 else au 0) 0 1 (fun _=>aC (jk v.o v.seq))) 1 1 (fun _=>aC v.node)) 84:=aP uN;have gY:=gQ s6 qI.ty;have uX:=kR gY qy;have xC:=oG.cB s6 EZ;have⟨sw,sD,tK,xD,qJ⟩:=rE gY rG uW tO tJ vN;have b8:=s6.below b7 (m_ u b7.size) (by omega);refine aD<|Ws ?_;have uz:aR w5 M 56 (mE (jk v.o v.seq) v.node (fun _=>0)) 84:=uj.congr (fun j hj=>TV j);refine Wl<|Lv (pt I) (jA K 0)<|Lv (au v.o) (aL tK.aH 0)<|Lv (au a) gF<|Lv (pf I 11) (jA K 11)<|Lv (au v.aQ) (aL tK.aH 11)<|av (pf M 2)<|av (pf M 2)<|Lv (pf M (a+2)) (jI 6 1)<|jd uz (a+2) (au v.aQ) fun w6 nW s7 z4 => ?_;have tL:aR w6 M 56 (mE (jk v.o v.seq) v.node (upd (fun _=>0) a v.aQ)) 84:=nW.to (OA (by omega));have jQ:=gQ s7 uz.ty;have m64:=kR jQ uX;have xE:=xC.cB s7 EZ;have⟨xg,vO,wz,sF,uO⟩:=rE jQ sw sD tK xD qJ;have b9:=s7.below b8 (m_ u b8.size) (by omega);refine aD<|Ws ?_;have ek0:k=m.s.nn:=by omega
 obtain⟨cn0,agB,hc38⟩ : ∃ cn0,cn0=mP m.id v.o m.s.nn /\ ¬ (5:Int)<=(cn0:Int):=⟨G,by rw[<- ek0]; exact aa,c38⟩;clear aa hcl ek0;refine Wl<|aX J<|av (pt p)<|av (pt p)<|av (pf p 18)<|Lv (.slice m.s.na (m.s.nn) (m.s.nc)) (aL m64.aH 18)<|av (au m.s.nn)<|av (au m.s.nn)<|aD<|Ws ?_;refine zO [0,1,2,3,4,5,6,7,8,9,10,11,12] [0,0,0,0,0,1,4,2,2,0,0,0,3] (iW [84]) vM Fx.iW.trans (fP := [(12,5,[5]),(7,6,[6]),(8,6,[7,6]),(12,6,[6]),(8,7,[7]),(9,7,[7]),(10,7,[7]),(11,7,[7]),(12,7,[7]),(9,8,[8]),(10,8,[8]),(11,8,[8]),(12,8,[8])]) (by kernel_rfl) (by kernel_rfl) (by kernel_rfl) (by kernel_rfl) (by kernel_rfl) fun CZ gL nT => ?_;have⟨uY,vP,vQ,zG,xk,zm,zn,yJ⟩:=nD gL m64 xE xg vO wz sF uO tL;have b10:=eZ gL b9 u;refine bU J<|bU J<|aY (pt p)<|aY (pt p)<|aY (pf p 18)<|Rd (v := .slice m.s.na (m.s.nn) (m.s.nc)) (by rfl) (by rfl) (vM _) (fun F E=>bf (x:=kU m) rfl rfl (by kernel_rfl) (uY.kL E (by decide)).aH (i:=18) (by omega) (by omega) rfl) ?_;refine Rs (.agg (aA 56 (mE (jk v.o v.seq) v.node (upd (fun _=>0) a v.aQ)))) (fC yJ.aH 0) ?_;refine zi<|xO (vs := [(0,.agg (aA 56 (mE (jk v.o v.seq) v.node (upd (fun _=>0) a v.aQ))))]) (s:=56) (zc:=fun L=>if L<2 then aC 0 else au 0) (y:=bC (fun j=>(fun L=>if L<2 then aC 0 else au 0) (j % 56)) (0*56) 56 (mE (jk v.o v.seq) v.node (upd (fun _=>0) a v.aQ))) (by rfl) rfl rfl Tryz.underlying47 (by kernel_rfl) (by rfl) (by rfl) (by kernel_rfl) (by rw[aZ (off:=0*56) (s:=56) (y:=mE (jk v.o v.seq) v.node (upd (fun _=>0) a v.aQ)) rfl (bF _ _) (by rfl)]; rfl) rfl fun g3 w7 yL xq s9 z5 => ?_;have⟨wB,wC,xW,zT,xX,AU,Au,Av⟩:=nD s9.old uY vP vQ zG xk zm zn yJ;have b11:=eZ s9.old b10 u;have BQ:=iI yL b10.size;have alF:=bY yL uY.lt;have alG:(.slice m.s.na (m.s.nn) (m.s.nc):Value).ownBlock≠some g3:=by rw[yL]; exact vP.kg (A_ _)
 have⟨alH,acg,Ji,ach⟩:=PL yL xk.lt zm.lt zn.lt yJ.lt;have G9:=xq.lt;refine Ln ⟨Fx.iW.of_below s9.old,?_⟩;refine zi<|zf (B:=B) (s:=56) (bytes:=448) (k:=m.s.nn) (m:=1) (v := .slice m.s.na (m.s.nn) (m.s.nc)) (x:=JW m) (by rfl) rfl rfl rfl Tryz.underlying47 (by kernel_rfl) (by kernel_rfl) rfl rfl wC xq.aH (yO (vw _ _ _)) (by omega) (by omega) (by omega) (m_ u b11.size) fun l A w8 ho1 hg1 wu hlt1 => ?_;have qF:=zh hg1 wC;have⟨zV,AV,EN,DJ,Cb,C9⟩:=RQ qF wB xW zT xX AU Au;have zZ:=Av.grown hg1 EZ;have alI:M≠l:=fun e=>wu.elim (fun e2=>EZ (by rw[e]; exact e2)) (fun e2=>by have:=Av.lt; omega);have zU:Fx.Own w8 B 84 56 (bL l (m.s.nn+1) A) (m.s.nn+1) (flat 56 (Fx.Kg (fun d=>mE (m.id d) (m.par d) (m.R d)) (mE (jk v.o v.seq) v.node (upd (fun _=>0) a v.aQ)) m.s.nn m.s.nn)):=(ho1.congr (fun j hj=>(Fx.xP j hj).trans (bJ (fun i V q _=>Fx.xQ i V q) j hj)));have b12:Below B w w8:=ze b11 hg1 (m_ u b11.size) (fun q hq=>(wC.ge hq).1);refine Ln ⟨qF,?_⟩;refine aY (pt p)<|aY (pt p)<|aY (pf p 18)<|gW<|jd zV 18 (bL l (m.s.nn+1) A) fun w9 Gd s10 z6 => ?_;have zS:=gQ s10 zV.ty;have⟨Ec,Gf,Gr,wK,xZ,wM,uD⟩:=RS zS AV EN DJ Cb C9 zZ zU;have b13:=s10.below b12 (m_ u b12.size) (by omega);refine Ln<|bQ<|Ws<|Wb<|Wo (fun f z => ∃ k:Nat,k<=m.s.nn/\(∀ i,k<=i->i<m.s.nn->(jk v.o v.seq)<m.id i)/\f 0=(pt p)/\f 7=aC (jk v.o v.seq)/\f 9=(pt M)/\f 10=au (k:Int)/\Fx.Own z B 106 5 (.slice m.s.ga (m.s.gn) (m.s.gc)) m.s.gn (Jh m)/\wJ z B 6 m/\aR z I 14 (bM v) 37/\aR z m.tb 1 (fun _=>bL g9 (m.tn+1) XZ) 156/\Fx.Own z B 153 2 (bL g9 (m.tn+1) XZ) (m.tn+1) (rv .u64 (lu (pE m.t (down (fun i=>decide ((jk v.o v.seq)<m.t i 0)) m.tn) (jk v.o v.seq) v.node)))/\aR z M 56 (mE (jk v.o v.seq) v.node (upd (fun _=>0) a v.aQ)) 84/\aR z p 27 (dA (kU m) 18 (bL l (m.s.nn+1) A)) 56/\Fx.Own z B 84 56 (bL l (m.s.nn+1) A) (m.s.nn+1) (flat 56 (Fx.Kg (fun d=>mE (m.id d) (m.par d) (m.R d)) (mE (jk v.o v.seq) v.node (upd (fun _=>0) a v.aQ)) m.s.nn k))/\Below B w z) (fun f _=>(intOf (f 10)).toNat) ⟨m.s.nn,by omega,(fun i J K=>M_ J (by omega)),J,Fx.ic,(by rfl),Fx.ic,Ec,Gf,Gr,wK,xZ,wM,Gd,uD,b13⟩ ?_;rintro f2 tH ⟨k,hk,hgt,Z,h6,h7,P,qb,pG,qM,qc,rJ,sQ,vB,rM,b14⟩;refine Ws<|ay<|aX P ?_;by_cases c91:0<(k:Int)
 ·obtain⟨j,ej⟩ : ∃ j,k=j+1:=⟨k-1,by omega⟩;refine Lv aG (mG c91)<|av aG<|aX Z<|av (pt p)<|av (pt p)<|av (pf p 18)<|Lv (bL l (m.s.nn+1) A) (aL vB.aH 18 (Fx.lQ (by omega)))<|aX P<|Lv (au j) gF<|Lv (pf l (56*j)) (cO 56)<|av (pf l (56*j))<|Lv (aC (m.id j)) (aL rM.aH (56*j) (Fx.fq (k:=j) (j:=0) (by omega) (by omega) ((congrFun (Fx.zA (by omega) (by omega)) 0).trans rfl)))<|aX h6 ?_;by_cases X0:(jk v.o v.seq)<(m.id j)
  ·refine Lv aG (mG X0)<|av aG<|aD<|aM<|Wk<|sN<|Wb<|Ws ?_;refine jW [0,1,2,3,5,6,7,8,9,11,12,4,10,13,14,15,16] [0,0,0,0,4,0,0,0,0,0,4,0,0,0,4,0,3] [(16,4,[4]),(16,10,[10]),(16,14,[14])] fun Rb lW AP => ?_;have⟨uE,zq,vE,zu,Cc,xG,uF,qN⟩:=nD lW qb pG qM qc rJ sQ vB rM;have b15:=eZ lW b14 u;refine bU Z<|aY (pt p)<|aY (pt p)<|aY (pf p 18)<|bU P<|bU Z<|aY (pt p)<|aY (pt p)<|aY (pf p 18)<|bU P<|Rp (au j) (fun _=>gF)<|Rs (bL l (m.s.nn+1) A) (aL uF.aH 18 (Fx.lQ (by omega))) ?_;refine Rs (bL l (m.s.nn+1) A) (aL uF.aH 18 (Fx.lQ (by omega))) ?_;refine Rp (pf l (56*j)) (fun _=>cO 56)<|Rs (.agg (aA 56 (mE (m.id j) (m.par j) (m.R j)))) (fC qN.aH (56*j) (fun jq hjq=>(Fx.iT (k:=j) (by omega) hjq).trans (congrFun (Fx.zA (by omega) (by omega)) jq))) ?_;refine Rp (pf l (56*k)) (fun _=>cO 56)<|gW<|zP qN (56*k) (h1:=(fun j _=>vw _ _ _ j)) fun Gc yc s12 z7 => ?_;have zk:=gQ s12 qN.Ke;have⟨yg,uG,Ce,Jj,E5⟩:=rE zk uE zq vE zu Cc;have A9:=xG.cB s12 (by omega);have E8:=kR zk uF;have b16:=s12.below b15 (m_ u b15.size) qN.blk.1;have Gs:Fx.Own Gc B 84 56 (bL l (m.s.nn+1) A) (m.s.nn+1) (flat 56 (Fx.Kg (fun d=>mE (m.id d) (m.par d) (m.R d)) (mE (jk v.o v.seq) v.node (upd (fun _=>0) a v.aQ)) m.s.nn j)):=yc.congr (fun T S=>(Fx.uQ (k:=k) (by omega) T S).trans (bJ (fun i V q _=>Fx.yF ej (by omega) i V q) T S));refine Ln<|bQ<|Wl<|aX P<|Lv (au j) gF<|av (au j)<|Ln<|bP<|iq ⟨j,by omega,(TW ej hgt X0),Z,(h6.trans Fx.ic),h7,Fx.ic,yg,uG,Ce,Jj,E5,A9,E8,Gs,b16⟩ ?_;show(intOf (au j)).toNat<_;simp only[P,intOf]; omega
  refine Lv aF (mH X0)<|av aF<|aD<|aK<|Wx<|bW<|gP<|bX<|sN<|Ws ?_;refine jW [0,1,2,3,5,4,6,7,8] [0,0,0,0,4,0,4,0,3] [(8,4,[4]),(8,6,[6])] fun wt4 qV G8 => ?_;have⟨Cg,Aa,KW,E9,Fa,Gt,Gu⟩:=jK qV qb pG qc rJ sQ vB rM;have b17:=eZ qV b14 u;refine bU Z<|aY (pt p)<|aY (pt p)<|aY (pf p 18)<|bU P<|Rs (bL l (m.s.nn+1) A) (aL Gt.aH 18 (Fx.lQ (by omega))) ?_;refine Rs (.agg (aA 56 (mE (jk v.o v.seq) v.node (upd (fun _=>0) a v.aQ)))) (fC Fa.aH 0 (ha:=h7)) ?_;refine Rp (pf l (56*k)) (fun _=>cO 56)<|gW<|zP Gu (56*k) (h1:=(fun j _=>vw _ _ _ j)) fun BF Ch BD z8 => ?_;have zl:=gQ BD Gu.Ke;have⟨Fb,Ci,Fe,Ac⟩:=Kh zl Cg Aa KW E9;have Cj:=Fa.cB BD (by omega);have Ba:=kR zl Gt;have b18:=BD.below b17 (m_ u b17.size) Gu.blk.1;have Jk:Fx.Own BF B 84 56 (bL l (m.s.nn+1) A) (m.s.nn+1) (flat 56 (Fx.IZ (fun d=>mE (m.id d) (m.par d) (m.R d)) k (mE (jk v.o v.seq) v.node (upd (fun _=>0) a v.aQ)))):=Ch.congr (fun T S=>(Fx.uQ (k:=k) (by omega) T S).trans (bJ (fun i V q _=>Fx.tY (by omega) i V q) T S));refine Ln<|bQ<|ay<|av (au 0)<|aD<|Wr<|aJ (au 0) ?_;have H:kF m.core v=jE m.t m.tn (jk v.o v.seq) v.node:=b_ (fun h=>h.elim (fun h=>by rw[show mP m.core.id v.o m.core.nn=cn0 from agB.symm]at h; omega) (fun h=>by omega));have N:k=sO m.id m.s.nn (jk v.o v.seq):=Fx.pO hk (fun i a b=>f_ (hgt i a b)) (.inr (fun j2 e=>by rw[show j2=j by omega]; exact g_ X0));have Uc:Fx.Own BF B 84 56 (bL l (m.s.nn+1) A) (m.s.nn+1) (flat 56 fun d=>mE (cu m.id k (jk v.o v.seq) d) (cu m.par k v.node d) (cu m.R k (upd (fun _=>0) a v.aQ) d)):=by rw[<- OB]; exact Jk
  have eR:(upd (fun _=>0) a v.aQ)=upd (fun _=>0) (v.o-1).toNat v.aQ:=by rw[show(v.o-1).toNat=a by omega]
  have bn9:m.tn+1<=33:=KV Q;refine⟨oV (Q.symm.trans H.symm),b18,fun _=>⟨{ m with s := { m.s with na:=some ⟨l,0,none⟩,nn:=m.s.nn+1,nc:=A },id:=cu m.id k (jk v.o v.seq),par:=cu m.par k v.node,R:=cu m.R k (upd (fun _=>0) a v.aQ),ta:=some ⟨g9,0,none⟩,tn:=m.tn+1,tc:=XZ,t:=pE m.t (down (fun i=>decide ((jk v.o v.seq)<m.t i 0)) m.tn) (jk v.o v.seq) v.node },?_,?_⟩⟩
  ·unfold qL; rw[show sO m.core.id m.core.nn (jk v.o v.seq)=k from N.symm,<- eR]; rfl
  exact { c:=Ba.to (Hu m _ _ _),n:=Uc,g:=Fb,tc:=Fe,t:=Ac,r:=Ci,pB:=Ub,tB:=DK,bn:=(by have:=bnn; show m.s.nn+1<=1000; omega),bg:=bg,bt:=(by show m.tn+1<=1000; omega),br:=C.br }
 refine Lv aF (mH c91)<|av aF<|dB<|dB<|dB<|dB<|dB<|dB<|dB<|dB<|dB<|dB<|dB<|dB<|av aF<|aD<|aK<|Wx<|bW<|gP<|bX<|sN<|Ws ?_;refine jW [0,1,2,3,5,4,6,7,8] [0,0,0,0,4,0,4,0,3] [(8,4,[4]),(8,6,[6])] fun wt5 zF SA => ?_;have⟨Ud,Ue,Uf,aci,Ug,Qi,Uh⟩:=jK zF qb pG qc rJ sQ vB rM;have b19:=eZ zF b14 u;refine bU Z<|aY (pt p)<|aY (pt p)<|aY (pf p 18)<|bU P<|Rs (bL l (m.s.nn+1) A) (aL Qi.aH 18 (Fx.lQ (by omega))) ?_;refine Rs (.agg (aA 56 (mE (jk v.o v.seq) v.node (upd (fun _=>0) a v.aQ)))) (fC Ug.aH 0 (ha:=h7)) ?_;refine Rp (pf l (56*k)) (fun _=>cO 56)<|gW<|zP Uh (56*k) (h1:=(fun j _=>vw _ _ _ j)) fun Gq Ui s16 z9 => ?_;have A8:=gQ s16 Uh.Ke;have⟨acj,acn,Qj,aco⟩:=Kh A8 Ud Ue Uf aci;have agC:=Ug.cB s16 (by omega);have acp:=kR A8 Qi;have b20:=s16.below b19 (m_ u b19.size) Uh.blk.1;have acr:Fx.Own Gq B 84 56 (bL l (m.s.nn+1) A) (m.s.nn+1) (flat 56 (Fx.IZ (fun d=>mE (m.id d) (m.par d) (m.R d)) k (mE (jk v.o v.seq) v.node (upd (fun _=>0) a v.aQ)))):=Ui.congr (fun T S=>(Fx.uQ (k:=k) (by omega) T S).trans (bJ (fun i V q _=>Fx.tY (by omega) i V q) T S));refine Ln<|bQ<|ay<|av (au 0)<|aD<|Wr<|aJ (au 0) ?_;have H:kF m.core v=jE m.t m.tn (jk v.o v.seq) v.node:=b_ (fun h=>h.elim (fun h=>by rw[show mP m.core.id v.o m.core.nn=cn0 from agB.symm]at h; omega) (fun h=>by omega));have N:k=sO m.id m.s.nn (jk v.o v.seq):=Fx.pO hk (fun i a b=>f_ (hgt i a b)) (.inl (by omega));have acs:Fx.Own Gq B 84 56 (bL l (m.s.nn+1) A) (m.s.nn+1) (flat 56 fun d=>mE (cu m.id k (jk v.o v.seq) d) (cu m.par k v.node d) (cu m.R k (upd (fun _=>0) a v.aQ) d)):=by rw[<- OB]; exact acr
 have eR:(upd (fun _=>0) a v.aQ)=upd (fun _=>0) (v.o-1).toNat v.aQ:=by rw[show(v.o-1).toNat=a by omega]
 have bn9:m.tn+1<=33:=KV Q;refine⟨oV (Q.symm.trans H.symm),b20,fun _=>⟨{ m with s := { m.s with na:=some ⟨l,0,none⟩,nn:=m.s.nn+1,nc:=A },id:=cu m.id k (jk v.o v.seq),par:=cu m.par k v.node,R:=cu m.R k (upd (fun _=>0) a v.aQ),ta:=some ⟨g9,0,none⟩,tn:=m.tn+1,tc:=XZ,t:=pE m.t (down (fun i=>decide ((jk v.o v.seq)<m.t i 0)) m.tn) (jk v.o v.seq) v.node },?_,?_⟩⟩
 ·unfold qL; rw[show sO m.core.id m.core.nn (jk v.o v.seq)=k from N.symm,<- eR]; rfl
 exact { c:=acp.to (Hu m _ _ _),n:=acs,g:=acj,tc:=Qj,t:=aco,r:=acn,pB:=Ub,tB:=DK,bn:=(by have:=bnn; show m.s.nn+1<=1000; omega),bg:=bg,bt:=(by show m.tn+1<=1000; omega),br:=C.br }
namespace Rt
theorem nZ(x:Nat->Int)(n:Int)(is:Bool)(a:Int)(off:Nat) :
 ((cK x n is a off).1=zero/\(cK x n is a off).2≠0 /\ ¬ (may x=true/\1<=n/\n<=1125899906842624/\is=true/\a=0/\x off+n<=1125899906842624)) \/
 ((may x=true/\1<=n/\n<=1125899906842624/\is=true/\a=0/\x off+n<=1125899906842624)/\cK x n is a off=(upd x off (x off+n),0)):=by
 unfold cK;by_cases f:may x=true
 ·by_cases c:1<=n
  ·by_cases d:n<=1125899906842624
   ·rw[f,f_ c,f_ d];simp only[Bool.and_self,if_true]
    cases is
    ·left; exact⟨rfl,(by show(10:Int)≠0; decide),fun h=>by cases h.2.2.2.1⟩
    by_cases b:a=0
    ·by_cases e:x off+n<=1125899906842624
     ·right; exact⟨⟨trivial,c,d,rfl,b,e⟩,by rw[d_ rfl,d_ b,d_ e]⟩
     left; rw[d_ rfl,d_ b,b_ e]; exact⟨rfl,by decide,fun h=>e h.2.2.2.2.2⟩
    left; rw[d_ rfl,b_ b]; exact⟨rfl,b,fun h=>b h.2.2.2.2.1⟩
   left; rw[g_ d,I_,b_ (by decide)]; exact⟨rfl,by decide,fun h=>d h.2.2.1⟩
  left; rw[g_ c,I_,Bool.false_and,b_ (by decide)]; exact⟨rfl,by decide,fun h=>c h.2.1⟩
 left; rw[show may x=false by simpa using f,Bool.false_and,Bool.false_and,b_ (by decide)]; exact⟨rfl,by decide,fun h=>by cases h.1⟩
theorem M6{x:Nat->Int}(h:Qd x){off:Nat}{n:Int}(h1:1<=n)(c:x off+n<=1125899906842624)(a:off<54):Qd (upd x off (x off+n)):=by
 intro p b;unfold upd;split
 ·have:=h off a; omega
 exact h p b
theorem og{i:Int}(h:gI i=true) : ∃ a:Nat,a<6/\i=(a:Int)+1/\i.toNat-1=a:=by
 have:1<=i/\i<=6:=by unfold gI at h; simpa using h
 exact⟨(i-1).toNat,by omega,by omega,by omega⟩
structure Moved(x y:Nat->Int)(a b:Nat)(n:Int):Prop where
 may:may y=true
 l : ∀ k,k<6->L y k=L x k+(if k=b then n else 0)-(if k=a then n else 0)
 g:sK y=sK x
 u:nY y=nY x
theorem Bb{x:Nat->Int}{i j n:Int}(h:(dn x i j n).2=0) : ∃ a b:Nat,a<6/\b<6/\a≠b/\i=(a:Int)+1/\j=(b:Int)+1/\1<=n/\n<=1125899906842624/\n<=L x a/\Moved x (dn x i j n).1 a b n/\(dn x i j n).1=upd x (18+a*6+b) (x (18+a*6+b)+n):=by
 unfold dn at *
 rcases nZ x n (gI i&&gI j) (nK x i j n) (kZ i j)with ⟨_,f,_⟩|⟨⟨hm,h1,f,hr,he,hx⟩,heq⟩
 ·exact M_ h f
 rw[S_]at hr;obtain⟨a,g,l,D⟩:=og hr.1;obtain⟨b,m,q,E⟩:=og hr.2;have s:kZ i j=18+a*6+b:=by unfold kZ; rw[D,E]
 rw[s]at heq hx;rw[s];have B:a≠b:=by
  intro z;unfold nK at he;rw[d_ (by rw[l,q,z])]at he
  cases he
 have y:n<=L x a:=by
  unfold nK at he;rw[b_ (by omega)]at he;by_cases d:eF x i<n
  ·rw[f_ d]at he; cases he
  ·rw[l,mO hm a g]at d; omega
 obtain⟨e,t,w⟩:=(jS x).1 hm;have d:=abV x a b g m n;have c : ∀ p,p<18->upd x (18+a*6+b) (x (18+a*6+b)+n) p=x p:=fun p I=>gN _ _ _ _ (by omega);have o:sK (upd x (18+a*6+b) (x (18+a*6+b)+n))=sK x:=by unfold sK G; rw[c 0 (by omega),c 1 (by omega),c 2 (by omega),c 3 (by omega),c 4 (by omega),c 5 (by omega)]
 have A:(cK x n (gI i&&gI j) (nK x i j n) (18+a*6+b)).1=upd x (18+a*6+b) (x (18+a*6+b)+n):=by rw[heq]
 rw[A];refine⟨a,b,g,m,B,l,q,h1,f,y,⟨?_,d,o,?_⟩,rfl⟩
 ·rw[jS];refine⟨M6 e h1 hx (by omega),fun k r => ?_,by rw[o]; exact w⟩;obtain⟨H,u,v⟩:=t k r;refine⟨?_,?_,?_⟩
  ·rw[d k r];split
   ·split <;> omega
   split
   ·rename_i hka; subst hka; omega
   omega
  ·unfold F C at *; rw[c _ (by omega),c _ (by omega)]; exact u
  unfold R at *; rw[gN _ _ _ _ (by omega)]; exact v
 unfold nY C F; simp only[c _ (show 6+0<18 by omega),c _ (show 6+1<18 by omega),c _ (show 6+2<18 by omega),c _ (show 6+3<18 by omega),c _ (show 6+4<18 by omega),c _ (show 6+5<18 by omega),c _ (show 12+0<18 by omega),c _ (show 12+1<18 by omega),c _ (show 12+2<18 by omega),c _ (show 12+3<18 by omega),c _ (show 12+4<18 by omega),c _ (show 12+5<18 by omega)]
theorem Fg(x:Nat->Int)(off:Nat)(c:off<18)(v:Int)(a b:Nat):R (upd x off v) a b=R x a b:=gN _ _ _ _ (by omega)
theorem Uj(x:Nat->Int)(off:Nat)(a:off<18)(v:Int)(k:Nat):L (upd x off v) k=L x k+(G (upd x off v) k-G x k)+(F (upd x off v) k-F x k)-(C (upd x off v) k-C x k):=by
 unfold L;simp only[Fg x off a v];omega
theorem agD(x:Nat->Int)(a:Nat)(n:Int)(k:Nat):C (upd x (6+a) (x (6+a)+n)) k=C x k+(if k=a then n else 0):=by
 unfold C upd;by_cases h:k=a
 ·subst h; simp
 rw[b_ (by omega),b_ h]; omega
theorem agE(x:Nat->Int)(a:Nat)(n:Int)(k:Nat):F (upd x (12+a) (x (12+a)+n)) k=F x k+(if k=a then n else 0):=by
 unfold F upd;by_cases h:k=a
 ·subst h; simp
 rw[b_ (by omega),b_ h]; omega
theorem agF(x:Nat->Int)(a:Nat)(n:Int)(k:Nat):G (upd x a (x a+n)) k=G x k+(if k=a then n else 0):=by
 unfold G upd;by_cases h:k=a
 ·subst h; simp
 rw[b_ h,b_ h]; omega
theorem six(a:Nat)(ha:a<6)(n:Int):(if 0=a then n else 0)+(if 1=a then n else 0)+(if 2=a then n else 0)+(if 3=a then n else 0)+(if 4=a then n else 0)+(if 5=a then n else 0)=n:=by
 have:a=0\/a=1\/a=2\/a=3\/a=4\/a=5:=by omega
 rcases this with h|h|h|h|h|h <;> subst h <;> simp
theorem Jl{x:Nat->Int}{i n:Int}(h:(bH x i n).2=0) : ∃ a:Nat,a<6/\i=(a:Int)+1/\1<=n/\n<=1125899906842624/\n<=L x a/\C x a+n<=1125899906842624/\may (bH x i n).1=true /\
 (∀ k,k<6->L (bH x i n).1 k=L x k-(if k=a then n else 0))/\sK (bH x i n).1=sK x/\nY (bH x i n).1=nY x+n/\(bH x i n).1=upd x (6+a) (x (6+a)+n):=by
 unfold bH at *
 rcases nZ x n (gI i) (pX x i n) (6+(i.toNat-1))with ⟨_,j,_⟩|⟨⟨hm,h1,j,hr,he,hx⟩,heq⟩
 ·exact M_ h j
 obtain⟨a,l,o,p⟩:=og hr;rw[p]at heq hx;rw[p];have t:n<=L x a:=by
  unfold pX at he;by_cases g:eF x i<n
  ·rw[f_ g]at he; cases he
  ·rw[o,mO hm a l]at g; omega
 obtain⟨e,q,s⟩:=(jS x).1 hm;have u:(cK x n (gI i) (pX x i n) (6+a)).1=upd x (6+a) (x (6+a)+n):=by rw[heq]
 rw[u];have b:=agD x a n;have f : ∀ k,k<6->G (upd x (6+a) (x (6+a)+n)) k=G x k:=fun k d=>gN _ _ _ _ (by omega);have c : ∀ k,k<6->F (upd x (6+a) (x (6+a)+n)) k=F x k:=fun k d=>gN _ _ _ _ (by omega);have g : ∀ k,k<6->L (upd x (6+a) (x (6+a)+n)) k=L x k-(if k=a then n else 0):=by
  intro k d;rw[Uj x (6+a) (by omega),f k d,c k d,b k]; omega
 have m:sK (upd x (6+a) (x (6+a)+n))=sK x:=by unfold sK; rw[f 0 (by omega),f 1 (by omega),f 2 (by omega),f 3 (by omega),f 4 (by omega),f 5 (by omega)]
 refine⟨a,l,o,h1,j,t,hx,?_,g,m,?_,rfl⟩
 ·rw[jS];refine⟨M6 e h1 hx (by omega),fun k d => ?_,by rw[m]; exact s⟩;obtain⟨v,w,r⟩:=q k d;refine⟨?_,?_,?_⟩
  ·rw[g k d];split
   ·rename_i hka; subst hka; omega
   omega
  ·rw[c k d,b k]; split <;> omega
  rw[Fg x (6+a) (by omega)]; exact r
 unfold nY;rw[c 0 (by omega),c 1 (by omega),c 2 (by omega),c 3 (by omega),c 4 (by omega),c 5 (by omega),b 0,b 1,b 2,b 3,b 4,b 5];have:=six a l n;omega
theorem Jm{x:Nat->Int}{i n:Int}(h:(bI x i n).2=0) : ∃ a:Nat,a<6/\i=(a:Int)+1/\1<=n/\n<=1125899906842624/\n<=C x a-F x a/\may (bI x i n).1=true /\
 (∀ k,k<6->L (bI x i n).1 k=L x k+(if k=a then n else 0))/\sK (bI x i n).1=sK x/\nY (bI x i n).1=nY x-n/\(bI x i n).1=upd x (12+a) (x (12+a)+n):=by
 unfold bI at *
 rcases nZ x n (gI i) (pY x i n) (12+(i.toNat-1))with ⟨_,j,_⟩|⟨⟨hm,h1,j,hr,he,hx⟩,heq⟩
 ·exact M_ h j
 obtain⟨a,m,u,l⟩:=og hr;rw[l]at heq hx;rw[l];have s:n<=C x a-F x a:=by
  unfold pY at he;rw[l]at he;by_cases g:C x a-F x a<n
  ·rw[f_ g]at he; cases he
  ·omega
 obtain⟨e,p,r⟩:=(jS x).1 hm;have t:(cK x n (gI i) (pY x i n) (12+a)).1=upd x (12+a) (x (12+a)+n):=by rw[heq]
 rw[t];have c:=agE x a n;have f : ∀ k,k<6->G (upd x (12+a) (x (12+a)+n)) k=G x k:=fun k d=>gN _ _ _ _ (by omega);have b : ∀ k,k<6->C (upd x (12+a) (x (12+a)+n)) k=C x k:=fun k d=>gN _ _ _ _ (by omega);have g : ∀ k,k<6->L (upd x (12+a) (x (12+a)+n)) k=L x k+(if k=a then n else 0):=by
  intro k d;rw[Uj x (12+a) (by omega),f k d,c k,b k d]; omega
 have o:sK (upd x (12+a) (x (12+a)+n))=sK x:=by unfold sK; rw[f 0 (by omega),f 1 (by omega),f 2 (by omega),f 3 (by omega),f 4 (by omega),f 5 (by omega)]
 refine⟨a,m,u,h1,j,s,?_,g,o,?_,rfl⟩
 ·rw[jS];refine⟨M6 e h1 hx (by omega),fun k d => ?_,by rw[o]; exact r⟩;obtain⟨v,w,q⟩:=p k d;refine⟨?_,?_,?_⟩
  ·rw[g k d]; split <;> omega
  ·rw[c k,b k d];split
   ·rename_i hka; subst hka; omega
   omega
  rw[Fg x (12+a) (by omega)]; exact q
 unfold nY;rw[b 0 (by omega),b 1 (by omega),b 2 (by omega),b 3 (by omega),b 4 (by omega),b 5 (by omega),c 0,c 1,c 2,c 3,c 4,c 5];have:=six a m n;omega
end Rt
section
namespace Rt
def cZ(f:(Nat->Int)->(Nat->Int) × Int)(idx:Nat->Nat)(R:Nat->Nat->Int):Nat->(Nat->Nat->Int) × Int
 | 0=>(R,0)
 | j+1=>if(cZ f idx R j).2=0 then(if(f ((cZ f idx R j).1 (idx j))).2=0 then(aI (cZ f idx R j).1 (idx j) (f ((cZ f idx R j).1 (idx j))).1,0)else((cZ f idx R j).1,(f ((cZ f idx R j).1 (idx j))).2))else cZ f idx R j
section
variable {f:(Nat->Int)->(Nat->Int) × Int} {idx:Nat->Nat} {R Rk:Nat->Nat->Int} {k q:Nat}
theorem Fh(h:cZ f idx R k=(Rk,0))(e:idx k=q)(a:(f (Rk q)).2=0):cZ f idx R (k+1)=(aI Rk q (f (Rk q)).1,0):=by
 unfold cZ; rw[h,d_ rfl,e,d_ a]
theorem Hw(h:cZ f idx R k=(Rk,0))(e:idx k=q)(a : ¬ (f (Rk q)).2=0):(cZ f idx R (k+1)).2=(f (Rk q)).2:=by
 unfold cZ; rw[h,d_ rfl,e,b_ a]
theorem Ad(a : ¬ (cZ f idx R k).2=0) : ∀ n,k<=n->cZ f idx R n=cZ f idx R k
 | 0,h=>by obtain rfl:k=0:=by omega
           rfl
 | n+1,h=>by
   by_cases e:k=n+1
   ·rw[e]
   ·have:=Ad a n (by omega);rw[cZ,this,b_ a]
end
def lead(P:Nat->Bool):Nat->Nat
 | 0=>0
 | n+1=>if lead P n=n/\P n=true then n+1 else lead P n
theorem Ed(P:Nat->Bool) : ∀ n,lead P n<=n
 | 0=>A_ _
 | n+1=>by
   unfold lead; split
   ·exact A_ _
   ·have:=Ed P n; omega
theorem KX{P:Nat->Bool} : ∀ {n:Nat},(∀ i,i<n->P i=true)->lead P n=n
 | 0,_=>rfl
 | n+1,h=>by unfold lead; rw[d_ ⟨KX fun i a=>h i (by omega),h n (by omega)⟩]
theorem OC{P:Nat->Bool}{K:Nat}(h1 : ∀ i,i<K->P i=true)(a:P K=false) : ∀ {n:Nat},K<=n->lead P n=K
 | 0,h=>by unfold lead; omega
 | n+1,h=>by
   unfold lead;by_cases e:K=n+1
   ·rw[d_ ⟨KX fun i d=>h1 i (by omega),h1 n (by omega)⟩]; exact e.symm
   ·rw[OC h1 a (n:=n) (by omega),b_];rintro ⟨c,b⟩;subst c; rw[a]at b; cases b
def dJ(t:Nat->Nat->Int)(tn:Nat)(x:Int):Nat:=lead (fun i=>decide (0<=bD t tn (aU t tn i x))) 1000
theorem sS{t:Nat->Nat->Int}{tn K D:Nat}{x:Int}(h1 : ∀ i,i<K->0<=bD t tn (aU t tn i x))(c:bD t tn (aU t tn K x)<0)(d:bD t tn (aU t tn D x)<0)(e:D<=1000):K=dJ t tn x:=by
 have a:K<=1000:=by
  rcases Nat.lt_or_ge D K with h|h
  ·have:=h1 D h; omega
  ·omega
 exact(OC (fun i b=>f_ (h1 i b)) (g_ (by omega)) a).symm
end Rt
def fA.node(L:fA)(x:Int):Int:=ig (fun i=>decide (L.id i=x)) L.nn
def fA.grant(L:fA)(o r:Int):Int:=ig (fun i=>decide (L.g i 0=o)&&decide (L.g i 1=r)) L.gn
def fA.lH(L:fA)(a:Nat)(r:Int):Int:=ig (fun i=>decide (L.rq a i=r)) (L.rn a)
namespace Rt
def oH(L:fA)(x:Int)(i:Nat):Nat:=(L.node (aU L.t L.tn i x)).toNat
def pU(v:EvM):Nat->Int:=fun j=>if j=0 then v.o else if j=1 then v.req else if j=2 then v.node else if j=3 then v.aQ else 0
def Da(v:EvM)(x:Nat->Int):Bool:=decide (v.o<x 0) || (decide (x 0=v.o)&&decide (v.req<x 1))
def aN(v:EvM):Nat:=(v.o-1).toNat
def nH(L:fA)(v:EvM):(Nat->Nat->Int) × Int:=cZ (fun x=>bH x v.o v.aQ) (oH L v.node) L.R (dJ L.t L.tn v.node)
def iZ(L:fA)(v:EvM):Int:=if 0<=L.lH (aN v) v.req then 14 else if dJ L.t L.tn v.node=0 then 9 else(nH L v).2
def qO(L:fA)(a:Nat)(r:Int):fA := { L with rn:=aI L.rn a (L.rn a+1),rq:=aI L.rq a (aI (L.rq a) (L.rn a) r) }
def mo(L:fA)(v:EvM):fA :=
 qO { L with R:=(nH L v).1,gn:=L.gn+1,g:=cu L.g (down (fun i=>Da v (L.g i)) L.gn) (pU v) } (aN v) v.req
theorem Ck{n q:Nat}{id par:Nat->Int}{R:Nat->Nat->Int}{r:Nat->Int} : ∀ i,i<n -> ∀ j,j<56->Fx.rA (fun a=>mE (id a) (par a) (R a)) q (bC (mE (id q) (par q) (R q)) 2 54 (rv .i64 r)) i j=mE (id i) (par i) (aI R q r i) j:=fun i _ j d=>by
 unfold Fx.rA aI;by_cases h:i=q
 ·subst h;rw[d_ rfl,d_ rfl];unfold bC mE rv;by_cases b:j=0
  ·subst b; rfl
  ·by_cases c:j=1
   ·subst c; rfl
   ·rw[d_ (by omega),b_ b,b_ c]
 ·rw[b_ h,b_ h]
theorem X3{g:Nat->Nat->Int}{k:Nat}{x:Nat->Int}:Fx.IZ (fun a=>ji (g a)) k (ji x)=fun a=>ji (cu g k x a):=by
 funext i
 unfold Fx.IZ cu;by_cases h:i<k
 ·simp only[d_ h]
 by_cases b:i=k
 ·simp only[b_ h,d_ b]
 simp only[b_ h,b_ b]
theorem M7(m:kr)(a:Option Addr)(n c:Nat):dA (kU m) 19 (.slice a n c)=kU { m with s := { m.s with ga:=a,gn:=n,gc:=c } }:=by
 funext p
 unfold dA kU;by_cases h:p=19
 ·subst h; rfl
 rw[b_ h];by_cases e:p<20
 ·rw[d_ e,d_ e]; unfold mY;by_cases b:p<6
  ·rw[d_ b,d_ b]
  by_cases d:p<12
  ·rw[b_ b,d_ d,b_ b,d_ d]
  by_cases f:p<18
  ·rw[b_ b,b_ d,d_ f,b_ b,b_ d,d_ f]
  rw[b_ b,b_ d,b_ f,d_ (by omega),b_ b,b_ d,b_ f,d_ (by omega)]
 rw[b_ e,b_ e]
theorem KY(m:kr){i q:Nat}(f:q=i+21)(a:Option Addr)(n c:Nat):dA (kU m) q (.slice a n c)=kU { m with ra:=aI m.ra i a,rn:=aI m.rn i n,rc:=aI m.rc i c }:=by
 subst f
 funext p
 unfold dA kU;by_cases h:p=i+21
 ·subst h;rw[d_ rfl,b_ (by omega),b_ (by omega),Nat.add_sub_cancel];simp[aI]
 rw[b_ h];by_cases b:p<20
 ·rw[d_ b,d_ b]
 rw[b_ b,b_ b];by_cases d:p=20
 ·rw[d_ d,d_ d]
 rw[b_ d,b_ d];have e : ¬ p-21=i:=by omega
 simp[aI,e]
theorem wJ.app{w w':World}{B a g cap:Nat}{r:Int}{m d:kr}(h:wJ w B 6 m)(_ha:a<6)(h1:d.ra=aI m.ra a (some ⟨g,0,none⟩))(l:d.rn=aI m.rn a (m.rn a+1))(t:d.rc=aI m.rc a cap)(u:d.rq=aI m.rq a (aI (m.rq a) (m.rn a) r))
 (z:Fx.Own w' B 23 1 (bL g (m.rn a+1) cap) (m.rn a+1) (rv .u64 (aI (m.rq a) (m.rn a) r))) (A:w.grownBy w' (tQ m a).ownBlock) (C:(tQ m a).ownBlock=some g\/g=w.heap.size):wJ w' B 6 d:=by
 have k : ∀ i,i≠a->tQ d i=tQ m i:=fun i c=>by unfold tQ; rw[h1,l,t]; simp[aI,c]
 have n:tQ d a=bL g (m.rn a+1) cap:=by unfold tQ; rw[h1,l,t]; simp[aI]
 have y : ∀ i,i<6->i≠a -> ∀ q,(tQ m i).ownBlock=some q->q≠g:=fun i c D q b e=>by
  subst e
  rcases C with f|f
  ·exact h.2 i a c _ha D q b f
  ·have:=((h.1 i c).ge b).2; omega
 refine⟨fun i c => ?_,fun i j c v p q b => ?_⟩
 ·by_cases e:i=a
  ·subst e; rw[n,l,u]; simp only[aI,if_true]; exact z
  rw[k i e,l,u];simp only[aI,b_ e];refine World.ownsRow.kept (h.1 i c) A ?_;by_cases x:(tQ m i).ownBlock=none
  ·exact .inl x
  right;intro f
  cases b:(tQ m i).ownBlock with
  | none=>exact x b
  | some q=>rw[b]at f; exact h.2 i a c _ha e q b f.symm
 by_cases e:i=a
 ·subst e;rw[n]at b;rw[k j (fun e=>p e.symm)];intro o;exact y j v (fun e=>p e.symm) q o (C_ b).symm
 rw[k i e]at b;by_cases s:j=a
 ·subst s; rw[n]; intro o; exact y i c e q b (C_ o).symm
 rw[k j s]; exact h.2 i j c v p q b
end Rt
end
def JX(a:World)(l:List (Nat × (Nat->Int)))(w':World):Prop:=(∀ p∈l,w'.heap[p.1]? = some (.cells (bS .i64 54 p.2) 82 (0,0)))/\Below a.heap.size a w'
theorem JX.up{b w w':World}{l:List (Nat × (Nat->Int))}(h:JX b l w)(a:Below w.heap.size w w'):JX b l w':=⟨fun p c=>RF (h.1 p c) a,Mq h.2 a⟩
instance {a w w':World} {l:List (Nat × (Nat->Int))}:Rt.Tr w w' (JX a l w) (JX a l w'):=⟨fun b h=>h.up b⟩
theorem JX.drew{a w:World}{l:List (Nat × (Nat->Int))}(h:JX a l w):JX a l w.drew:=⟨h.1,bN h.2 1⟩
theorem JX.drop{a w:World}{p:Nat × (Nat->Int)}{l:List (Nat × (Nat->Int))}(h:JX a (p::l) w):JX a l w:=⟨fun q b=>h.1 q (by simp[b]),h.2⟩
theorem JX.row{b w:World}{l:List (Nat × (Nat->Int))}(h:JX b l w)(g:Nat)(x:Nat->Int)(a:(g,x)∈l):w.heap[g]? = some (.cells (bS .i64 54 x) 82 (0,0)):=h.1 (g,x) a
theorem JX.add{b w:World}{l:List (Nat × (Nat->Int))}(h:JX b l w){g:Nat}{x:Nat->Int}(c:w.heap[g]? = some (.cells (bS .i64 54 x) 82 (0,0))):JX b ((g,x)::l) w :=
 ⟨fun p a=>by
  rcases List.mem_cons.1 a with rfl|a
  ·exact c
  ·exact h.1 p a,h.2⟩
theorem JX.start(w:World)(x:Nat->Int):JX w [(w.heap.size,x)] (w.alloc (.cells (bS .i64 54 x) 82)):=⟨fun p a=>by
 obtain rfl:p=(w.heap.size,x):=by simpa using a
 exact heap_alloc_new w _,(Below.refl _ _).alloc (A_ _) _⟩
namespace Rt
def vF(x:Nat->Int)(k:Nat):Nat->Int
 | 0=>G x k-C x k+F x k
 | j+1=>vF x k j+R x j k-R x k j
theorem acu(x:Nat->Int)(k:Nat):vF x k 6=L x k:=by simp only[vF,L]; omega
theorem OD{x:Nat->Int}(h:Qd x)(k:Nat)(d:k<6) : ∀ j:Nat,j<=6 -> -(1125899906842624*((j:Int)+1))<=vF x k j/\vF x k j<=1125899906842624*((j:Int)+2)
 | 0,_=>by
   have a:=h k (by omega); have b:=h (6+k) (by omega); have c:=h (12+k) (by omega);simp only[vF,G,C,F]; omega
 | j+1,hj=>by
   have:=OD h k d j (by omega);have a:=h (18+j*6+k) (by omega); have b:=h (18+k*6+j) (by omega);simp only[vF,R]; omega
end Rt
theorem nL(n:Int)(w:World) :
 Calls Tryz.prog 147 #[au n] w fun e c=>e = .returned (.bool (zR n))/\c=w:=by
 refine Kent Tryz.func147 9 ?_;refine ay<|av aF<|aD<|ay<|av (au n) ?_;by_cases a:0<=n
 ·refine Lv aG (kP a)<|av aG<|av (au n) ?_;by_cases b:n<=1125899906842624
  ·refine Lv aG (nA b)<|av aG<|av aG<|aD<|Wr<|aJ aG ?_;exact⟨iE (by simp only[zR]; first|(symm; simp; omega)|(symm; simp; done)),rfl⟩
  refine Lv aF (nN b)<|av aF<|av aF<|aD<|Wr<|aJ aF ?_;exact⟨iE (by simp only[zR]; first|(symm; simp; omega)|(symm; simp; done)),rfl⟩
 refine Lv aF (ko a)<|av aF<|dB<|dB<|av aF<|av aF<|aD<|Wr<|aJ aF ?_;exact⟨iE (by simp only[zR]; first|(symm; simp; omega)|(symm; simp; done)),rfl⟩
theorem rR(n:Int)(w:World) :
 Calls Tryz.prog 99 #[au n] w fun e c=>e = .returned (.bool (gI n))/\c=w:=by
 refine Kent Tryz.func99 9 ?_;refine ay<|av aF<|aD<|ay<|av (au n) ?_;by_cases a:1<=n
 ·refine Lv aG (kP a)<|av aG<|av (au n) ?_;by_cases b:n<=6
  ·refine Lv aG (nA b)<|av aG<|av aG<|aD<|Wr<|aJ aG ?_;exact⟨iE (by simp only[gI]; first|(symm; simp; omega)|(symm; simp; done)),rfl⟩
  refine Lv aF (nN b)<|av aF<|av aF<|aD<|Wr<|aJ aF ?_;exact⟨iE (by simp only[gI]; first|(symm; simp; omega)|(symm; simp; done)),rfl⟩
 refine Lv aF (ko a)<|av aF<|dB<|dB<|av aF<|av aF<|aD<|Wr<|aJ aF ?_;exact⟨iE (by simp only[gI]; first|(symm; simp; omega)|(symm; simp; done)),rfl⟩
theorem Rt.Qk(x:Nat->Int)(k j:Nat):vF x k (j+1)=vF x k j+x (18+j*6+k)-x (18+k*6+j):=rfl
theorem Rt.Ql(x:Nat->Int)(k:Nat):vF x k 0=x k-x (6+k)+x (12+k):=rfl
theorem Bc(x:Nat->Int)(k:Nat)(w:World)(E:k<6)(d:Qd x) :
 Calls Tryz.prog 100 #[.agg (aA 54 (rv .i64 x)),au ((k:Int)+1)] w fun e K=>e = .returned (au (L x k))/\Below w.heap.size w K:=by
 have B:vF x k 6=L x k:=acu x k;have A:=fun j=>OD d k E j;have T:vF x k 0=x k-x (k+6)+x (k+12):=by rw[Ql,Nat.add_comm 6 k,Nat.add_comm 12 k]
 have P:=d k (by omega);have Q:=d (k+6) (by omega);have R:=d (k+12) (by omega);refine Kent Tryz.func100 44 ?_;refine ay<|oL fun c l D h H Y => ?_;have s:=bB H.old (Below.refl w.heap.size w);have V:=gH D;have X:=h.lt;refine av (au 0)<|aD<|ay<|av (au ((k:Int)+1))<|Lv (au k) gF<|av (au k)<|aD<|Ws ?_;refine uR<|aW (au k)<|aW (pt c)<|Qv (pf c k) (fun b a=>jI 6 1)<|Qv (au (x k)) (fun b a=>aL (h.aH.dr a) k)<|aW (au k)<|aW (pf c 6)<|Qv (pf c (k+6)) (fun b a=>jI 6 1)<|Qv (au (x (k+6))) (fun b a=>aL (h.aH.dr a) (k+6))<|Qv (au ((x k)-(x (k+6)))) (fun b a=>gF)<|aW (au k)<|aW (pf c 12)<|Qv (pf c (k+12)) (fun b a=>jI 6 1)<|Qv (au (x (k+12))) (fun b a=>aL (h.aH.dr a) (k+12))<|Qv (au (((x k)-(x (k+6)))+(x (k+12)))) (fun b a=>fF)<|aW (au (((x k)-(x (k+6)))+(x (k+12))))<|Qn ?_;rintro _ ⟨i,rfl⟩;obtain⟨M,n⟩ : ∃ b,b=World.drewN l i:=⟨_,rfl⟩;rw[<- n];have I:Stp l.heap.size l M:=by rw[n]; exact Sb (je l i)
 have⟨F,t⟩:=eO I.old h s;clear n;refine sN<|Ws<|ay<|av (au 0)<|aD<|Wb<|Wo (fun f z => ∃ j:Nat,j<=6/\f 2=(pt c)/\f 5=au (k:Int)/\f 6=au (vF x k j)/\f 7=au (j:Int)/\aR z c 54 (rv .i64 x) 82/\Below w.heap.size w z) (fun f _=>(6-(intOf (f 7)).toNat)) ⟨0,by omega,(by rfl),Fx.ic,Fx.ic,Fx.ic,F,t⟩ ?_;rintro S m ⟨j,W,p,q,y,g,r,u⟩;have U:=A j (by omega);have O:vF x k (j+1)=vF x k j+x (6*j+k+18)-x (j+6*k+18):=by rw[Qk,show 18+j*6+k=6*j+k+18 by omega,show 18+k*6+j=j+6*k+18 by omega]
 have s:=d (6*j+k+18);have t:=d (j+6*k+18);refine Ws<|ay<|aX g ?_;by_cases v:(j:Int)<6
 ·refine Lv aG (gJ v)<|aD<|aM<|Wk<|sN<|Ws<|Wb ?_;refine uR<|dO y<|dO g<|dO q<|Qv (pf c 18) (fun b a=>jA p 18)<|Qv (pf c (6*j+18)) (fun b a=>jI 6 6)<|Qv (pf c (6*j+k+18)) (fun b a=>jI 6 1)<|Qv (au (x (6*j+k+18))) (fun b a=>aL (r.aH.dr a) (6*j+k+18))<|Qv (au ((vF x k j)+(x (6*j+k+18)))) (fun b a=>fF)<|dO q<|dO g<|Qv (pf c 18) (fun b a=>jA p 18)<|Qv (pf c (6*k+18)) (fun b a=>jI 6 6)<|Qv (pf c (j+6*k+18)) (fun b a=>jI 6 1)<|Qv (au (x (j+6*k+18))) (fun b a=>aL (r.aH.dr a) (j+6*k+18))<|Qv (au (((vF x k j)+(x (6*j+k+18)))-(x (j+6*k+18)))) (fun b a=>gF)<|aW (au (((vF x k j)+(x (6*j+k+18)))-(x (j+6*k+18))))<|Qn ?_;rintro _ ⟨i,rfl⟩;obtain⟨N,o⟩ : ∃ b,b=World.drewN m i:=⟨_,rfl⟩;rw[<- o];have J:Stp m.heap.size m N:=by rw[o]; exact Sb (je m i)
  have⟨G,C⟩:=eO J.old r u;clear o;refine bP<|sN<|Wl<|aX g<|Lv (au ((j:Int)+1)) fF<|av (au ((j:Int)+1))<|Ln<|iq ⟨j+1,by omega,p,(q.trans Fx.ic),Fx.ic,Fx.ic,G,C⟩ ?_;show(6-(intOf (au ((j:Int)+1))).toNat)<_;simp only[g,intOf]; omega
 refine Lv aF (gK v)<|aD<|aK<|Wx<|bW<|gP<|bX<|sN<|ay<|aX y<|av (au (vF x k j))<|aD<|Wr<|aJ (au (vF x k j)) ?_;exact⟨oV (by rw[<- B]; exact L_ _ (by omega)),u⟩
namespace Rt
def Uk(x:Nat->Int)(i:Nat):Prop:=zR (x i)=true/\zR (x (i+6))=true/\zR (x (i+12))=true/\x (i+12)<=x (i+6)/\x (7*i+18)=0
def Fj(x:Nat->Int)(i j:Nat):Prop := ∀ q,q<j->zR (x (6*i+q+18))=true
def KZ(x:Nat->Int)(i:Nat):Prop := ∀ k,k<i->Uk x k/\Fj x k 6
def zw(x:Nat->Int):Nat->Int
 | 0=>0
 | i+1=>zw x i+x i
theorem Qm(x:Nat->Int):KZ x 0:=fun _ h=>M_ h (by omega)
theorem M8(x:Nat->Int)(i:Nat):Fj x i 0:=fun _ h=>M_ h (by omega)
theorem M9{x:Nat->Int}{i j:Nat}(h:Fj x i j)(a:zR (x (6*i+j+18))=true):Fj x i (j+1):=fun q b=>by
 by_cases e:q=j
 ·subst e; exact a
 ·exact h q (by omega)
theorem Qo{x:Nat->Int}{i:Nat}(h:KZ x i)(hr:Uk x i)(a:Fj x i 6):KZ x (i+1):=fun k b=>by
 by_cases e:k=i
 ·subst e; exact⟨hr,a⟩
 ·exact h k (by omega)
theorem K3{x:Nat->Int}(h:KZ x 6):Qd x:=fun p d=>by
 by_cases a:p<6
 ·exact zX (h p a).1.1
 ·by_cases b:p<12
  ·have:=zX (h (p-6) (by omega)).1.2.1; rwa [show p-6+6=p by omega]at this
  ·by_cases c:p<18
   ·have:=zX (h (p-12) (by omega)).1.2.2.1; rwa [show p-12+12=p by omega]at this
   ·have:=zX ((h ((p-18) / 6) (by omega)).2 ((p-18) % 6) (by omega)); rwa [show 6*((p-18) / 6)+(p-18) % 6+18=p by omega]at this
theorem OE{x:Nat->Int} : ∀ {i:Nat},KZ x i->0<=zw x i/\zw x i<=1125899906842624*(i:Int)
 | 0,_=>by simp[zw]
 | i+1,h=>by
   have a:=OE (i:=i) (fun k c=>h k (by omega));have b:=zX (h i (by omega)).1.1;simp only[zw]; omega
theorem Jo{x:Nat->Int}{p:Nat}(a:p<54)(h:zR (x p)=false):may x=false:=by
 cases hm:may x
 ·rfl
 have:=(jS x).1 hm |>.1 p a;unfold zR at h; simp at h; omega
theorem agG{x:Nat->Int}{i:Nat}(hi:i<6)(h:x (i+6)<x (i+12)):may x=false:=by
 cases hm:may x
 ·rfl
 have:=((jS x).1 hm |>.2.1 i hi).2.1;unfold F C at this; rw[Nat.add_comm 12 i,Nat.add_comm 6 i]at this; omega
theorem agH{x:Nat->Int}{i:Nat}(hi:i<6)(h : ¬ x (7*i+18)=0):may x=false:=by
 cases hm:may x
 ·rfl
 have:=((jS x).1 hm |>.2.1 i hi).2.2;unfold R at this; rw[show 18+i*6+i=7*i+18 by omega]at this; exact M_ this h
theorem acv{x:Nat->Int}{i:Nat}(hi:i<6)(h:L x i<0):may x=false:=by
 cases hm:may x
 ·rfl
 have:=((jS x).1 hm |>.2.1 i hi).1;omega
theorem Ul{x:Nat->Int}{m:Nat}(h : ∀ k,k<m->0<=L x k)(a:0<=L x m) : ∀ k,k<m+1->0<=L x k:=fun k b=>by
 by_cases e:k=m
 ·rw[e]; exact a
 ·exact h k (by omega)
theorem OG{x:Nat->Int}(ha:KZ x 6)(b : ∀ k,k<6->0<=L x k):may x=decide (zw x 6<=1125899906842624):=by
 have c:zw x 6=sK x:=by simp only[zw,sK,G]; omega
 rw[c,Bool.eq_iff_iff,jS,P_];refine⟨fun h=>h.2.2,fun h=>⟨K3 ha,fun k a=>⟨b k a,?_,?_⟩,h⟩⟩
 ·have:=(ha k a).1.2.2.2.1; unfold F C; rwa [Nat.add_comm 12 k,Nat.add_comm 6 k]
 have:=(ha k a).1.2.2.2.2; unfold R; rwa [show 18+k*6+k=7*k+18 by omega]
end Rt
set_option maxRecDepth 10000 in
set_option maxHeartbeats 1000000 in
theorem Jp(x:Nat->Int)(w:World) :
 Calls Tryz.prog 98 #[.agg (aA 54 (rv .i64 x))] w fun e w'=>e = .returned (.bool (may x))/\Below w.heap.size w w':=by
 refine Kent Tryz.func98 81 ?_;refine ay<|oL fun c w1 lY m1 s1 z1 => ?_;have b1:=bB s1.old (Below.refl w.heap.size w);have su:=gH lY;have ug:=m1.lt;refine av aF<|aD<|ay<|av (au 0)<|aD<|Ws<|ay<|av (au 0)<|aD<|Wb<|Wo (fun f q => ∃ i:Nat,i<=6/\KZ x i/\f 1=(pt c)/\f 3=au (zw x i)/\f 4=au (i:Int)/\aR q c 54 (rv .i64 x) 82/\Below w.heap.size w q) (fun f _=>(6-(intOf (f 4)).toNat)) ⟨0,by omega,Qm x,(by rfl),Fx.ic,Fx.ic,m1,b1⟩ ?_;rintro f1 d ⟨i,hi,B,n,h2,l,o,r⟩;have hG:=OE B;have HG:zw x (i+1)=zw x i+x i:=rfl;refine Ws<|ay<|aX l ?_;by_cases Z:(i:Int)<6
 ·refine Lv aG (gJ Z)<|aD<|aM<|Wk<|sN<|Ws<|Wb<|Ws<|Ws ?_;refine uR<|dO l<|Qv (pt c) (fun a b=>jA n 0)<|Qv (pf c i) (fun a b=>jI 6 1)<|Qv (au (x i)) (fun a b=>aL (o.aH.dr b) i) ?_;by_cases s:(zR (x i))=true
  ·refine qw (fun _ _=>nL (x i) _) aG (by rw[s])<|aW aF<|aW aF<|dO l<|Qv (pf c 6) (fun a b=>jA n 6)<|Qv (pf c (i+6)) (fun a b=>jI 6 1)<|Qv (au (x (i+6))) (fun a b=>aL (o.aH.dr b) (i+6)) ?_;by_cases v:(zR (x (i+6)))=true
   ·refine qw (fun _ _=>nL (x (i+6)) _) aG (by rw[v])<|aW aF<|aW aF<|aW aF<|dO l<|Qv (pf c 12) (fun a b=>jA n 12)<|Qv (pf c (i+12)) (fun a b=>jI 6 1)<|Qv (au (x (i+12))) (fun a b=>aL (o.aH.dr b) (i+12)) ?_;by_cases y:(zR (x (i+12)))=true
    ·refine qw (fun _ _=>nL (x (i+12)) _) aG (by rw[y])<|aW aF<|aW aF<|aW aF<|dO l<|Qv (pf c 12) (fun a b=>jA n 12)<|Qv (pf c (i+12)) (fun a b=>jI 6 1)<|Qv (au (x (i+12))) (fun a b=>aL (o.aH.dr b) (i+12))<|dO l<|Qv (pf c 6) (fun a b=>jA n 6)<|Qv (pf c (i+6)) (fun a b=>jI 6 1)<|Qv (au (x (i+6))) (fun a b=>aL (o.aH.dr b) (i+6)) ?_;by_cases H:(x (i+6))<(x (i+12))
     ·refine Qv aG (fun a b=>mG H)<|aW aG<|aW aG<|aS<|aS<|aS<|aS<|aS<|aS<|aS<|aW aG<|Qn ?_;rintro _ ⟨g,rfl⟩;obtain⟨BX,K⟩ : ∃ a,a=World.drewN d g:=⟨_,rfl⟩;rw[<- K];have s2:Stp d.heap.size d BX:=(by rw[K]; exact Sb (je d g));have b3:=bB s2.old r;clear K;refine sN (aM (ay (av aF (aD (Wr (sR (bK (sR (pK (bK (sR (aJ aF (⟨iE (Eq.symm ?_),b3⟩)))))))))))));exact agG (i:=i) (by omega) H
     refine Qv aF (fun a b=>mH H)<|aW aF<|aW aF<|dO l<|dO l<|Qv (pf c 18) (fun a b=>jA n 18)<|Qv (pf c (6*i+18)) (fun a b=>jI 6 6)<|Qv (pf c (7*i+18)) (fun a b=>jI 6 1)<|Qv (au (x (7*i+18))) (fun a b=>aL (o.aH.dr b) (7*i+18)) ?_;by_cases C:(x (7*i+18))=0
     ·refine Qv aF (fun a b=>jJ C)<|aW aF<|Qn ?_;rintro _ ⟨g,rfl⟩;obtain⟨wq2,M⟩ : ∃ a,a=World.drewN d g:=⟨_,rfl⟩;rw[<- M];have s3:Stp d.heap.size d wq2:=(by rw[M]; exact Sb (je d g));have⟨m4,b4⟩:=eO s3.old o r;clear M;refine sN<|aK<|Wk<|sN<|Ws ?_;have hR:Uk x i:=⟨s,v,y,by omega,C⟩;have b15:=zX s;refine Wl<|aX h2<|aX l<|Lv (pt c) (jA n 0)<|Lv (pf c i) (jI 6 1)<|Lv (au (x i)) (aL m4.aH i)<|Lv (au ((zw x i)+(x i))) fF<|av (au ((zw x i)+(x i)))<|aD<|ay<|av (au 0)<|aD<|Wb<|Wo (fun f q => ∃ j:Nat,j<=6/\Fj x i j/\f 1=(pt c)/\f 3=au (zw x (i+1))/\f 4=au (i:Int)/\f 5=au (j:Int)/\aR q c 54 (rv .i64 x) 82/\Below w.heap.size w q) (fun f _=>(6-(intOf (f 5)).toNat)) ⟨0,by omega,M8 x i,n,Fx.ic,(l.trans Fx.ic),Fx.ic,m4,b4⟩ ?_;rintro f2 w3 ⟨j,hj,T,R,h5,S,E,U,G⟩;refine Ws<|ay<|aX E ?_;by_cases X:(j:Int)<6
      ·refine Lv aG (gJ X)<|aD<|aM<|Wk<|sN<|Ws<|Wb<|ay<|aX S<|aX E<|Lv (pf c 18) (jA R 18)<|Lv (pf c (6*i+18)) (jI 6 6)<|Lv (pf c (6*i+j+18)) (jI 6 1)<|Lv (au (x (6*i+j+18))) (aL U.aH (6*i+j+18)) ?_;by_cases z:(zR (x (6*i+j+18)))=true
       ·refine kQ (nL (x (6*i+j+18)) _) aG (by rw[z])<|av aF<|aD<|aK<|Wk<|bP<|sN<|Wl<|aX E<|Lv (au ((j:Int)+1)) fF<|av (au ((j:Int)+1))<|Ln<|iq ⟨j+1,by omega,M9 T z,R,(h5.trans Fx.ic),(S.trans Fx.ic),Fx.ic,U,G⟩ ?_;show(6-(intOf (au ((j:Int)+1))).toNat)<_;simp only[E,intOf]; omega
       rw[T_]at z;refine kQ (nL (x (6*i+j+18)) _) aF (by rw[z]) (av aG (aD (aM (ay (av aF (aD (Wr (bK (sR (pK (bK (bK (sR (pK (bK (sR (aJ aF (⟨iE (Eq.symm ?_),G⟩))))))))))))))))));exact Jo (p:=6*i+j+18) (by omega) z
      refine Lv aF (gK X)<|aD<|aK<|Wx<|bW<|gP<|bX<|bP<|sN<|Wl<|aX S<|Lv (au ((i:Int)+1)) fF<|av (au ((i:Int)+1))<|Ln ?_;have A:j=6:=(by omega);have hT6:Fj x i 6:=(by rw[A]at T; exact T);refine iq ⟨i+1,by omega,Qo B hR hT6,R,(h5.trans Fx.ic),Fx.ic,U,G⟩ ?_;show(6-(intOf (au ((i:Int)+1))).toNat)<_;simp only[l,intOf]; omega
     refine Qv aG (fun a b=>nC C)<|aW aG<|Qn ?_;rintro _ ⟨g,rfl⟩;obtain⟨WY,N⟩ : ∃ a,a=World.drewN d g:=⟨_,rfl⟩;rw[<- N];have s4:Stp d.heap.size d WY:=(by rw[N]; exact Sb (je d g));have b6:=bB s4.old r;clear N;refine sN (aM (ay (av aF (aD (Wr (sR (bK (sR (pK (bK (sR (aJ aF (⟨iE (Eq.symm ?_),b6⟩)))))))))))));exact agH (i:=i) (by omega) C
    rw[T_]at y;refine qw (fun _ _=>nL (x (i+12)) _) aF (by rw[y])<|aW aG<|aW aG<|aW aG<|aS<|aS<|aS<|aS<|aS<|aS<|aS<|aS<|aS<|aW aG<|aW aG<|aS<|aS<|aS<|aS<|aS<|aS<|aS<|aW aG<|Qn ?_;rintro _ ⟨g,rfl⟩;obtain⟨wq4,O⟩ : ∃ a,a=World.drewN d g:=⟨_,rfl⟩;rw[<- O];have s5:Stp d.heap.size d wq4:=(by rw[O]; exact Sb (je d g));have b7:=bB s5.old r;clear O;refine sN (aM (ay (av aF (aD (Wr (sR (bK (sR (pK (bK (sR (aJ aF (⟨iE (Eq.symm ?_),b7⟩)))))))))))));exact Jo (p:=i+12) (by omega) y
   rw[T_]at v;refine qw (fun _ _=>nL (x (i+6)) _) aF (by rw[v])<|aW aG<|aW aG<|aW aG<|aS<|aS<|aS<|aS<|aS<|aS<|aW aG<|aW aG<|aS<|aS<|aS<|aS<|aS<|aS<|aS<|aS<|aS<|aW aG<|aW aG<|aS<|aS ?_;refine aS<|aS<|aS<|aS<|aS<|aW aG<|Qn ?_;rintro _ ⟨g,rfl⟩;obtain⟨wq5,P⟩ : ∃ a,a=World.drewN d g:=⟨_,rfl⟩;rw[<- P];have s6:Stp d.heap.size d wq5:=(by rw[P]; exact Sb (je d g));have b8:=bB s6.old r;clear P;refine sN (aM (ay (av aF (aD (Wr (sR (bK (sR (pK (bK (sR (aJ aF (⟨iE (Eq.symm ?_),b8⟩)))))))))))));exact Jo (p:=i+6) (by omega) v
  rw[T_]at s;refine qw (fun _ _=>nL (x i) _) aF (by rw[s])<|aW aG<|aW aG<|aS<|aS<|aS<|aS<|aS<|aS<|aW aG<|aW aG<|aS<|aS<|aS<|aS<|aS<|aS<|aW aG<|aW aG<|aS<|aS<|aS<|aS<|aS<|aS ?_;refine aS<|aS<|aS<|aW aG<|aW aG<|aS<|aS<|aS<|aS<|aS<|aS<|aS<|aW aG<|Qn ?_;rintro _ ⟨g,rfl⟩;obtain⟨wq6,Q⟩ : ∃ a,a=World.drewN d g:=⟨_,rfl⟩;rw[<- Q];have s7:Stp d.heap.size d wq6:=by rw[Q]; exact Sb (je d g)
  have b9:=bB s7.old r;clear Q;refine sN (aM (ay (av aF (aD (Wr (sR (bK (sR (pK (bK (sR (aJ aF (⟨iE (Eq.symm ?_),b9⟩)))))))))))));exact Jo (p:=i) (by omega) s
 refine Lv aF (gK Z)<|aD<|aK<|Wx<|bW<|gP<|bX<|sN<|Ws<|ay<|av (au 1)<|aD<|Wb ?_;have A:i=6:=by omega
 rw[A]at B;have HE:=K3 B;have V:KZ x 6:=B;refine Wo (fun f q => ∃ m:Nat,m<=6/\(∀ k,k<m->0<=L x k)/\f 1=(pt c)/\f 3=au (zw x i)/\f 6=au ((m:Int)+1)/\aR q c 54 (rv .i64 x) 82/\Below w.heap.size w q) (fun f _=>(7-(intOf (f 6)).toNat)) ⟨0,by omega,(fun _ h=>M_ h (by omega)),n,(h2.trans Fx.ic),Fx.ic,o,r⟩ ?_;rintro f3 w4 ⟨m,hm,u,h8,h9,D,m10,F⟩;refine Ws<|ay<|aX D ?_;by_cases Y:((m:Int)+1)<=6
 ·refine Lv aG (nA Y)<|aD<|aM<|Wk<|sN<|Ws<|Wb<|ay<|Lv (.agg (aA 54 (rv .i64 x))) (fC m10.aH 0 (ha:=h8))<|aX D<|dK (Bc x m _ (by omega) HE) _ rfl ?_;intro w5 hb1;have⟨m11,W⟩:=eO hb1 m10 F;by_cases I:(L x m)<0
  ·refine Lv aG (gJ I) (aD (aM (ay (av aF (aD (Wr (bK (sR (pK (bK (sR (aJ aF (⟨iE (Eq.symm ?_),W⟩)))))))))))));exact acv (i:=m) (by omega) I
  refine Lv aF (gK I)<|aD<|aK<|Wk<|bP<|sN<|Wl<|aX D<|Lv (au ((m:Int)+2)) fF<|av (au ((m:Int)+2))<|Ln<|iq ⟨m+1,by omega,Ul u (by omega),h8,(h9.trans Fx.ic),Fx.ic,m11,W⟩ ?_;show(7-(intOf (au ((m:Int)+2))).toNat)<_;simp only[D,intOf]; omega
 refine Lv aF (nN Y)<|aD<|aK<|Wx<|bW<|gP<|bX<|sN<|ay<|aX h9 ?_;by_cases t:(zw x i)<=1125899906842624
 ·refine Lv aG (nA t) (av aG (aD (Wr (aJ aG (⟨iE (Eq.symm ?_),F⟩)))));have J:m=6:=by omega
  rw[J]at u;rw[A]at t;rw[OG V u]; exact f_ t
 refine Lv aF (nN t) (av aF (aD (Wr (aJ aF (⟨iE (Eq.symm ?_),F⟩)))));have J:m=6:=by omega
 rw[J]at u;rw[A]at t;rw[OG V u]; exact g_ t
namespace Rt
def eY(x:Nat->Int)(i n:Int):Int:=if may x&&decide (1<=n)&&decide (n<=1125899906842624)then(if gI i then 0 else 10)else 1
theorem Na{x:Nat->Int}{i:Int}(h:may x=true)(hi:gI i=true) : ∃ k:Nat,k<6/\i=(k:Int)+1/\eF x i=L x k:=by
 obtain⟨a,b,c,_⟩:=og hi;exact⟨a,b,c,by rw[c]; exact mO h a b⟩
end Rt
theorem Qq(x:Nat->Int)(i:Int)(w:World) :
 Calls Tryz.prog 64 #[.agg (aA 54 (rv .i64 x)),au i] w fun e t=>e = .returned (au (eF x i))/\Below w.heap.size w t:=by
 refine Kent Tryz.func64 16 ?_;refine ay<|oL fun u A l c s E => ?_;have d:=bB s.old (Below.refl w.heap.size w);have y:=gH l;have z:=c.lt;refine av (au 0)<|aD<|Ws<|ay<|Lv (.agg (aA 54 (rv .i64 x))) (fC c.aH 0) ?_;by_cases a:(may x)=true
 ·refine dK (Jp x _) aG (by rw[a]) ?_;intro B o;have⟨r,f⟩:=eO o c d;refine av aF<|av aF<|av (au i) ?_;by_cases b:(gI i)=true
  ·refine kQ (rR i _) aG (by rw[b])<|av aF<|av aF<|aD<|aK<|Wk<|sN<|Ws ?_;have g:=a;obtain⟨k,v,m,n⟩:=Na a b;subst m;refine Wl<|Lv (.agg (aA 54 (rv .i64 x))) (fC r.aH 0)<|av (au ((k:Int)+1))<|dK (Bc x k _ (by omega) (kM g)) _ rfl ?_;intro C p;have h:=bB p f;refine av (au (L x k)) (aD (Wr (aJ (au (L x k)) (⟨?_,h⟩))));rw[n]
  rw[T_]at b;refine kQ (rR i _) aF (by rw[b]) (av aG (av aG (aD (aM (ay (av (au 0) (aD (Wr (sR (aJ (au 0) (⟨?_,f⟩)))))))))));rw[Ho x i (by rw[b,Bool.false_and])]
 rw[T_]at a;refine dK (Jp x _) aF (by rw[a]) ?_;intro D q;have j:=bB q d;refine av aG (av aG (dB (dB (dB (av aG (aD (aM (ay (av (au 0) (aD (Wr (sR (aJ (au 0) (⟨?_,j⟩))))))))))))));rw[Ho x i (by rw[a,I_])]
theorem Fp(x:Nat->Int)(i n:Int)(w:World) :
 Calls Tryz.prog 162 #[.agg (aA 54 (rv .i64 x)),au i,au n] w fun e p=>e = .returned (au (eY x i n))/\Below w.heap.size w p:=by
 refine Kent Tryz.func162 21 ?_;refine ay<|oL fun q t k h o y => ?_;have d:=bB o.old (Below.refl w.heap.size w);have r:=gH k;have s:=h.lt;refine av (au 0)<|aD<|Ws<|ay<|Lv (.agg (aA 54 (rv .i64 x))) (fC h.aH 0) ?_;by_cases a:(may x)=true
 ·refine dK (Jp x _) aG (by rw[a]) ?_;intro u l;have c:=bB l d;refine av aF<|av aF<|av (au n) ?_;by_cases f:n<1
  ·refine Lv aG (gJ f) (av aG (av aG (dB (dB (av aG (aD (aM (ay (av (au 1) (aD (Wr (sR (aJ (au 1) (⟨oV ?_,c⟩))))))))))))));unfold eY; rw[a,g_ (show ¬ 1<=n by omega)]; simp
  refine Lv aF (gK f)<|av aF<|av aF<|av (au n) ?_;by_cases g:1125899906842624<n
  ·refine Lv aG (mG g) (av aG (aD (aM (ay (av (au 1) (aD (Wr (sR (aJ (au 1) (⟨oV ?_,c⟩))))))))));unfold eY; rw[a,f_ (show 1<=n by omega),g_ (show ¬ n<=1125899906842624 by omega)]; simp
  refine Lv aF (mH g)<|av aF<|aD<|aK<|Wk<|sN<|Ws<|ay<|av (au i) ?_;by_cases b:(gI i)=true
  ·refine kQ (rR i _) aG (by rw[b]) (av aF (aD (aK (Wk (sN (ay (av (au 0) (aD (Wr (aJ (au 0) (⟨oV ?_,c⟩)))))))))));unfold eY; rw[a,f_ (show 1<=n by omega),f_ (show n<=1125899906842624 by omega),b]; simp
  rw[T_]at b;refine kQ (rR i _) aF (by rw[b]) (av aG (aD (aM (ay (av (au 10) (aD (Wr (sR (aJ (au 10) (⟨oV ?_,c⟩))))))))));unfold eY; rw[a,f_ (show 1<=n by omega),f_ (show n<=1125899906842624 by omega),b]; simp
 rw[T_]at a;refine dK (Jp x _) aF (by rw[a]) ?_;intro v m;have j:=bB m d;refine av aG (av aG (dB (dB (av aG (av aG (dB (dB (av aG (aD (aM (ay (av (au 1) (aD (Wr (sR (aJ (au 1) (⟨oV ?_,j⟩)))))))))))))))));unfold eY; rw[a]; simp
namespace Rt
theorem Fq{x:Nat->Int}{i n:Int}(h:eY x i n=0):may x=true/\1<=n/\n<=1125899906842624/\gI i=true:=by
 unfold eY at h;by_cases a:may x=true
 ·by_cases b:1<=n
  ·by_cases c:n<=1125899906842624
   ·rw[a,f_ b,f_ c]at h
    cases h4:gI i
    ·rw[h4]at h; simp at h
    exact⟨a,b,c,rfl⟩
   rw[g_ c]at h; simp at h
  rw[g_ b]at h; simp at h
 rw[show may x=false by simpa using a]at h; simp at h
theorem K4{x:Nat->Int}{i n b:Int}{off:Nat}(h : ¬ eY x i n=0):cK x n (gI i) b off=(zero,eY x i n):=by
 unfold eY at *;unfold cK;by_cases a:(may x&&decide (1<=n)&&decide (n<=1125899906842624))=true
 ·simp only[d_ a]at *
  cases h4:gI i
  ·simp
  simp[h4]at h
 simp only[b_ a]at *
theorem Cm{x:Nat->Int}{n a:Int}{is:Bool}{off:Nat}(h1:may x=true)(b:1<=n)(c:n<=1125899906842624)(d:is=true) :
 cK x n is a off=if a=0 then(if x off+n<=1125899906842624 then(upd x off (x off+n),0)else(zero,6))else(zero,a):=by
 unfold cK; rw[h1,f_ b,f_ c,d]; simp
theorem Ae{x:Nat->Int}{n a:Int}{is:Bool}{off:Nat}(h1:may x=true)(b:1<=n)(c:n<=1125899906842624)(d:is=true)(e:a=0)(f:x off+n<=1125899906842624):cK x n is a off=(upd x off (x off+n),0):=by
 rw[Cm h1 b c d,d_ e,d_ f]
theorem Db{x:Nat->Int}{n a:Int}{is:Bool}{off:Nat}(h1:may x=true)(b:1<=n)(c:n<=1125899906842624)(d:is=true)(e:a=0)(f : ¬ x off+n<=1125899906842624):cK x n is a off=(zero,6):=by
 rw[Cm h1 b c d,d_ e,b_ f]
theorem wN{x:Nat->Int}{n a e:Int}{is:Bool}{off:Nat}(h1:may x=true)(b:1<=n)(c:n<=1125899906842624)(d:is=true)(f:a=e)(g:e≠0):cK x n is a off=(zero,e):=by
 rw[Cm h1 b c d,f,b_ g]
theorem Qr{x:Nat->Int}{n a:Int}{off:Nat}(h1:may x=true)(b:1<=n)(c:n<=1125899906842624):cK x n false a off=(zero,10):=by
 unfold cK; rw[h1,f_ b,f_ c]; simp
theorem pl(k:Nat):((k:Int)+1).toNat-1=k:=by omega
theorem Qu{x:Nat->Int}{i j n:Int}(h : ¬ eY x i n=0):dn x i j n=(zero,eY x i n):=by
 unfold dn;unfold eY at *;unfold cK;by_cases a:(may x&&decide (1<=n)&&decide (n<=1125899906842624))=true
 ·simp only[d_ a]at *
  cases h4:gI i
  ·simp
  simp[h4]at h
 simp only[b_ a]at *
theorem K5(k q:Nat):kZ ((k:Int)+1) ((q:Int)+1)=6*k+q+18:=by unfold kZ; omega
theorem Um{x:Nat->Int}{k:Nat}(a:may x=true)(b:k<6):x (k+6)<=1125899906842624:=(kM a (k+6) (by omega)).2
end Rt
set_option maxRecDepth 10000 in
theorem X4(x:Nat->Int)(i n:Int)(w:World) :
 Calls Tryz.prog 159 #[.agg (aA 54 (rv .i64 x)),au i,au n] w fun e w'=>e = .returned (.tuple #[.agg (aA 54 (rv .i64 (bH x i n).1)),au (bH x i n).2])/\Below w.heap.size w w':=by
 refine Kent Tryz.func159 42 ?_;refine ay<|oL fun b w1 Q p s1 z1 => ?_;have u:=bB s1.old (Below.refl w.heap.size w);have su:=gH Q;have ug:=p.lt;refine rD 54 (rv .i64 (fun _=>0)) fun l w2 z B s2 z2 => ?_;have⟨C,K⟩:=eO s2.old p u;have qK:=iI z u.size;have KF:=bY z p.lt;have yK:=B.lt;refine av (au 0)<|aD<|ay<|Lv (.agg (aA 54 (rv .i64 x))) (fC C.aH 0)<|av (au i)<|av (au n)<|dK (Fp x i n _) _ rfl ?_;intro w3 S;have⟨q,D,m⟩:=iy S C B K;refine av (au (eY x i n))<|aD<|Ws<|ay<|av (au (eY x i n)) ?_;by_cases j:(eY x i n)=0
 ·refine Lv aF (jJ j)<|aD<|aK<|Wk<|sN<|Ws<|Ws ?_;obtain⟨a,s,t,h⟩:=Fq j;have J:=kM a;obtain⟨k,o,R,_⟩:=og h;subst R;refine Wl<|av (au n)<|Lv (.agg (aA 54 (rv .i64 x))) (fC q.aH 0)<|av (au ((k:Int)+1))<|dK (Bc x k _ (by omega) (kM a)) _ rfl ?_;intro w4 T;have⟨g,r,d⟩:=iy T q D m;by_cases f:(L x k)<n
  ·refine Lv aG (mG f)<|aD<|aM<|ay<|av (.agg (aA 54 (rv .i64 (fun _=>0))))<|eB r 0 fun w5 m8 E z3 => ?_;have m9:aR w5 l 54 (rv .i64 (fun _=>0)) 82:=aP m8;have m10:=g.cB E (by omega);have M:=E.below d d.size (by omega);refine av (au 11) (aD (Wr (sR (⟨.tuple #[.agg (aA 54 (rv .i64 (fun _=>0))),au 11],fO Tryz.results159 ⟨_,rfl,aT m9.aH (by kernel_rfl) (by kernel_rfl)⟩ (by exact rfl),?_⟩))));refine⟨?_,M⟩;have c:bH x ((k:Int)+1) n=(zero,11):=by
    unfold bH pX;rw[mO a k o,f_ f];exact wN a s t h rfl (by decide)
   rw[c]
   all_goals rfl
  refine Lv aF (mH f)<|aD<|aK<|Wk<|sN<|Ws<|Ws ?_;have q1:=J (k+6);refine Wl<|av (au ((k:Int)+1))<|Lv (au k) gF<|av (pf b 6)<|Lv (pf b (k+6)) (jI 6 1)<|Lv (au (x (k+6))) (aL g.aH (k+6))<|av (au n)<|Lv (au ((x (k+6))+n)) fF ?_;by_cases y:1125899906842624<((x (k+6))+n)
  ·refine Lv aG (mG y)<|aD<|aM<|ay<|av (.agg (aA 54 (rv .i64 (fun _=>0))))<|eB r 0 fun w6 U F z4 => ?_;have V:aR w6 l 54 (rv .i64 (fun _=>0)) 82:=aP U;have m13:=g.cB F (by omega);have N:=F.below d d.size (by omega);refine av (au 6) (aD (Wr (sR (⟨.tuple #[.agg (aA 54 (rv .i64 (fun _=>0))),au 6],fO Tryz.results159 ⟨_,rfl,aT V.aH (by kernel_rfl) (by kernel_rfl)⟩ (by exact rfl),?_⟩))));refine⟨?_,N⟩;have c:bH x ((k:Int)+1) n=(zero,6):=by
    unfold bH pX;rw[mO a k o,g_ f,pl,Nat.add_comm 6 k];exact Db a s t h rfl (by omega)
   rw[c]
   all_goals rfl
  refine Lv aF (mH y)<|aD<|aK<|Wk<|sN<|ay<|av (au ((k:Int)+1))<|Lv (au k) gF<|av (pf b 6)<|Lv (pf b (k+6)) (jI 6 1)<|Lv (au (x (k+6))) (aL g.aH (k+6))<|av (au n)<|Lv (au ((x (k+6))+n)) fF<|av (pf b 6)<|Lv (pf b (k+6)) (jI 6 1)<|jd g (k+6) (au ((x (k+6))+n)) fun w7 W G z5 => ?_;have A:aR w7 b 54 (rv .i64 (upd x (k+6) ((x (k+6))+n))) 82:=W.to (Fx.yE _ _ _ _);have X:=r.cB G (by omega);have v:=G.below d d.size (by omega);refine aD<|ay<|Lv (.agg (aA 54 (rv .i64 (upd x (k+6) ((x (k+6))+n))))) (fC A.aH 0)<|eB X 0 fun w8 Y H z6 => ?_;have Z:aR w8 l 54 (rv .i64 (upd x (k+6) ((x (k+6))+n))) 82:=aP Y;have m19:=A.cB H (by omega);have O:=H.below v v.size (by omega);refine av (au 0) (aD (Wr (⟨.tuple #[.agg (aA 54 (rv .i64 (upd x (k+6) ((x (k+6))+n)))),au 0],fO Tryz.results159 ⟨_,rfl,aT Z.aH (by kernel_rfl) (by kernel_rfl)⟩ (by exact rfl),?_⟩)));refine⟨?_,O⟩;have c:bH x ((k:Int)+1) n=(upd x (k+6) (x (k+6)+n),0):=by
   unfold bH pX;rw[mO a k o,g_ f,pl,Nat.add_comm 6 k];exact Ae a s t h rfl (by omega)
  rw[c]
  all_goals rfl
 refine Lv aG (nC j)<|aD<|aM<|ay<|av (.agg (aA 54 (rv .i64 (fun _=>0))))<|av (au (eY x i n))<|eB D 0 fun w9 aa I z7 => ?_;have ab:aR w9 l 54 (rv .i64 (fun _=>0)) 82:=aP aa;have m22:=q.cB I (by omega);have P:=I.below m m.size (by omega);refine av (au (eY x i n)) (aD (Wr (sR (⟨.tuple #[.agg (aA 54 (rv .i64 (fun _=>0))),au (eY x i n)],fO Tryz.results159 ⟨_,rfl,aT ab.aH (by kernel_rfl) (by kernel_rfl)⟩ (by exact rfl),?_⟩))));refine⟨?_,P⟩;have c:bH x i n=(zero,eY x i n):=by
  exact K4 j
 rw[c]
 all_goals rfl
set_option maxRecDepth 10000 in
theorem X5(x:Nat->Int)(i n:Int)(w:World) :
 Calls Tryz.prog 161 #[.agg (aA 54 (rv .i64 x)),au i,au n] w fun e w'=>e = .returned (.tuple #[.agg (aA 54 (rv .i64 (bI x i n).1)),au (bI x i n).2])/\Below w.heap.size w w':=by
 refine Kent Tryz.func161 41 ?_;refine ay<|oL fun c w1 T t s1 z1 => ?_;have y:=bB s1.old (Below.refl w.heap.size w);have su:=gH T;have ug:=t.lt;refine rD 54 (rv .i64 (fun _=>0)) fun s w2 D H s2 z2 => ?_;have⟨I,P⟩:=eO s2.old t y;have qK:=iI D y.size;have KF:=bY D t.lt;have yK:=H.lt;refine av (au 0)<|aD<|ay<|Lv (.agg (aA 54 (rv .i64 x))) (fC I.aH 0)<|av (au i)<|av (au n)<|dK (Fp x i n _) _ rfl ?_;intro d V;have⟨g,u,l⟩:=iy V I H P;refine av (au (eY x i n))<|aD<|Ws<|ay<|av (au (eY x i n)) ?_;by_cases m:(eY x i n)=0
 ·refine Lv aF (jJ m)<|aD<|aK<|Wk<|sN<|Ws<|Ws ?_;obtain⟨j,J,K,p⟩:=Fq m;have v:=kM j;obtain⟨k,W,U,_⟩:=og p;subst U;have q1:=v (k+6);have q2:=v (k+12);refine uR<|aW (au n)<|aW (au ((k:Int)+1))<|Qv (au k) (fun a b=>gF)<|aW (pf c 6)<|Qv (pf c (k+6)) (fun a b=>jI 6 1)<|Qv (au (x (k+6))) (fun a b=>aL (g.aH.dr b) (k+6))<|aW (au ((k:Int)+1))<|Qv (au k) (fun a b=>gF)<|aW (pf c 12)<|Qv (pf c (k+12)) (fun a b=>jI 6 1)<|Qv (au (x (k+12))) (fun a b=>aL (g.aH.dr b) (k+12))<|Qv (au ((x (k+6))-(x (k+12)))) (fun a b=>gF) ?_;by_cases o:((x (k+6))-(x (k+12)))<n
  ·refine Qv aG (fun a b=>mG o)<|Qn ?_;rintro _ ⟨h,rfl⟩;obtain⟨BX,q⟩ : ∃ a,a=World.drewN d h:=⟨_,rfl⟩;rw[<- q];have s4:Stp d.heap.size d BX:=(by rw[q]; exact Sb (je d h));have⟨m6,m7,z⟩:=iy s4.old g u l;clear q;refine sN<|aM<|ay<|av (.agg (aA 54 (rv .i64 (fun _=>0))))<|eB m7 0 fun w4 m8 L z3 => ?_;have m9:aR w4 s 54 (rv .i64 (fun _=>0)) 82:=aP m8;have m10:=m6.cB L (by omega);have Q:=L.below z z.size (by omega);refine av (au 12) (aD (Wr (sR (⟨.tuple #[.agg (aA 54 (rv .i64 (fun _=>0))),au 12],fO Tryz.results161 ⟨_,rfl,aT m9.aH (by kernel_rfl) (by kernel_rfl)⟩ (by exact rfl),?_⟩))));refine⟨?_,Q⟩;have f:bI x ((k:Int)+1) n=(zero,12):=by
    unfold bI pY C F;rw[pl,Nat.add_comm 6 k,Nat.add_comm 12 k,f_ o];exact wN j J K p rfl (by decide)
   rw[f]
   all_goals rfl
  refine Qv aF (fun a b=>mH o)<|Qn ?_;rintro _ ⟨h,rfl⟩;obtain⟨wq2,r⟩ : ∃ a,a=World.drewN d h:=⟨_,rfl⟩;rw[<- r];have s6:Stp d.heap.size d wq2:=by rw[r]; exact Sb (je d h)
  have⟨E,X,A⟩:=iy s6.old g u l;clear r;refine sN<|aK<|Wk<|sN<|ay<|av (au ((k:Int)+1))<|Lv (au k) gF<|av (pf c 12)<|Lv (pf c (k+12)) (jI 6 1)<|Lv (au (x (k+12))) (aL E.aH (k+12))<|av (au n)<|Lv (au ((x (k+12))+n)) fF<|av (pf c 12)<|Lv (pf c (k+12)) (jI 6 1)<|jd E (k+12) (au ((x (k+12))+n)) fun w5 Y M z4 => ?_;have G:aR w5 c 54 (rv .i64 (upd x (k+12) ((x (k+12))+n))) 82:=Y.to (Fx.yE _ _ _ _);have Z:=X.cB M (by omega);have B:=M.below A A.size (by omega);refine aD<|ay<|Lv (.agg (aA 54 (rv .i64 (upd x (k+12) ((x (k+12))+n))))) (fC G.aH 0)<|eB Z 0 fun w6 aa N z5 => ?_;have ab:aR w6 s 54 (rv .i64 (upd x (k+12) ((x (k+12))+n))) 82:=aP aa;have m18:=G.cB N (by omega);have R:=N.below B B.size (by omega);refine av (au 0) (aD (Wr (⟨.tuple #[.agg (aA 54 (rv .i64 (upd x (k+12) ((x (k+12))+n)))),au 0],fO Tryz.results161 ⟨_,rfl,aT ab.aH (by kernel_rfl) (by kernel_rfl)⟩ (by exact rfl),?_⟩)));refine⟨?_,R⟩;have f:bI x ((k:Int)+1) n=(upd x (k+12) (x (k+12)+n),0):=by
   unfold bI pY C F;rw[pl,Nat.add_comm 6 k,Nat.add_comm 12 k,g_ o];exact Ae j J K p rfl (by have:=Um j W; omega)
  rw[f]
  all_goals rfl
 refine Lv aG (nC m)<|aD<|aM<|ay<|av (.agg (aA 54 (rv .i64 (fun _=>0))))<|av (au (eY x i n))<|eB u 0 fun w7 ac O z6 => ?_;have ad:aR w7 s 54 (rv .i64 (fun _=>0)) 82:=aP ac;have m21:=g.cB O (by omega);have S:=O.below l l.size (by omega);refine av (au (eY x i n)) (aD (Wr (sR (⟨.tuple #[.agg (aA 54 (rv .i64 (fun _=>0))),au (eY x i n)],fO Tryz.results161 ⟨_,rfl,aT ad.aH (by kernel_rfl) (by kernel_rfl)⟩ (by exact rfl),?_⟩))));refine⟨?_,S⟩;have f:bI x i n=(zero,eY x i n):=by
  exact K4 m
 rw[f]
 all_goals rfl
set_option maxRecDepth 10000 in
theorem X6(x:Nat->Int)(i j n:Int)(w:World) :
 Calls Tryz.prog 127 #[.agg (aA 54 (rv .i64 x)),au i,au j,au n] w fun e w'=>e = .returned (.tuple #[.agg (aA 54 (rv .i64 (dn x i j n).1)),au (dn x i j n).2])/\Below w.heap.size w w':=by
 refine Kent Tryz.func127 59 ?_;refine ay<|oL fun c w1 aa z s1 z1 => ?_;have B:=bB s1.old (Below.refl w.heap.size w);have su:=gH aa;have ug:=z.lt;refine rD 54 (rv .i64 (fun _=>0)) fun h w2 F H s2 z2 => ?_;have⟨J,W⟩:=eO s2.old z B;have qK:=iI F B.size;have KF:=bY F z.lt;have yK:=H.lt;refine av (au 0)<|aD<|ay<|Lv (.agg (aA 54 (rv .i64 x))) (fC J.aH 0)<|av (au i)<|av (au n)<|dK (Fp x i n _) _ rfl ?_;intro w3 hb1;have⟨p,u,f⟩:=iy hb1 J H W;refine av (au (eY x i n))<|aD<|Ws<|ay<|av (au (eY x i n)) ?_;by_cases t:(eY x i n)=0
 ·refine Lv aF (jJ t)<|aD<|aK<|Wk<|sN<|Ws<|Ws ?_;obtain⟨b,r,s,l⟩:=Fq t;have S:=kM b;obtain⟨k,y,ei,_⟩:=og l;subst ei;refine Wl<|av (au j) ?_;by_cases d:(gI j)=true
  ·refine kQ (rR j _) aG (by rw[d])<|av aF<|aD<|aK<|Wk<|sN<|Ws<|Ws ?_;obtain⟨q,hq,ej,_⟩:=og d;subst ej;refine Wl<|av (au ((k:Int)+1))<|av (au ((q:Int)+1)) ?_;by_cases g:((k:Int)+1)=((q:Int)+1)
   ·refine Lv aG (fI g)<|aD<|aM<|ay<|av (.agg (aA 54 (rv .i64 (fun _=>0))))<|eB u 0 fun w4 m6 O z3 => ?_;have m7:aR w4 h 54 (rv .i64 (fun _=>0)) 82:=aP m6;have m8:=p.cB O (by omega);have X:=O.below f f.size (by omega);refine av (au 1) (aD (Wr (sR (⟨.tuple #[.agg (aA 54 (rv .i64 (fun _=>0))),au 1],fO Tryz.results127 ⟨_,rfl,aT m7.aH (by kernel_rfl) (by kernel_rfl)⟩ (by exact rfl),?_⟩))));refine⟨?_,X⟩;have a:dn x ((k:Int)+1) ((q:Int)+1) n=(zero,1):=by
     unfold dn nK;rw[d_ g];exact wN b r s (by rw[l,d]; rfl) rfl (by decide)
    rw[a]
    all_goals rfl
   refine Lv aF (gG g)<|aD<|aK<|Wk<|sN<|Ws<|ay<|av (au n)<|Lv (.agg (aA 54 (rv .i64 x))) (fC p.aH 0)<|av (au ((k:Int)+1))<|dK (Bc x k _ (by omega) (kM b)) _ rfl ?_;intro w5 hb2;have⟨v,A,m⟩:=iy hb2 p u f;by_cases o:(L x k)<n
   ·refine Lv aG (mG o)<|aD<|aM<|ay<|av (.agg (aA 54 (rv .i64 (fun _=>0))))<|eB A 0 fun w6 m11 P z4 => ?_;have m12:aR w6 h 54 (rv .i64 (fun _=>0)) 82:=aP m11;have m13:=v.cB P (by omega);have Y:=P.below m m.size (by omega);refine av (au 11) (aD (Wr (sR (⟨.tuple #[.agg (aA 54 (rv .i64 (fun _=>0))),au 11],fO Tryz.results127 ⟨_,rfl,aT m12.aH (by kernel_rfl) (by kernel_rfl)⟩ (by exact rfl),?_⟩))));refine⟨?_,Y⟩;have a:dn x ((k:Int)+1) ((q:Int)+1) n=(zero,11):=by
     unfold dn nK;rw[b_ g,mO b k y,f_ o];exact wN b r s (by rw[l,d]; rfl) rfl (by decide)
    rw[a]
    all_goals rfl
   refine Lv aF (mH o)<|aD<|aK<|Wk<|sN<|Ws<|Ws ?_;have q1:=S (6*k+q+18);refine Wl<|av (au ((k:Int)+1))<|Lv (au k) gF<|av (au ((q:Int)+1))<|Lv (au q) gF<|av (pf c 18)<|Lv (pf c (6*k+18)) (jI 6 6)<|Lv (pf c (6*k+q+18)) (jI 6 1)<|Lv (au (x (6*k+q+18))) (aL v.aH (6*k+q+18))<|av (au n)<|Lv (au ((x (6*k+q+18))+n)) fF ?_;by_cases E:1125899906842624<((x (6*k+q+18))+n)
   ·refine Lv aG (mG E)<|aD<|aM<|ay<|av (.agg (aA 54 (rv .i64 (fun _=>0))))<|eB A 0 fun w7 m14 Q z5 => ?_;have m15:aR w7 h 54 (rv .i64 (fun _=>0)) 82:=aP m14;have m16:=v.cB Q (by omega);have Z:=Q.below m m.size (by omega);refine av (au 6) (aD (Wr (sR (⟨.tuple #[.agg (aA 54 (rv .i64 (fun _=>0))),au 6],fO Tryz.results127 ⟨_,rfl,aT m15.aH (by kernel_rfl) (by kernel_rfl)⟩ (by exact rfl),?_⟩))));refine⟨?_,Z⟩;have a:dn x ((k:Int)+1) ((q:Int)+1) n=(zero,6):=by
     unfold dn nK;rw[b_ g,mO b k y,g_ o,K5];exact Db b r s (by rw[l,d]; rfl) rfl (by omega)
    rw[a]
    all_goals rfl
   refine Lv aF (mH E)<|aD<|aK<|Wk<|sN<|Ws ?_;refine Wt 13 (by kernel_rfl) (by kernel_rfl) fun qE dP iC => ?_;have⟨G,m18,C⟩:=iy dP v A m;refine EC (au ((k:Int)+1))<|qz (au k) gF<|EC (au ((q:Int)+1))<|qz (au q) gF<|EC (pf c 18)<|qz (pf c (6*k+18)) (jI 6 6)<|qz (pf c (6*k+q+18)) (jI 6 1)<|qz (au (x (6*k+q+18))) (aL G.aH (6*k+q+18))<|EC (au n)<|qz (au ((x (6*k+q+18))+n)) fF<|EC (pf c 18)<|qz (pf c (6*k+18)) (jI 6 6)<|qz (pf c (6*k+q+18)) (jI 6 1)<|Fx.St.nil ?_;refine jd G (6*k+q+18) (au ((x (6*k+q+18))+n)) fun w8 m19 R z6 => ?_;have I:aR w8 c 54 (rv .i64 (upd x (6*k+q+18) ((x (6*k+q+18))+n))) 82:=m19.to (Fx.yE _ _ _ _);have m21:=m18.cB R (by omega);have D:=R.below C C.size (by omega);refine aD<|ay<|Lv (.agg (aA 54 (rv .i64 (upd x (6*k+q+18) ((x (6*k+q+18))+n))))) (fC I.aH 0)<|eB m21 0 fun w9 m22 K z7 => ?_;have m23:aR w9 h 54 (rv .i64 (upd x (6*k+q+18) ((x (6*k+q+18))+n))) 82:=aP m22;have m24:=I.cB K (by omega);have T:=K.below D D.size (by omega);refine av (au 0) (aD (Wr (⟨.tuple #[.agg (aA 54 (rv .i64 (upd x (6*k+q+18) ((x (6*k+q+18))+n)))),au 0],fO Tryz.results127 ⟨_,rfl,aT m23.aH (by kernel_rfl) (by kernel_rfl)⟩ (by exact rfl),?_⟩)));refine⟨?_,T⟩;have a:dn x ((k:Int)+1) ((q:Int)+1) n=(upd x (6*k+q+18) (x (6*k+q+18)+n),0):=by
    unfold dn nK;rw[b_ g,mO b k y,g_ o,K5];exact Ae b r s (by rw[l,d]; rfl) rfl (by omega)
   rw[a]
   all_goals rfl
  rw[T_]at d;refine kQ (rR j _) aF (by rw[d])<|av aG<|aD<|aM<|ay<|av (.agg (aA 54 (rv .i64 (fun _=>0))))<|eB u 0 fun tH mV M z8 => ?_;have nO:aR tH h 54 (rv .i64 (fun _=>0)) 82:=aP mV;have ow:=p.cB M (by omega);have U:=M.below f f.size (by omega);refine av (au 10) (aD (Wr (sR (⟨.tuple #[.agg (aA 54 (rv .i64 (fun _=>0))),au 10],fO Tryz.results127 ⟨_,rfl,aT nO.aH (by kernel_rfl) (by kernel_rfl)⟩ (by exact rfl),?_⟩))));refine⟨?_,U⟩;have a:dn x ((k:Int)+1) j n=(zero,10):=by
   unfold dn;rw[d,I_];exact Qr b r s
  rw[a]
  all_goals rfl
 refine Lv aG (nC t)<|aD<|aM<|ay<|av (.agg (aA 54 (rv .i64 (fun _=>0))))<|av (au (eY x i n))<|eB u 0 fun Gc oD N z9 => ?_;have nU:aR Gc h 54 (rv .i64 (fun _=>0)) 82:=aP oD;have oz:=p.cB N (by omega);have V:=N.below f f.size (by omega);refine av (au (eY x i n)) (aD (Wr (sR (⟨.tuple #[.agg (aA 54 (rv .i64 (fun _=>0))),au (eY x i n)],fO Tryz.results127 ⟨_,rfl,aT nU.aH (by kernel_rfl) (by kernel_rfl)⟩ (by exact rfl),?_⟩))));refine⟨?_,V⟩;have a:dn x i j n=(zero,eY x i n):=by
  exact Qu t
 rw[a]
 all_goals rfl
namespace Rt
theorem Bd{m:kr}{x:Int}(h:0<=m.node x) : ∃ q:Nat,q<m.s.nn/\ig (fun i=>decide (m.id i=x)) m.s.nn=(q:Int)/\m.id q=x:=by
 rcases jO (fun i=>decide (m.id i=x)) m.s.nn with ⟨q,b,e,a⟩|⟨e,_⟩
 ·exact⟨q,b,e,h_ a⟩
 unfold kr.node at h; omega
theorem OH{n:Nat}{x:Nat->Int}{r:Int} : ∀ j,j<(n+1)*1->iD (rv .u64 x) (n*1) (bC (fun j=>rv .u64 (fun _=>0) (j % 1)) (0*1) 1 (fun _=>aC r)) j=rv .u64 (aI x n r) j:=by
 intro j a;unfold iD rv aI;by_cases h:j<n*1
 ·rw[d_ h,b_ (by omega)]
 rw[b_ h,d_ (by omega)];unfold bC;rw[d_ (by omega)]
theorem K6{P:Nat->Bool}{n k j:Nat}(e:k=j+1)(h : ∀ i,k<=i->i<n->P i=true)(c:P j=true) : ∀ i,j<=i->i<n->P i=true:=fun i d b=>by
 by_cases a:i=j
 ·subst a; exact c
 ·exact h i (by omega) b
end Rt
theorem Bf(m:kr)(p a:Nat)(o r:Int)(w:World)(h:BG w p m)(ha:a<6)(b:o=(a:Int)+1) :
 Calls Tryz.prog 158 #[(pt p),au o,aC r] w fun e c=>e = .returned (.bool (decide (0<=m.lH a r)))/\Below w.heap.size w c:=by
 subst b; exact XM m p a r w h ha
set_option maxRecDepth 20000 in
set_option maxHeartbeats 2000000 in
theorem X7(m:kr)(B p a D:Nat)(v:EvM)(w:World)(M:sM w B p m)(E:B<=w.heap.size)(ha:a<6)(ho:v.o=(a:Int)+1)(bgg:m.s.gn<=900000)(brr : ∀ i,i<6->m.rn i<=900000)(hTN : ∀ x,m.node x=bD m.t m.tn x)(hD:bD m.t m.tn (aU m.t m.tn D v.node)<0)(hD2:D<=1000) :
 Calls Tryz.prog 125 #[(pt p),.agg (aA 14 (bM v))] w fun e w'=>e = .returned (au (iZ m.core v))/\Below B w w'/\(iZ m.core v=0 -> ∃ m',m'.core=mo m.core v/\sM w' B p m'):=by
 have TY:=M.c;have hLn:=M.n;have hLg:=M.g;have T9:=M.tc;have Ua:=M.t;have hLr:=M.r;have Ub:=M.pB;have DK:=M.tB;have bn:=M.bn;have bg:=M.bg;have bt:=M.bt;have XY:p<w.heap.size:=TY.lt;have Ra:m.tb<w.heap.size:=T9.lt;refine Kent Tryz.func125 188 ?_;refine ay<|oL fun G w1 lY m1 s1 z1 => ?_;have⟨m2,m3,m4,m5,m6,m7⟩:=qD s1.old TY hLn hLg T9 Ua hLr;have b1:=eZ s1.old (Below.refl B w) E;have su:=iI lY (Below.refl B w).size;have⟨mJ,xw⟩:=uw lY TY.lt T9.lt;have ug:=m1.lt;refine av (au 0)<|aD<|Ws<|ay<|av (pt p)<|av (pt G)<|Lv (au v.o) (aL m1.aH 0)<|av (pf G 12)<|Lv (aC v.req) (aL m1.aH 12) ?_;have Nb:BG w1 p m := { c:=m2.aH,an:=m3.arr,ag:=m4.arr,tc:=m5.aH,at2:=m6.arr,ar:=fun i L=>(m7.1 i L).arr,bn:=(by show m.s.nn<=1000000; omega),bg:=bg,bt:=(by show m.tn<=1000000; omega),br:=M.br };by_cases c17:(decide (0<=m.lH a v.req))=true
 ·refine dK (Bf m p a v.o v.req _ Nb ha ho) aG (by rw[c17]) ?_;intro w2 hb1;have b2:=eZ hb1 b1 E;refine aD<|aM<|ay<|av (au 14)<|aD<|Wr<|sR<|aJ (au 14) ?_;have eN:aN v=a:=by unfold aN; omega
  have V:iZ m.core v=14:=by unfold iZ; rw[eN]; exact d_ (h_ c17)
  exact⟨oV V.symm,b2,fun h0=>by rw[V]at h0; cases h0⟩
 rw[T_]at c17;refine dK (Bf m p a v.o v.req _ Nb ha ho) aF (by rw[c17]) ?_;intro w3 hb2;have⟨m15,m16,m17,m18,m19,m20,m21⟩:=jK hb2 m2 m3 m4 m5 m6 m7 m1;have b3:=eZ hb2 b1 E;refine aD<|aK<|Wk<|sN<|Ws ?_;refine jW [0,1,2,4,3,5,6,7] [0,0,0,4,0,4,3,0] [(6,3,[3]),(6,5,[5]),(7,6,[6])] fun qE dP iC => ?_;have⟨m22,m23,m24,mV,nO,ow,oD⟩:=jK dP m15 m16 m17 m18 m19 m20 m21;have b4:=eZ dP b3 E;refine aY (pt p)<|aY (pt p)<|aY (pf p 20)<|aY (pf G 9)<|Rs (pt m.tb) (aL m22.aH 20) ?_;refine Rs (aC v.node) (aL oD.aH 9) ?_;refine gW<|kV (EW m.tb m.ta m.tn m.tc m.t v.node D _ (rH mV nO bt) hD hD2) ?_;rintro e w4 ⟨K,vv,he,hown,sG,hK1,hb3⟩;obtain⟨a1,A,rfl⟩:=hown.val;refine⟨.slice a1 K A,he,?_⟩;clear he;have WZ:K=dJ m.t m.tn v.node:=sS sG hK1 hD hD2;have hKD:K<=1000:=by rw[WZ]; exact Ed _ _
 have⟨nU,oz,lZ,m32,pR,nG,oF⟩:=jK hb3 m22 m23 m24 mV nO ow oD;have b5:=eZ hb3 b4 E;refine Ln<|aY (.slice a1 (K) (A))<|bQ<|Ws<|ay<|av (.slice a1 (K) (A))<|av (au K) ?_;by_cases c27:(K:Int)=0
 ·refine Lv aG (fI c27)<|aD<|aM<|ay<|av (au 9)<|aD<|Wr<|sR<|aJ (au 9) ?_;have eN:aN v=a:=by unfold aN; omega
  have ne1 : ¬ 0<=m.core.lH (aN v) v.req:=by rw[eN]; exact j_ c17
  have V:iZ m.core v=9:=by unfold iZ; rw[b_ ne1]; exact d_ (WZ.symm.trans (by omega))
  exact⟨oV V.symm,b5,fun h0=>by rw[V]at h0; cases h0⟩
 refine Lv aF (gG c27)<|aD<|aK<|Wk<|sN<|Ws<|ay<|av (au 0)<|aD<|Wb<|Wo (fun f F => ∃ k:Nat,∃ Rk:Nat->Nat->Int,k<=K/\cZ (fun x=>bH x v.o v.aQ) (oH m.core v.node) m.R k=(Rk,0)/\f 0=(pt p)/\f 3=(pt G)/\f 5 = .slice a1 (K) (A)/\f 6=au (k:Int)/\aR F p 27 (kU m) 56/\Fx.Own F B 106 5 (.slice m.s.ga (m.s.gn) (m.s.gc)) m.s.gn (Jh m)/\aR F m.tb 1 (fun _ => .slice m.ta m.tn m.tc) 156/\Fx.Own F B 153 2 (.slice m.ta (m.tn) (m.tc)) m.tn (Qe m.t)/\wJ F B 6 m/\aR F G 14 (bM v) 37/\Fx.Own F qE.heap.size 23 1 (.slice a1 (K) (A)) K (rv .u64 (fun i=>aU m.t m.tn i v.node))/\Fx.Own F B 84 56 (.slice m.s.na (m.s.nn) (m.s.nc)) m.s.nn (flat 56 (fun l=>mE (m.id l) (m.par l) (Rk l)))/\Below B w F) (fun f _=>(K-(intOf (f 6)).toNat)) ⟨0,m.R,by omega,rfl,(by rfl),(by rfl),(by rfl),Fx.ic,nU,lZ,m32,pR,nG,oF,hown,oz,b5⟩ ?_;rintro f1 w5 ⟨k,Rk,hk,hRk,Z,O,h3,h4,nV,rQ,qG,qH,tN,mW,mK,mX,b6⟩;refine Ws<|ay<|aX h4<|aX h3<|av (au K) ?_;by_cases c31:(k:Int)<(K:Int)
 ·refine Lv aG (gJ c31)<|aD<|aM<|Wk<|sN<|Ws<|Wb<|Ws ?_;obtain⟨q,hq,eq0,_⟩:=Bd (m:=m) (x:=aU m.t m.tn k v.node) (by rw[hTN]; exact sG k (by omega));have ex1:oH m.core v.node k=q:=by show(ig (fun i=>decide (m.id i=aU m.t m.tn k v.node)) m.s.nn).toNat=q; rw[eq0]; rfl
  refine Wl<|aX Z<|aX h3<|aX h4 ?_;obtain⟨Gg,eq1⟩:=mK.addr (by omega);have qI:Fx.Own w5 qE.heap.size 23 1 (bL Gg K A) K (rv .u64 (fun i=>aU m.t m.tn i v.node)):=mK.fB (L_ (fun q=>Value.slice q K A) eq1);refine Lv (pf Gg k) (cO 1 (hx:=(rfl.trans (L_ (fun q=>Value.slice q (K) (A)) eq1))))<|Lv (aC (aU m.t m.tn k v.node)) (aL qI.aH k) ?_;have qy:Fx.Own w5 qE.heap.size 23 1 (.slice a1 (K) (A)) K (rv .u64 (fun i=>aU m.t m.tn i v.node)):=qI.fB (L_ (fun q=>Value.slice q K A) eq1.symm);have Un:BG w5 p { m with R:=Rk } := { c:=nV.aH,an:=mX.arr,ag:=rQ.arr,tc:=qG.aH,at2:=qH.arr,ar:=fun i L=>(tN.1 i L).arr,bn:=(by show m.s.nn<=1000000; omega),bg:=bg,bt:=(by show m.tn<=1000000; omega),br:=M.br };refine dK ((EU { m with R:=Rk } p (aU m.t m.tn k v.node) _ Un).mono (fun e w2 O=>(⟨O.1.trans (oV eq0),O.2⟩:e = .returned (au (q:Int))/\_))) _ rfl ?_;intro w6 hb4;have⟨oG,rG,uW,tO,tJ,vN,uN,uj⟩:=nD hb4 nV rQ qG qH tN mW mX qy;have b7:=eZ hb4 b6 E;refine av (au q)<|aD<|Ws ?_;obtain⟨Y,Gv⟩:=uN.addr (by omega);have uX:Fx.Own w6 B 84 56 (bL Y m.s.nn m.s.nc) m.s.nn (flat 56 (fun l=>mE (m.id l) (m.par l) (Rk l))):=uN.fB (L_ (fun q=>Value.slice q m.s.nn m.s.nc) Gv);refine qB (T:=82) (T':=82) (a := .tmp 8) (v := .tmp 55) (m:=54) (z:=rv .i64 (fun _=>0)) (y:=rv .i64 ((bH (Rk q) v.o v.aQ).1)) (u := .agg (aA 54 (rv .i64 ((bH (Rk q) v.o v.aQ).1)))) 17 18 (List.replicate 20 (0,2,[],[])) #[(pt p),(pt p),(pt p),(pf p 18),.slice m.s.na (m.s.nn) (m.s.nc),au (q:Int),(pf Y (56*q)),(pf Y (56*q+2)),.agg (aA 54 (rv .i64 (Rk q))),(pt G),au v.o,(pf G 11),au v.aQ,.tuple #[.agg (aA 54 (rv .i64 ((bH (Rk q) v.o v.aQ).1))),au ((bH (Rk q) v.o v.aQ).2)],.tuple #[.agg (aA 54 (rv .i64 ((bH (Rk q) v.o v.aQ).1))),au ((bH (Rk q) v.o v.aQ).2)],.agg (aA 54 (rv .i64 ((bH (Rk q) v.o v.aQ).1))),au ((bH (Rk q) v.o v.aQ).2),undef,undef,au ((bH (Rk q) v.o v.aQ).2)] (by kernel_rfl) (by kernel_rfl) (by kernel_rfl) (by kernel_rfl) (by kernel_rfl) (by kernel_rfl) rfl (by kernel_rfl) rfl rfl (by kernel_rfl) (fun W=>(show ev _ (.tmp 8)=(pt W)from by kernel_rfl)) (fun W=>(show ev _ (.tmp 55) = .agg (aA 54 (rv .i64 ((bH (Rk q) v.o v.aQ).1)))from by kernel_rfl)) (bF _ _) (fun _ _=>rfl) (by kernel_rfl) (fun W => ?_) ?_
  ·refine⟨?_,?_,?_,?_,?_,?_,?_,?_,?_,?_,?_,?_,?_,?_,?_,?_,?_,?_,?_,?_,trivial⟩
   ·exact .inr (.inr (oC (pt p) fun d b=>fG rfl ((bV (by kernel_rfl)).trans Z)))
   ·exact .inr (.inr lV)
   ·exact .inr (.inr lV)
   ·exact .inr (.inr lV)
   ·exact .inr (.inr (oC (.slice m.s.na (m.s.nn) (m.s.nc)) fun d b=>bf (x:=kU m) rfl (show ev _ (.tmp 44)=(pf p 18)from by kernel_rfl) (by kernel_rfl) (oG.aH.below b (by have:=oG.lt; omega)) (i:=18) (by omega) (by omega) rfl))
   ·exact .inr (.inr lV)
   ·exact .inr (.inr (oC (pf Y (56*q)) fun d b=>dR rfl ((show ev _ (.tmp 45) = .slice m.s.na (m.s.nn) (m.s.nc)from by kernel_rfl).trans (L_ (fun q=>Value.slice q (m.s.nn) (m.s.nc)) Gv)) (show ev _ (.tmp 46)=au (q:Int)from by kernel_rfl) Tryz.underlying47 (s:=56) (by kernel_rfl) (by omega) (by omega) (by omega)))
   ·exact .inr (.inr lV)
   ·exact .inr (.inr (oC (.agg (aA 54 (rv .i64 (Rk q)))) fun d b=>dX (x:=flat 56 (fun l=>mE (m.id l) (m.par l) (Rk l))) (y:=rv .i64 (Rk q)) rfl (show ev _ (.tmp 48)=(pf Y (56*q+2))from by kernel_rfl) (by kernel_rfl) (by kernel_rfl) (uX.aH.below b (by have:=uX.lt; omega)) (i:=56*q+2) (by omega) (by omega) (fun X hjq=>(Fx.iT (k:=q) (j:=2+X) (by omega) (by omega)).trans ((fun X _=>Ea _ _ _ X) X hjq))))
   ·exact .inr (.inr (oC (pt G) fun d b=>fV rfl ((bV (by kernel_rfl)).trans O) Tryz.underlying37 rfl (s:=1) (by kernel_rfl) rfl rfl))
   ·exact .inr (.inr (oC (au v.o) fun d b=>bf (x:=bM v) rfl (show ev _ (.tmp 50)=(pt G)from by kernel_rfl) (by kernel_rfl) (vN.aH.below b (by have:=vN.lt; omega)) (i:=0) (by omega) (by omega) rfl))
   ·exact .inr (.inr (oC (pf G 11) fun d b=>fV rfl ((bV (by kernel_rfl)).trans O) Tryz.underlying37 rfl (s:=1) (by kernel_rfl) rfl (by show _+11=_; omega)))
   ·exact .inr (.inr (oC (au v.aQ) fun d b=>bf (x:=bM v) rfl (show ev _ (.tmp 52)=(pf G 11)from by kernel_rfl) (by kernel_rfl) (vN.aH.below b (by have:=vN.lt; omega)) (i:=11) (by omega) (by omega) rfl))
   ·exact .inr (.inr (Fx.IV (v := .tuple #[.agg (aA 54 (rv .i64 ((bH (Rk q) v.o v.aQ).1))),au ((bH (Rk q) v.o v.aQ).2)]) (by kernel_rfl) (by kernel_rfl) (Fx.qbC (fun d b=>rC (args := [.agg (aA 54 (rv .i64 (Rk q))),au v.o,au v.aQ]) rfl (Fx.NY (show ev _ (.tmp 49) = .agg (aA 54 (rv .i64 (Rk q)))from by kernel_rfl) (show ev _ (.tmp 51)=au v.o from by kernel_rfl) (show ev _ (.tmp 53)=au v.aQ from by kernel_rfl)) Tryz.func159 rfl rfl) (fun d b=>(X4 (Rk q) v.o v.aQ _).mono fun e v2 h=>⟨h.1,h.2⟩))))
   ·exact .inr (.inr lV)
   ·exact .inr (.inr lV)
   ·exact .inr (.inr lV)
   ·exact .inl rfl
   ·exact .inr (.inl rfl)
   exact .inr (.inr lV)
  rintro W w7 f2 hf1 qK xC hb5;have EZ:p≠W:=u_ (n_ (oG.lt) qK);have alK:m.tb≠W:=u_ (n_ (uW.lt) qK);have acf:G≠W:=u_ (n_ (vN.lt) qK);have alL:Y≠W:=u_ (n_ (uX.lt) qK);have⟨sw,sD,tK,xD,qJ,uz,nW,tL⟩:=nD hb5 oG rG uW tO tJ vN uj uX;have b8:=eZ hb5 b7 E;have qK:w.heap.size<=W:=m_ b7.size qK;have yK:=xC.lt;have q1:f2 0=(pt p):=by rw[hf1]; exact(bV (by kernel_rfl)).trans Z
  have q2:f2 3=(pt G):=by rw[hf1]; exact(bV (by kernel_rfl)).trans O
  have q3:f2 5 = .slice a1 (K) (A):=by rw[hf1]; exact(bV (by kernel_rfl)).trans h3
  have q4:f2 6=au (k:Int):=by rw[hf1]; exact(bV (by kernel_rfl)).trans h4
  have q15:f2 7=au (q:Int):=by rw[hf1]; kernel_rfl
  have q33:f2 8=(pt W):=by rw[hf1]; kernel_rfl
  have q34:f2 9=au ((bH (Rk q) v.o v.aQ).2):=by rw[hf1]; kernel_rfl
  clear hf1;refine sN<|Ws<|ay<|aX q34 ?_;by_cases c58:((bH (Rk q) v.o v.aQ).2)=0
  ·refine Lv aF (jJ c58)<|aD<|aK<|Wk<|sN ?_;refine jW [0,1,2,3,5,4,6,7,8,9] [0,0,0,0,4,0,4,0,0,3] [(9,4,[4]),(9,6,[6])] fun CZ gL nT => ?_;have⟨m64,xE,xg,vO,wz,sF,uO,uY,vP⟩:=BL gL sw sD tK xD qJ uz nW tL xC;have b9:=eZ gL b8 E;refine bU q1<|aY (pt p)<|aY (pt p)<|aY (pf p 18)<|bU q15<|Rs (.slice m.s.na (m.s.nn) (m.s.nc)) (aL m64.aH 18) ?_;refine Rs (.agg (aA 54 (rv .i64 ((bH (Rk q) v.o v.aQ).1)))) (fC vP.aH 0 (ha:=q33)) ?_;refine Rp (pf Y (56*q)) (fun _=>cO 56 (hx:=(rfl.trans (L_ (fun q=>Value.slice q (m.s.nn) (m.s.nc)) Gv))))<|aY (pf Y (56*q+2))<|gW<|zP uY (56*q+2) fun w8 vQ s9 z2 => ?_;have gY:=gQ s9 uY.Ke;have⟨zG,xk,zm,zn,yJ,xq,wB⟩:=RS gY m64 xE xg vO wz sF uO;have b10:=s9.below b9 (m_ E b9.size) uY.blk.1;have xW:Fx.Own w8 B 84 56 (bL Y m.s.nn m.s.nc) m.s.nn (flat 56 (fun l=>mE (m.id l) (m.par l) (aI Rk q ((bH (Rk q) v.o v.aQ).1) l))):=vQ.congr (fun U S=>(Fx.BK (k:=q) (j:=2) (by omega) (by omega) U S).trans (bJ (fun i L j hj=>Ck i L j hj) U S));refine Ln<|Rn<|bP<|sN<|Wl<|aX q4<|Lv (au ((k:Int)+1)) fF<|av (au ((k:Int)+1))<|Ln ?_;have zT:Fx.Own w8 B 84 56 (.slice m.s.na (m.s.nn) (m.s.nc)) m.s.nn (flat 56 (fun l=>mE (m.id l) (m.par l) (aI Rk q ((bH (Rk q) v.o v.aQ).1) l))):=xW.fB (L_ (fun q=>Value.slice q m.s.nn m.s.nc) Gv.symm);refine iq ⟨k+1,(aI Rk q (bH (Rk q) v.o v.aQ).1),by omega,(Fh hRk ex1 (by first|exact c58|exact Classical.not_not.1 c58)),q1,q2,q3,Fx.ic,zG,xk,zm,zn,yJ,xq,wB,zT,b10⟩ ?_
   show(K-(intOf (au ((k:Int)+1))).toNat)<_;simp only[h4,intOf]; omega
  refine Lv aG (nC c58)<|aD<|aM<|ay<|aX q34<|av (au ((bH (Rk q) v.o v.aQ).2))<|aD<|Wr<|sR<|bK<|sR<|pK<|bK<|sR<|aJ (au ((bH (Rk q) v.o v.aQ).2)) ?_;have eN:aN v=a:=by unfold aN; omega
  have ne1 : ¬ 0<=m.core.lH (aN v) v.req:=by rw[eN]; exact j_ c17
  have ne2 : ¬ dJ m.core.t m.core.tn v.node=0:=fun e=>c27 (by rw[show K=0 from WZ.trans e]; rfl);have ew:nH m.core v=cZ (fun x=>bH x v.o v.aQ) (oH m.core v.node) m.R K:=by unfold nH; rw[show dJ m.core.t m.core.tn v.node=K from WZ.symm]; rfl
  have V:iZ m.core v=(bH (Rk q) v.o v.aQ).2:=by
   unfold iZ; rw[b_ ne1,b_ ne2,ew];have e1:=Hw hRk ex1 c58;rw[Ad (k:=k+1) (by rw[e1]; exact c58) K (by omega)]; exact e1
  exact⟨oV V.symm,b8,fun h0=>M_ (V.symm.trans h0) c58⟩
 refine Lv aF (gK c31)<|aD<|aK<|Wx<|bW<|gP<|bX<|sN<|Ws ?_;have hRK:cZ (fun x=>bH x v.o v.aQ) (oH m.core v.node) m.R K=(Rk,0):=by rw[show K=k by omega]; exact hRk
 refine Wl<|Lv (pt G) (jA O 0)<|Lv (au v.o) (aL mW.aH 0)<|Lv (pf G 12) (jA O 12)<|Lv (aC v.req) (aL mW.aH 12)<|Lv (pf G 9) (jA O 9)<|Lv (aC v.node) (aL mW.aH 9)<|Lv (pf G 11) (jA O 11)<|Lv (au v.aQ) (aL mW.aH 11)<|av (.agg (aA 5 (bC (bC (bC (bC (fun H=>if H<1 then au 0 else if H<3 then aC 0 else if H<4 then au 0 else aC 0) 0 1 (fun _=>au v.o)) 1 1 (fun _=>aC v.req)) 2 1 (fun _=>aC v.node)) 3 1 (fun _=>au v.aQ))))<|rD 5 (fun H=>if H<1 then au 0 else if H<3 then aC 0 else if H<4 then au 0 else aC 0) fun Q w9 yL xX s10 z3 => ?_;have⟨AU,Au,Av,zU,zV,AV,DJ⟩:=jK s10.old nV rQ qG qH tN mW mX;have b11:=eZ s10.old b6 E;have BQ:=iI yL b6.size;have acg:=bY yL nV.lt;have Ji:(.slice m.s.ga (m.s.gn) (m.s.gc):Value).ownBlock≠some Q:=by rw[yL]; exact rQ.kg (A_ _)
 have⟨ach,alM⟩:=uw yL qG.lt mW.lt;have G9:=xX.lt;refine eB xX 0 (h1:=(bE (bE (bE (bE (fun X _=>by show((fun H=>if H<1 then au 0 else if H<3 then aC 0 else if H<4 then au 0 else aC 0:Nat->Value) X).oneCell'=true; simp only[]; repeat (first|rfl|split)) (fun _ _=>rfl)) (fun _ _=>rfl)) (fun _ _=>rfl)) (fun _ _=>rfl))) fun tH Cb s11 z4 => ?_
 have C9:aR tH Q 5 (bC (bC (bC (bC (fun H=>if H<1 then au 0 else if H<3 then aC 0 else if H<4 then au 0 else aC 0) 0 1 (fun _=>au v.o)) 1 1 (fun _=>aC v.req)) 2 1 (fun _=>aC v.node)) 3 1 (fun _=>au v.aQ)) 106:=aP Cb;have jQ:=gQ s11 xX.ty;have zZ:=kR jQ AU;have Gd:=Au.cB s11 Ji;have⟨Ec,Gf,Gr,wK,wM⟩:=rE jQ Av zU zV AV DJ;have b12:=s11.below b11 (m_ E b11.size) (by omega);refine aD<|Ws ?_;have uD:aR tH Q 5 (ji (pU v)) 106:=C9.congr (fun j hj=>by rcases j with _|_|_|_|_|j <;> first|rfl|omega)
 refine Wl<|aX Z<|av (pt p)<|av (pt p)<|av (pf p 19)<|Lv (.slice m.s.ga (m.s.gn) (m.s.gc)) (aL zZ.aH 19)<|av (au m.s.gn)<|av (au m.s.gn)<|aD<|Ws ?_;refine zO [0,1,2,3,4,5,6,7,8,9,10,11,12] [0,0,0,0,0,1,4,2,2,0,0,0,3] (iW [106]) vM Fx.iW.trans (fP := [(12,5,[5]),(7,6,[6]),(8,6,[7,6]),(12,6,[6]),(8,7,[7]),(9,7,[7]),(10,7,[7]),(11,7,[7]),(12,7,[7]),(9,8,[8]),(10,8,[8]),(11,8,[8]),(12,8,[8])]) (by kernel_rfl) (by kernel_rfl) (by kernel_rfl) (by kernel_rfl) (by kernel_rfl) fun Rb lW AP => ?_;have⟨qb,pG,qM,qc,rJ,sQ,vB,rM⟩:=nD lW zZ Gd Ec Gf Gr wK wM uD;have b13:=eZ lW b12 E;refine bU Z<|bU Z<|aY (pt p)<|aY (pt p)<|aY (pf p 19)<|Rd (v := .slice m.s.ga (m.s.gn) (m.s.gc)) (by rfl) (by rfl) (vM _) (fun d b=>bf (x:=kU m) rfl rfl (by kernel_rfl) (qb.kL b (by decide)).aH (i:=19) (by omega) (by omega) rfl) ?_;refine Rs (.agg (aA 5 (ji (pU v)))) (fC rM.aH 0) ?_;refine zi<|xO (vs := [(0,.agg (aA 5 (ji (pU v))))]) (s:=5) (zc:=fun H=>if H<1 then au 0 else if H<3 then aC 0 else if H<4 then au 0 else aC 0) (y:=bC (fun j=>(fun H=>if H<1 then au 0 else if H<3 then aC 0 else if H<4 then au 0 else aC 0) (j % 5)) (0*5) 5 (ji (pU v))) (by rfl) rfl rfl Tryz.underlying48 (by kernel_rfl) (by rfl) (by rfl) (by kernel_rfl) (by rw[aZ (off:=0*5) (s:=5) (y:=ji (pU v)) rfl (bF _ _) (by rfl)]; rfl) rfl fun g4 Gc JU uE s13 z5 => ?_;have⟨zq,vE,zu,Cc,xG,uF,qN,yc⟩:=nD s13.old qb pG qM qc rJ sQ vB rM;have b14:=eZ s13.old b13 E;have Qw:=iI JU b13.size;have X8:=bY JU qb.lt;have X9:(.slice m.s.ga (m.s.gn) (m.s.gc):Value).ownBlock≠some g4:=by rw[JU]; exact pG.kg (A_ _)
 have⟨ajo,Ya,ajp⟩:=EF JU qM.lt sQ.lt rM.lt;have OI:=uE.lt;refine Ln ⟨Fx.iW.of_below s13.old,?_⟩;refine zi<|zf (B:=B) (s:=5) (bytes:=40) (k:=m.s.gn) (m:=1) (v := .slice m.s.ga (m.s.gn) (m.s.gc)) (x:=Jh m) (by rfl) rfl rfl rfl Tryz.underlying48 (by kernel_rfl) (by kernel_rfl) rfl rfl vE uE.aH (yO (uo _)) (by omega) (by omega) (by omega) (m_ E b14.size) fun C A BF ho1 hg1 wu hlt1 => ?_;have qF:=zh hg1 vE;have⟨uG,Ce,Jj,E5,A9,E8⟩:=RQ qF zq zu Cc xG uF qN;have Gs:=yc.grown hg1 Ji;have ajq:Q≠C:=fun e=>wu.elim (fun e2=>Ji (by rw[e]; exact e2)) (fun e2=>by have:=yc.lt; omega);have yg:Fx.Own BF B 106 5 (bL C (m.s.gn+1) A) (m.s.gn+1) (flat 5 (Fx.Kg (fun l=>ji (m.g l)) (ji (pU v)) m.s.gn m.s.gn)):=(ho1.congr (fun j hj=>(Fx.xP j hj).trans (bJ (fun i L q _=>Fx.xQ i L q) j hj)));have b15:Below B w BF:=ze b14 hg1 (m_ E b14.size) (fun q hq=>(vE.ge hq).1);refine Ln ⟨qF,?_⟩;refine aY (pt p)<|aY (pt p)<|aY (pf p 19)<|gW<|jd uG 19 (bL C (m.s.gn+1) A) fun Gq Cg BD z6 => ?_;have zS:=gQ BD uG.ty;have⟨Aa,Jq,KW,E9,Fa,Gt,Gu⟩:=RS zS Ce Jj E5 A9 E8 Gs yg;have b16:=BD.below b15 (m_ E b15.size) (by omega);refine Ln<|bQ<|CY (fun f F => ∃ k:Nat,k<=m.s.gn/\k=down (fun i=>Da v (m.g i)) m.s.gn/\f 0=(pt p)/\f 3=(pt G)/\f 10=(pt Q)/\f 11=au (k:Int)/\aR F m.tb 1 (fun _ => .slice m.ta m.tn m.tc) 156/\Fx.Own F B 153 2 (.slice m.ta (m.tn) (m.tc)) m.tn (Qe m.t)/\wJ F B 6 m/\aR F G 14 (bM v) 37/\Fx.Own F B 84 56 (.slice m.s.na (m.s.nn) (m.s.nc)) m.s.nn (flat 56 (fun l=>mE (m.id l) (m.par l) (Rk l)))/\aR F Q 5 (ji (pU v)) 106/\aR F p 27 (dA (kU m) 19 (bL C (m.s.gn+1) A)) 56/\Fx.Own F B 106 5 (bL C (m.s.gn+1) A) (m.s.gn+1) (flat 5 (Fx.Kg (fun l=>ji (m.g l)) (ji (pU v)) m.s.gn k))/\Below B w F) ?_ ?_
 ·refine Wb<|Wo (fun f F => ∃ k:Nat,k<=m.s.gn/\(∀ i,k<=i->i<m.s.gn->Da v (m.g i)=true)/\f 0=(pt p)/\f 3=(pt G)/\f 10=(pt Q)/\f 11=au (k:Int)/\aR F m.tb 1 (fun _ => .slice m.ta m.tn m.tc) 156/\Fx.Own F B 153 2 (.slice m.ta (m.tn) (m.tc)) m.tn (Qe m.t)/\wJ F B 6 m/\aR F G 14 (bM v) 37/\Fx.Own F B 84 56 (.slice m.s.na (m.s.nn) (m.s.nc)) m.s.nn (flat 56 (fun l=>mE (m.id l) (m.par l) (Rk l)))/\aR F Q 5 (ji (pU v)) 106/\aR F p 27 (dA (kU m) 19 (bL C (m.s.gn+1) A)) 56/\Fx.Own F B 106 5 (bL C (m.s.gn+1) A) (m.s.gn+1) (flat 5 (Fx.Kg (fun l=>ji (m.g l)) (ji (pU v)) m.s.gn k))/\Below B w F) (fun f _=>(intOf (f 11)).toNat) ⟨m.s.gn,by omega,(fun i Z O=>M_ Z (by omega)),Z,O,(by rfl),Fx.ic,Aa,Jq,KW,E9,Fa,Gt,Cg,Gu,b16⟩ ?_;rintro f3 I ⟨k,hk,hgt,P,h6,h7,J,Ch,Fb,Ci,Fu,Fe,Ac,Cj,Ba,b17⟩;refine Ws<|Ws ?_;refine uR<|dO J ?_;by_cases c97:0<(k:Int)
  ·obtain⟨j,ej⟩ : ∃ j,k=j+1:=⟨k-1,by omega⟩;refine Qv aG (fun d b=>mG c97)<|aW aG<|dO P<|aW (pt p)<|aW (pt p)<|aW (pf p 19)<|Qv (bL C (m.s.gn+1) A) (fun d b=>aL (Cj.aH.dr b) 19 (Fx.lQ (by omega)))<|dO J<|Qv (au j) (fun d b=>gF)<|Qv (pf C (5*j)) (fun d b=>cO 5)<|aW (pf C (5*j))<|Qv (au ((m.g j) 0)) (fun d b=>aL (Ba.aH.dr b) (5*j) (Fx.fq (k:=j) (j:=0) (by omega) (by omega) ((congrFun (Fx.zA (by omega) (by omega)) 0).trans rfl)))<|Qv (pt Q) (fun d b=>jA h7 0)<|Qv (au v.o) (fun d b=>aL (Ac.aH.dr b) 0) ?_;by_cases Uo:v.o<((m.g j) 0)
   ·refine Qv aG (fun d b=>mG Uo)<|aW aG<|aS<|aS<|aS<|aS<|aS<|aS<|aS<|aS<|aS<|aS<|aS<|aS<|aS<|aS<|aS<|aS<|aS<|aS<|aS<|aS<|aS<|aS<|aS ?_;refine aS<|aS<|aS<|aS<|aS<|aW aG<|aW aG<|Qn ?_;rintro _ ⟨N,rfl⟩;obtain⟨BX,pF⟩ : ∃ d,d=World.drewN I N:=⟨_,rfl⟩;rw[<- pF];have s15:Stp I.heap.size I BX:=(by rw[pF]; exact Sb (je I N));have⟨Jk,Uc,Uq,Ud,Ue,acA,Uf,aci⟩:=nD s15.old Ch Fb Ci Fu Fe Ac Cj Ba;have b18:=eZ s15.old b17 E;clear pF;refine sN<|aM<|Wk<|sN<|Wb<|Ws ?_;refine jW [0,1,2,3,5,6,7,8,9,11,12,4,10,13,14,15,16] [0,0,0,0,4,0,0,0,0,0,4,0,0,0,4,0,3] [(16,4,[4]),(16,10,[10]),(16,14,[14])] fun wt4 qV G8 => ?_;have⟨Ug,Qi,Uh,Ui,acj,acn,acB,Qj⟩:=nD qV Jk Uc Uq Ud Ue acA Uf aci;have b19:=eZ qV b18 E;refine bU P<|aY (pt p)<|aY (pt p)<|aY (pf p 19)<|bU J<|bU P<|aY (pt p)<|aY (pt p)<|aY (pf p 19)<|bU J<|Rp (au j) (fun _=>gF)<|Rs (bL C (m.s.gn+1) A) (aL acB.aH 19 (Fx.lQ (by omega))) ?_;refine Rs (bL C (m.s.gn+1) A) (aL acB.aH 19 (Fx.lQ (by omega))) ?_;refine Rp (pf C (5*j)) (fun _=>cO 5)<|Rs (.agg (aA 5 (ji (m.g j)))) (fC Qj.aH (5*j) (fun X hjq=>(Fx.iT (k:=j) (by omega) hjq).trans (congrFun (Fx.zA (by omega) (by omega)) X))) ?_;refine Rp (pf C (5*k)) (fun _=>cO 5)<|gW<|zP Qj (5*k) (h1:=(fun j _=>uo _ j)) fun Ms aco JV z7 => ?_;have zk:=gQ JV Qj.Ke;have⟨agC,acp,acr,acs,alN⟩:=rE zk Ug Qi Uh Ui acj;have alO:=acn.cB JV (by omega);have alP:=kR zk acB;have b20:=JV.below b19 (m_ E b19.size) Qj.blk.1;have alQ:Fx.Own Ms B 106 5 (bL C (m.s.gn+1) A) (m.s.gn+1) (flat 5 (Fx.Kg (fun l=>ji (m.g l)) (ji (pU v)) m.s.gn j)):=aco.congr (fun U S=>(Fx.uQ (k:=k) (by omega) U S).trans (bJ (fun i L q _=>Fx.yF ej (by omega) i L q) U S));refine Ln<|bQ<|Wl<|aX J<|Lv (au j) gF<|av (au j)<|Ln<|bP<|iq ⟨j,by omega,(K6 ej hgt (by unfold Da; rw[f_ Uo]; rfl)),P,h6,h7,Fx.ic,agC,acp,acr,acs,alN,alO,alP,alQ,b20⟩ ?_;show(intOf (au j)).toNat<_;simp only[J,intOf]; omega
   refine Qv aF (fun d b=>mH Uo)<|aW aF<|dO P<|aW (pt p)<|aW (pt p)<|aW (pf p 19)<|Qv (bL C (m.s.gn+1) A) (fun d b=>aL (Cj.aH.dr b) 19 (Fx.lQ (by omega)))<|dO J<|Qv (au j) (fun d b=>gF)<|Qv (pf C (5*j)) (fun d b=>cO 5)<|aW (pf C (5*j))<|Qv (au ((m.g j) 0)) (fun d b=>aL (Ba.aH.dr b) (5*j) (Fx.fq (k:=j) (j:=0) (by omega) (by omega) ((congrFun (Fx.zA (by omega) (by omega)) 0).trans rfl)))<|Qv (pt Q) (fun d b=>jA h7 0)<|Qv (au v.o) (fun d b=>aL (Ac.aH.dr b) 0) ?_;by_cases Yb:((m.g j) 0)=v.o
   ·refine Qv aG (fun d b=>fI Yb)<|aW aG<|dO P<|aW (pt p)<|aW (pt p)<|aW (pf p 19)<|Qv (bL C (m.s.gn+1) A) (fun d b=>aL (Cj.aH.dr b) 19 (Fx.lQ (by omega)))<|dO J<|Qv (au j) (fun d b=>gF)<|Qv (pf C (5*j)) (fun d b=>cO 5)<|aW (pf C (5*j+1))<|Qv (aC ((m.g j) 1)) (fun d b=>aL (Ba.aH.dr b) (5*j+1) (Fx.fq (k:=j) (j:=1) (by omega) (by omega) ((congrFun (Fx.zA (by omega) (by omega)) 1).trans rfl)))<|Qv (pf Q 1) (fun d b=>jA h7 1)<|Qv (aC v.req) (fun d b=>aL (Ac.aH.dr b) 1) ?_;by_cases c139:v.req<((m.g j) 1)
    ·refine Qv aG (fun d b=>mG c139)<|aW aG<|aW aG<|aW aG<|Qn ?_;rintro _ ⟨N,rfl⟩;obtain⟨wq2,sP⟩ : ∃ d,d=World.drewN I N:=⟨_,rfl⟩;rw[<- sP];have Mv:Stp I.heap.size I wq2:=(by rw[sP]; exact Sb (je I N));have⟨alR,alS,alT,alU,alV,alW,alX,alY⟩:=nD Mv.old Ch Fb Ci Fu Fe Ac Cj Ba;have PY:=eZ Mv.old b17 E;clear sP;refine sN<|aM<|Wk<|sN<|Wb<|Ws ?_;refine jW [0,1,2,3,5,6,7,8,9,11,12,4,10,13,14,15,16] [0,0,0,0,4,0,0,0,0,0,4,0,0,0,4,0,3] [(16,4,[4]),(16,10,[10]),(16,14,[14])] fun wt5 zF SA => ?_;have⟨alZ,ama,amb,amc,amd,ame,acC,Yc⟩:=nD zF alR alS alT alU alV alW alX alY;have Om:=eZ zF PY E;refine bU P<|aY (pt p)<|aY (pt p)<|aY (pf p 19)<|bU J<|bU P<|aY (pt p)<|aY (pt p)<|aY (pf p 19)<|bU J<|Rp (au j) (fun _=>gF)<|Rs (bL C (m.s.gn+1) A) (aL acC.aH 19 (Fx.lQ (by omega))) ?_;refine Rs (bL C (m.s.gn+1) A) (aL acC.aH 19 (Fx.lQ (by omega))) ?_;refine Rp (pf C (5*j)) (fun _=>cO 5)<|Rs (.agg (aA 5 (ji (m.g j)))) (fC Yc.aH (5*j) (fun X hjq=>(Fx.iT (k:=j) (by omega) hjq).trans (congrFun (Fx.zA (by omega) (by omega)) X))) ?_;refine Rp (pf C (5*k)) (fun _=>cO 5)<|gW<|zP Yc (5*k) (h1:=(fun j _=>uo _ j)) fun w16 amf s20 z8 => ?_;have zl:=gQ s20 Yc.Ke;have⟨amg,amh,ami,amj,amk⟩:=rE zl alZ ama amb amc amd;have aml:=ame.cB s20 (by omega);have amm:=kR zl acC;have Xx:=s20.below Om (m_ E Om.size) Yc.blk.1;have amn:Fx.Own w16 B 106 5 (bL C (m.s.gn+1) A) (m.s.gn+1) (flat 5 (Fx.Kg (fun l=>ji (m.g l)) (ji (pU v)) m.s.gn j)):=amf.congr (fun U S=>(Fx.uQ (k:=k) (by omega) U S).trans (bJ (fun i L q _=>Fx.yF ej (by omega) i L q) U S));refine Ln<|bQ<|Wl<|aX J<|Lv (au j) gF<|av (au j)<|Ln<|bP<|iq ⟨j,by omega,(K6 ej hgt (by unfold Da; rw[f_ Yb,f_ c139]; cases decide (v.o<m.g j 0) <;> rfl)),P,h6,h7,Fx.ic,amg,amh,ami,amj,amk,aml,amm,amn,Xx⟩ ?_
     show(intOf (au j)).toNat<_;simp only[J,intOf]; omega
    refine Qv aF (fun d b=>mH c139)<|aW aF<|aW aF<|aW aF<|Qn ?_;rintro _ ⟨N,rfl⟩;obtain⟨WY,Af⟩ : ∃ d,d=World.drewN I N:=⟨_,rfl⟩;rw[<- Af];have s21:Stp I.heap.size I WY:=(by rw[Af]; exact Sb (je I N));have⟨amo,amq,amr,ams,amu,amv,amw,amx⟩:=nD s21.old Ch Fb Ci Fu Fe Ac Cj Ba;have Xy:=eZ s21.old b17 E;clear Af;refine sN<|aK<|Wx<|bW<|gP<|bX ?_;exact wX ⟨k,hk,(Fx.pO hk hgt (.inr (fun j2 e=>by rw[show j2=j by omega]; unfold Da; rw[g_ Uo,g_ c139,I_]; rfl))),P,h6,h7,(J.trans Fx.ic),amo,amq,amr,ams,amu,amv,amw,amx,Xy⟩
   refine Qv aF (fun d b=>gG Yb)<|aW aF<|aS<|aS<|aS<|aS<|aS<|aS<|aS<|aS<|aS<|aS<|aS<|aS<|aS<|aW aF<|aW aF<|aW aF<|Qn ?_;rintro _ ⟨N,rfl⟩;obtain⟨wq4,Fv⟩ : ∃ d,d=World.drewN I N:=⟨_,rfl⟩;rw[<- Fv];have s22:Stp I.heap.size I wq4:=(by rw[Fv]; exact Sb (je I N));have⟨amy,amA,amB,amC,amD,amE,amF,amG⟩:=nD s22.old Ch Fb Ci Fu Fe Ac Cj Ba;have b25:=eZ s22.old b17 E;clear Fv;refine sN<|aK<|Wx<|bW<|gP<|bX ?_;exact wX ⟨k,hk,(Fx.pO hk hgt (.inr (fun j2 e=>by rw[show j2=j by omega]; unfold Da; rw[g_ Uo,g_ Yb]; rfl))),P,h6,h7,(J.trans Fx.ic),amy,amA,amB,amC,amD,amE,amF,amG,b25⟩
  refine Qv aF (fun d b=>mH c97)<|aW aF<|aS<|aS<|aS<|aS<|aS<|aS<|aS<|aS<|aS<|aS<|aS<|aS<|aS<|aS<|aS<|aS<|aS<|aS<|aS<|aS<|aS<|aS<|aS ?_;refine aS<|aS<|aS<|aS<|aS<|aS<|aS<|aS<|aS<|aS<|aS<|aS<|aS<|aS<|aS<|aS<|aS<|aS<|aS<|aS<|aW aF<|Qn ?_;rintro _ ⟨N,rfl⟩;obtain⟨wq5,Nc⟩ : ∃ d,d=World.drewN I N:=⟨_,rfl⟩;rw[<- Nc];have s23:Stp I.heap.size I wq5:=by rw[Nc]; exact Sb (je I N)
  have⟨amH,amI,amJ,amK,amL,amM,amN,amO⟩:=nD s23.old Ch Fb Ci Fu Fe Ac Cj Ba;have b26:=eZ s23.old b17 E;clear Nc;refine sN<|aK<|Wx<|bW<|gP<|bX ?_;exact wX ⟨k,hk,(Fx.pO hk hgt (.inl (by omega))),P,h6,h7,(J.trans Fx.ic),amH,amI,amJ,amK,amL,amM,amN,amO,b26⟩
 rintro f4 WU ⟨k,hk,ek,h9,h10,h11,h12,amP,amQ,amR,amS,amT,amU,amV,amW,b27⟩;refine Ws ?_;refine jW [0,1,2,3,5,4,6,7,8] [0,0,0,0,4,0,4,0,3] [(8,4,[4]),(8,6,[6])] fun wt6 KC aga => ?_;have⟨amX,amY,amZ,ana,anb,agM,agN,acD⟩:=nD KC amP amQ amR amS amT amU amV amW;have b28:=eZ KC b27 E;refine bU h9<|aY (pt p)<|aY (pt p)<|aY (pf p 19)<|bU h12<|Rs (bL C (m.s.gn+1) A) (aL agN.aH 19 (Fx.lQ (by omega))) ?_;refine Rs (.agg (aA 5 (ji (pU v)))) (fC agM.aH 0 (ha:=h11)) ?_;refine Rp (pf C (5*k)) (fun _=>cO 5)<|gW<|zP acD (5*k) (h1:=(fun j _=>uo _ j)) fun WV anc ZV z9 => ?_;have A8:=gQ ZV acD.Ke;have⟨ane,anf,agO,ang,anh⟩:=rE A8 amX amY amZ ana anb;have ani:=agM.cB ZV (by omega);have anj:=kR A8 agN;have b29:=ZV.below b28 (m_ E b28.size) acD.blk.1;have ank:Fx.Own WV B 106 5 (bL C (m.s.gn+1) A) (m.s.gn+1) (flat 5 (Fx.IZ (fun l=>ji (m.g l)) k (ji (pU v)))):=anc.congr (fun U S=>(Fx.uQ (k:=k) (by omega) U S).trans (bJ (fun i L q _=>Fx.tY (by omega) i L q) U S));refine Ln<|bQ<|Ws ?_;have anl:Fx.Own WV B 23 1 (.slice (m.ra a) (m.rn a) (m.rc a)) (m.rn a) (rv .u64 (m.rq a)):=agO.1 a ha;have bra:=M.br a ha;refine zO [0,1,4,5,8,9,12,16,17,2,3,6,7,10,11,13,14,15,18,19] [0,0,1,0,0,0,1,0,0,0,0,1,0,4,2,2,0,0,0,3] (iW [23]) vM Fx.iW.trans (fP := [(19,2,[2]),(19,6,[6]),(19,11,[11]),(14,13,[13]),(15,13,[14,13]),(19,13,[13]),(15,14,[14]),(18,14,[14]),(19,14,[14]),(18,15,[15]),(19,15,[15])]) (by kernel_rfl) (by kernel_rfl) (by kernel_rfl) (by kernel_rfl) (by kernel_rfl) fun wt7 KD agb => ?_;have⟨agP,anm,ano,Yd,anp,anq,acE,agQ,agR⟩:=BL KD ane anf agO ang anh ani anj ank anl;have b30:=eZ KD b29 E;refine bU h9<|Rp (pt G) (fun _=>jA h10 0)<|bU h9<|Rp (pt G) (fun _=>jA h10 0)<|aY (pt p)<|aY (pf p 21)<|Rp (pf G 12) (fun _=>jA h10 12)<|aY (pt p)<|aY (pf p 21)<|Rd (v:=au v.o) (by rfl) (by rfl) (vM _) (fun d b=>bf (x:=bM v) rfl rfl (by kernel_rfl) (Yd.kL b (by decide)).aH (i:=0) (by omega) (by omega) rfl) ?_;refine Rp (au a) (fun _=>gF)<|Rd (v:=au v.o) (by rfl) (by rfl) (vM _) (fun d b=>bf (x:=bM v) rfl rfl (by kernel_rfl) (Yd.kL b (by decide)).aH (i:=0) (by omega) (by omega) rfl) ?_;refine Rp (au a) (fun _=>gF)<|Rp (pf p (a+21)) (fun _=>jI 6 1)<|Rd (v := .slice (m.ra a) (m.rn a) (m.rc a)) (by rfl) (by rfl) (vM _) (fun d b=>bf (x:=dA (kU m) 19 (bL C (m.s.gn+1) A)) rfl rfl (by kernel_rfl) (acE.kL b (by decide)).aH (i:=a+21) (by omega) (by omega) (Fx.Ay (by omega) (wI _ (by omega)))) ?_;refine Rs (aC v.req) (aL Yd.aH 12) ?_;refine zi<|xO (vs := [(0,aC v.req)]) (s:=1) (zc:=rv .u64 (fun _=>0)) (y:=bC (fun j=>(rv .u64 (fun _=>0)) (j % 1)) (0*1) 1 (fun _=>aC v.req)) (by rfl) rfl rfl Tryz.underlying53 (by kernel_rfl) (by rfl) (by rfl) (by kernel_rfl) (by rw[aZ (off:=0*1) (s:=1) (y:=fun _=>aC v.req) rfl (cells_one (by rfl)) (by rfl)]; rfl) rfl fun g6 w19 eg6 agS s27 z10 => ?_;have⟨anr,ant,anu,anv,anw,anx,acG⟩:=jK s27.old agP anm ano anp acE agQ agR;have b31:=eZ s27.old b30 E;have lg6:=iI eg6 b30.size;have⟨ajr,ajs,ajt,aju,ajv⟩:=zQ eg6 agP.lt Yd.lt anq.lt acE.lt agQ.lt;have ajw:(.slice (m.ra a) (m.rn a) (m.rc a):Value).ownBlock≠some g6:=by rw[eg6]; exact agR.kg (A_ _)
 have tg6:=agS.lt;refine Ln ⟨Fx.iW.of_below s27.old,?_⟩;refine zi<|zf (B:=B) (s:=1) (bytes:=8) (k:=(m.rn a)) (m:=1) (v := .slice (m.ra a) (m.rn a) (m.rc a)) (x:=rv .u64 (m.rq a)) (by rfl) rfl rfl rfl Tryz.underlying53 (by kernel_rfl) (by kernel_rfl) rfl rfl acG agS.aH (yO (fun _=>rfl)) (by omega) (by omega) (by omega) (m_ E b31.size) fun g7 cap2 WW ho2 hg2 M4 hlt2 => ?_;have EY:=zh hg2 acG;have⟨anB,anC,anD,agT,anE⟩:=rE EY anr ant anv anw anx;have anF:Fx.Own WW B 23 1 (.slice (some ⟨g7,0,none⟩) ((m.rn a)+1) cap2) ((m.rn a)+1) (rv .u64 (aI (m.rq a) (m.rn a) v.req)):=(ho2.congr (fun j hj=>OH j hj));have b32:Below B w WW:=ze b31 hg2 (m_ E b31.size) (fun q hq=>(acG.ge hq).1);have anG:wJ WW B 6 { m with ra:=aI m.ra a (some ⟨g7,0,none⟩),rn:=aI m.rn a (m.rn a+1),rc:=aI m.rc a cap2,rq:=aI m.rq a (aI (m.rq a) (m.rn a) v.req) }:=wJ.app anu ha rfl rfl rfl rfl anF hg2 M4;refine Ln ⟨EY,?_⟩;refine Rp (pf p (a+21)) (fun _=>jI 6 1)<|gW<|jd agT (a+21) (.slice (some ⟨g7,0,none⟩) ((m.rn a)+1) (cap2)) fun w21 anH s28 z11 => ?_;have acH:=gQ s28 agT.ty;have⟨anI,anJ,anK,anL,anM⟩:=rE acH anB anC anD anE anG;have b33:=s28.below b32 (m_ E b32.size) (by omega);refine Ln<|bQ<|ay<|av (au 0)<|aD<|Wr<|aJ (au 0) ?_;have eN:aN v=a:=by unfold aN; omega
 have ne1 : ¬ 0<=m.core.lH (aN v) v.req:=by rw[eN]; exact j_ c17
 have ne2 : ¬ dJ m.core.t m.core.tn v.node=0:=fun e=>c27 (by rw[show K=0 from WZ.trans e]; rfl);have ew:nH m.core v=cZ (fun x=>bH x v.o v.aQ) (oH m.core v.node) m.R K:=by unfold nH; rw[show dJ m.core.t m.core.tn v.node=K from WZ.symm]; rfl
 have V:iZ m.core v=0:=by unfold iZ; rw[b_ ne1,b_ ne2,ew,hRK]
 have eW:nH m.core v=(Rk,0):=ew.trans hRK;have anN:Fx.Own w21 B 106 5 (bL C (m.s.gn+1) A) (m.s.gn+1) (flat 5 fun l=>ji (cu m.g k (pU v) l)):=by rw[<- X3]; exact anL
 refine⟨oV V.symm,b33,fun _=>⟨{ m with s := { m.s with ga:=some ⟨C,0,none⟩,gn:=m.s.gn+1,gc:=A },R:=Rk,g:=cu m.g k (pU v),ra:=aI m.ra a (some ⟨g7,0,none⟩),rn:=aI m.rn a (m.rn a+1),rc:=aI m.rc a cap2,rq:=aI m.rq a (aI (m.rq a) (m.rn a) v.req) },?_,?_⟩⟩
 ·unfold mo qO; rw[eW,eN]; rw[show down (fun i=>Da v (m.core.g i)) m.core.gn=k from ek.symm]; rfl
 exact { c:=anH.to ((L_ (fun z=>dA z (a+21) _) (M7 m _ _ _)).trans (KY _ rfl _ _ _)),n:=anK,g:=anN,tc:=anI,t:=anJ,r:=anM,pB:=Ub,tB:=DK,bn:=bn,bg:=(by show m.s.gn+1<=1000000; omega),bt:=bt,br:=(fun i L=>by show aI m.rn a (m.rn a+1) i<=1000000; have:=brr i L; have:=brr a ha; unfold aI; split <;> omega) }
namespace Rt
def yh(L:fA)(v:EvM):Nat:=(L.grant v.o v.of).toNat
def mD(L:fA)(v:EvM):(Nat->Nat->Int) × Int:=cZ (fun x=>bI x v.o (L.g (yh L v) 3)) (oH L (L.g (yh L v) 2)) L.R (dJ L.t L.tn (L.g (yh L v) 2))
def iQ(L:fA)(v:EvM):Int:=if 0<=L.lH (aN v) v.req then 14 else if L.grant v.o v.of<0\/L.g (yh L v) 4≠0 then 12 else(mD L v).2
def kH(L:fA)(v:EvM):fA:=qO { L with R:=(mD L v).1,g:=aI L.g (yh L v) (aI (L.g (yh L v)) 4 v.req) } (aN v) v.req
theorem Ur{m:kr}{o r:Int}(h : ¬ m.grant o r<0) : ∃ q:Nat,q<m.s.gn/\m.grant o r=(q:Int)/\m.g q 0=o/\m.g q 1=r:=by
 rcases jO (fun i=>decide (m.g i 0=o)&&decide (m.g i 1=r)) m.s.gn with ⟨q,b,e,a⟩|⟨e,_⟩
 ·rw[S_]at a;exact⟨q,b,e,h_ a.1,h_ a.2⟩
 unfold kr.grant at h; omega
theorem Qx{n q:Nat}{g:Nat->Nat->Int}{r:Int} : ∀ i,i<n -> ∀ j,j<5->Fx.rA (fun a=>ji (g a)) q (dA (ji (g q)) 4 (aC r)) i j=ji (aI g q (aI (g q) 4 r) i) j:=fun i _ j b=>by
 unfold Fx.rA;by_cases h:i=q
 ·subst h;rw[d_ rfl];unfold aI dA ji;rw[d_ rfl]
  rcases j with _|_|_|_|_|j <;> first|rfl|omega
 ·rw[b_ h]; unfold aI; rw[b_ h]
end Rt
set_option maxRecDepth 20000 in
set_option maxHeartbeats 2000000 in
theorem Ye(m:kr)(B p a:Nat)(v:EvM)(w:World)(F:sM w B p m)(A:B<=w.heap.size)(ha:a<6)(ho:v.o=(a:Int)+1)(bgg:m.s.gn<=900000)(brr : ∀ i,i<6->m.rn i<=900000)(hTN : ∀ x,m.node x=bD m.t m.tn x)(hDx : ∀ x,∃ D,D<=1000/\bD m.t m.tn (aU m.t m.tn D x)<0) :
 Calls Tryz.prog 126 #[(pt p),.agg (aA 14 (bM v))] w fun e w'=>e = .returned (au (iQ m.core v))/\Below B w w'/\(iQ m.core v=0 -> ∃ m',m'.core=kH m.core v/\sM w' B p m'):=by
 have TY:=F.c;have hLn:=F.n;have hLg:=F.g;have T9:=F.tc;have Ua:=F.t;have hLr:=F.r;have Ub:=F.pB;have DK:=F.tB;have bn:=F.bn;have bg:=F.bg;have bt:=F.bt;have XY:p<w.heap.size:=TY.lt;have Ra:m.tb<w.heap.size:=T9.lt;refine Kent Tryz.func126 128 ?_;refine ay<|oL fun E w1 lY m1 s1 z1 => ?_;have⟨m2,m3,m4,m5,m6,m7⟩:=qD s1.old TY hLn hLg T9 Ua hLr;have b1:=eZ s1.old (Below.refl B w) A;have su:=iI lY (Below.refl B w).size;have⟨mJ,xw⟩:=uw lY TY.lt T9.lt;have ug:=m1.lt;refine av (au 0)<|aD<|Ws<|ay<|av (pt p)<|av (pt E)<|Lv (au v.o) (aL m1.aH 0)<|av (pf E 12)<|Lv (aC v.req) (aL m1.aH 12) ?_;have Nb:BG w1 p m := { c:=m2.aH,an:=m3.arr,ag:=m4.arr,tc:=m5.aH,at2:=m6.arr,ar:=fun i J=>(m7.1 i J).arr,bn:=(by show m.s.nn<=1000000; omega),bg:=bg,bt:=(by show m.tn<=1000000; omega),br:=F.br };by_cases S:(decide (0<=m.lH a v.req))=true
 ·refine dK (Bf m p a v.o v.req _ Nb ha ho) aG (by rw[S]) ?_;intro w2 hb1;have b2:=eZ hb1 b1 A;refine aD<|aM<|ay<|av (au 14)<|aD<|Wr<|sR<|aJ (au 14) ?_;have L:aN v=a:=by unfold aN; omega
  have H:iQ m.core v=14:=by unfold iQ; rw[L]; exact d_ (h_ S)
  exact⟨oV H.symm,b2,fun M=>by rw[H]at M; cases M⟩
 rw[T_]at S;refine dK (Bf m p a v.o v.req _ Nb ha ho) aF (by rw[S]) ?_;intro w3 hb2;have⟨m15,m16,m17,m18,m19,m20,m21⟩:=jK hb2 m2 m3 m4 m5 m6 m7 m1;have b3:=eZ hb2 b1 A;refine aD<|aK<|Wk<|sN<|ay<|av (pt p)<|av (pt E)<|Lv (au v.o) (aL m21.aH 0)<|av (pf E 13)<|Lv (aC v.of) (aL m21.aH 13) ?_;have Un:BG w3 p m := { c:=m15.aH,an:=m16.arr,ag:=m17.arr,tc:=m18.aH,at2:=m19.arr,ar:=fun i J=>(m20.1 i J).arr,bn:=(by show m.s.nn<=1000000; omega),bg:=bg,bt:=(by show m.tn<=1000000; omega),br:=F.br };refine dK (XL m p v.o v.of _ Un) _ rfl ?_;intro w4 hb3;have⟨m22,m23,m24,mV,nO,ow,oD⟩:=jK hb3 m15 m16 m17 m18 m19 m20 m21;have b4:=eZ hb3 b3 A;refine av (au (m.grant v.o v.of))<|aD<|Ws<|ay<|av (au (m.grant v.o v.of)) ?_;by_cases aa:(m.grant v.o v.of)<0
 ·refine Lv aG (gJ aa)<|av aG<|dB<|dB<|dB<|dB<|dB<|dB<|dB<|dB<|dB<|dB<|av aG<|aD<|aM<|ay<|av (au 12)<|aD<|Wr<|sR<|aJ (au 12) ?_;have L:aN v=a:=by unfold aN; omega
  have Y : ¬ 0<=m.core.lH (aN v) v.req:=by rw[L]; exact j_ S
  have H:iQ m.core v=12:=by unfold iQ; rw[b_ Y]; exact d_ (.inl aa)
  exact⟨oV H.symm,b4,fun M=>by rw[H]at M; cases M⟩
 obtain⟨b,hkg,ekg,_,_⟩:=Ur aa;have ab:yh m.core v=b:=by show(m.grant v.o v.of).toNat=b; rw[ekg]; rfl
 refine Lv aF (gK aa)<|av aF<|av (pt p)<|av (pt p)<|av (pt p)<|av (pf p 19)<|Lv (.slice m.s.ga (m.s.gn) (m.s.gc)) (aL m22.aH 19)<|aX (L_ (Value.int .i64) ekg) ?_;obtain⟨af,eq1⟩:=m24.addr (by omega);have nU:Fx.Own w4 B 106 5 (bL af m.s.gn m.s.gc) m.s.gn (Jh m):=m24.fB (L_ (fun q=>Value.slice q m.s.gn m.s.gc) eq1);refine Lv (pf af (5*b)) (cO 5 (hx:=(rfl.trans (L_ (fun q=>Value.slice q (m.s.gn) (m.s.gc)) eq1))))<|av (pf af (5*b+4))<|Lv (aC ((m.g b) 4)) (aL nU.aH (5*b+4) (Fx.fq (k:=b) (j:=4) (by omega) (by omega) rfl)) ?_;by_cases ae:((m.g b) 4)=0
 ·refine Lv aF (jJ ae)<|av aF<|aD<|aK<|Wk<|sN<|Ws ?_;obtain⟨D,hD2,hD⟩:=hDx (m.g b 2);refine jW [0,1,2,4,5,6,7,9,3,8,10,11,12,13,14] [0,0,0,4,0,0,0,0,4,0,0,0,4,3,0] [(13,3,[3]),(13,8,[12,11,10,8]),(13,12,[12]),(14,13,[13])] fun qE dP iC => ?_;have⟨oz,lZ,m32,pR,nG,oF,nV⟩:=jK dP m22 m23 mV nO ow oD nU;have b5:=eZ dP b4 A;refine aY (pt p)<|aY (pt p)<|aY (pf p 20)<|aY (pt p)<|aY (pt p)<|aY (pt p)<|aY (pf p 19)<|bU (L_ (Value.int .i64) ekg)<|Rs (pt m.tb) (aL oz.aH 20) ?_;refine Rs (.slice m.s.ga (m.s.gn) (m.s.gc)) (aL oz.aH 19) ?_;refine Rp (pf af (5*b)) (fun _=>cO 5 (hx:=(rfl.trans (L_ (fun q=>Value.slice q (m.s.gn) (m.s.gc)) eq1))))<|aY (pf af (5*b+2))<|Rs (aC ((m.g b) 2)) (aL nV.aH (5*b+2) (Fx.fq (k:=b) (j:=2) (by omega) (by omega) rfl)) ?_;refine gW<|kV (EW m.tb m.ta m.tn m.tc m.t (m.g b 2) D _ (rH m32 pR bt) hD hD2) ?_;rintro e w5 ⟨K,vv,he,hown,sG,hK1,hb4⟩;obtain⟨Z,C,rfl⟩:=hown.val;refine⟨.slice Z K C,he,?_⟩;clear he;have WZ:K=dJ m.t m.tn (m.g b 2):=sS sG hK1 hD hD2;have hKD:K<=1000:=by rw[WZ]; exact Ed _ _
  have⟨rQ,qG,qH,tN,mW,mK,mX⟩:=jK hb4 oz lZ m32 pR nG oF nV;have b6:=eZ hb4 b5 A;refine Ln<|aY (.slice Z (K) (C))<|bQ<|Ws<|ay<|av (au 0)<|aD<|Wb ?_;have qI:Fx.Own w5 B 106 5 (.slice m.s.ga (m.s.gn) (m.s.gc)) m.s.gn (Jh m):=mX.fB (L_ (fun q=>Value.slice q m.s.gn m.s.gc) eq1.symm);refine Wo (fun f Q => ∃ k:Nat,∃ Rk:Nat->Nat->Int,k<=K/\cZ (fun x=>bI x v.o (m.g b 3)) (oH m.core (m.g b 2)) m.R k=(Rk,0)/\f 0=(pt p)/\f 3=(pt E)/\f 6 = .slice Z (K) (C)/\f 7=au (k:Int)/\f 5=au (b:Int)/\aR Q p 27 (kU m) 56/\aR Q m.tb 1 (fun _ => .slice m.ta m.tn m.tc) 156/\Fx.Own Q B 153 2 (.slice m.ta (m.tn) (m.tc)) m.tn (Qe m.t)/\wJ Q B 6 m/\aR Q E 14 (bM v) 37/\Fx.Own Q B 106 5 (.slice m.s.ga (m.s.gn) (m.s.gc)) m.s.gn (Jh m)/\Fx.Own Q qE.heap.size 23 1 (.slice Z (K) (C)) K (rv .u64 (fun i=>aU m.t m.tn i (m.g b 2)))/\Fx.Own Q B 84 56 (.slice m.s.na (m.s.nn) (m.s.nc)) m.s.nn (flat 56 (fun l=>mE (m.id l) (m.par l) (Rk l)))/\Below B w Q) (fun f _=>(K-(intOf (f 7)).toNat)) ⟨0,m.R,by omega,rfl,(by rfl),(by rfl),(by rfl),Fx.ic,((L_ (Value.int .i64) ekg).trans Fx.ic),rQ,qH,tN,mW,mK,qI,hown,qG,b6⟩ ?_;rintro f1 w6 ⟨k,Rk,hk,hRk,W,O,h3,h4,h5,qy,oG,rG,uW,tO,tJ,vN,uN,b7⟩;refine Ws<|ay<|aX h4<|aX h3<|av (au K) ?_;by_cases c54:(k:Int)<(K:Int)
  ·refine Lv aG (gJ c54)<|aD<|aM<|Wk<|sN<|Ws<|Wb<|Ws ?_;obtain⟨q,hq,eq0,_⟩:=Bd (m:=m) (x:=aU m.t m.tn k (m.g b 2)) (by rw[hTN]; exact sG k (by omega));have ex1:oH m.core (m.g b 2) k=q:=(by show(ig (fun i=>decide (m.id i=aU m.t m.tn k (m.g b 2))) m.s.nn).toNat=q; rw[eq0]; rfl);refine Wl<|aX W<|aX h3<|aX h4 ?_;obtain⟨Ut,Gv⟩:=vN.addr (by omega);have uj:Fx.Own w6 qE.heap.size 23 1 (bL Ut K C) K (rv .u64 (fun i=>aU m.t m.tn i (m.g b 2))):=vN.fB (L_ (fun q=>Value.slice q K C) Gv);refine Lv (pf Ut k) (cO 1 (hx:=(rfl.trans (L_ (fun q=>Value.slice q (K) (C)) Gv))))<|Lv (aC ((fun i=>aU m.t m.tn i (m.g b 2)) k)) (aL uj.aH k) ?_;have uX:Fx.Own w6 qE.heap.size 23 1 (.slice Z (K) (C)) K (rv .u64 (fun i=>aU m.t m.tn i (m.g b 2))):=uj.fB (L_ (fun q=>Value.slice q K C) Gv.symm);have anO:BG w6 p { m with R:=Rk } := { c:=qy.aH,an:=uN.arr,ag:=tJ.arr,tc:=oG.aH,at2:=rG.arr,ar:=fun i J=>(uW.1 i J).arr,bn:=(by show m.s.nn<=1000000; omega),bg:=bg,bt:=(by show m.tn<=1000000; omega),br:=F.br };refine dK ((EU { m with R:=Rk } p (aU m.t m.tn k (m.g b 2)) _ anO).mono (fun e w2 O=>(⟨O.1.trans (oV eq0),O.2⟩:e = .returned (au (q:Int))/\_))) _ rfl ?_;intro w7 hb5;have⟨ad,sw,sD,tK,xD,qJ,uz,nW⟩:=nD hb5 qy oG rG uW tO tJ uN uX;have b8:=eZ hb5 b7 A;refine av (au q)<|aD<|Ws ?_;obtain⟨N,W9⟩:=uz.addr (by omega);have tL:Fx.Own w7 B 84 56 (bL N m.s.nn m.s.nc) m.s.nn (flat 56 (fun l=>mE (m.id l) (m.par l) (Rk l))):=uz.fB (L_ (fun q=>Value.slice q m.s.nn m.s.nc) W9);obtain⟨ac,eq4⟩:=qJ.addr (by omega);have m64:Fx.Own w7 B 106 5 (bL ac m.s.gn m.s.gc) m.s.gn (Jh m):=qJ.fB (L_ (fun q=>Value.slice q m.s.gn m.s.gc) eq4);refine qB (T:=82) (T':=82) (a := .tmp 9) (v := .tmp 85) (m:=54) (z:=rv .i64 (fun _=>0)) (y:=rv .i64 ((bI (Rk q) v.o ((m.g b) 3)).1)) (u := .agg (aA 54 (rv .i64 ((bI (Rk q) v.o ((m.g b) 3)).1)))) 24 25 (List.replicate 27 (0,2,[],[])) #[(pt p),(pt p),(pt p),(pf p 18),.slice m.s.na (m.s.nn) (m.s.nc),au (q:Int),(pf N (56*q)),(pf N (56*q+2)),.agg (aA 54 (rv .i64 (Rk q))),(pt E),au v.o,(pt p),(pt p),(pt p),(pf p 19),.slice m.s.ga (m.s.gn) (m.s.gc),au (b:Int),(pf ac (5*b)),(pf ac (5*b+3)),au ((m.g b) 3),.tuple #[.agg (aA 54 (rv .i64 ((bI (Rk q) v.o ((m.g b) 3)).1))),au ((bI (Rk q) v.o ((m.g b) 3)).2)],.tuple #[.agg (aA 54 (rv .i64 ((bI (Rk q) v.o ((m.g b) 3)).1))),au ((bI (Rk q) v.o ((m.g b) 3)).2)],.agg (aA 54 (rv .i64 ((bI (Rk q) v.o ((m.g b) 3)).1))),au ((bI (Rk q) v.o ((m.g b) 3)).2),undef,undef,au ((bI (Rk q) v.o ((m.g b) 3)).2)] (by kernel_rfl) (by kernel_rfl) (by kernel_rfl) (by kernel_rfl) (by kernel_rfl) (by kernel_rfl) rfl (by kernel_rfl) rfl rfl (by kernel_rfl) (fun I=>(show ev _ (.tmp 9)=(pt I)from by kernel_rfl)) (fun I=>(show ev _ (.tmp 85) = .agg (aA 54 (rv .i64 ((bI (Rk q) v.o ((m.g b) 3)).1)))from by kernel_rfl)) (bF _ _) (fun _ _=>rfl) (by kernel_rfl) (fun I => ?_) ?_
   ·refine⟨?_,?_,?_,?_,?_,?_,?_,?_,?_,?_,?_,?_,?_,?_,?_,?_,?_,?_,?_,?_,?_,?_,?_,?_,?_,?_,?_,trivial⟩
    ·exact .inr (.inr (oC (pt p) fun G d=>fG rfl ((bV (by kernel_rfl)).trans W)))
    ·exact .inr (.inr lV)
    ·exact .inr (.inr lV)
    ·exact .inr (.inr lV)
    ·exact .inr (.inr (oC (.slice m.s.na (m.s.nn) (m.s.nc)) fun G d=>bf (x:=kU m) rfl (show ev _ (.tmp 67)=(pf p 18)from by kernel_rfl) (by kernel_rfl) (ad.aH.below d (by have:=ad.lt; omega)) (i:=18) (by omega) (by omega) rfl))
    ·exact .inr (.inr lV)
    ·exact .inr (.inr (oC (pf N (56*q)) fun G d=>dR rfl ((show ev _ (.tmp 68) = .slice m.s.na (m.s.nn) (m.s.nc)from by kernel_rfl).trans (L_ (fun q=>Value.slice q (m.s.nn) (m.s.nc)) W9)) (show ev _ (.tmp 69)=au (q:Int)from by kernel_rfl) Tryz.underlying47 (s:=56) (by kernel_rfl) (by omega) (by omega) (by omega)))
    ·exact .inr (.inr lV)
    ·exact .inr (.inr (oC (.agg (aA 54 (rv .i64 (Rk q)))) fun G d=>dX (x:=flat 56 (fun l=>mE (m.id l) (m.par l) (Rk l))) (y:=rv .i64 (Rk q)) rfl (show ev _ (.tmp 71)=(pf N (56*q+2))from by kernel_rfl) (by kernel_rfl) (by kernel_rfl) (tL.aH.below d (by have:=tL.lt; omega)) (i:=56*q+2) (by omega) (by omega) (fun jq hjq=>(Fx.iT (k:=q) (j:=2+jq) (by omega) (by omega)).trans ((fun jq _=>Ea _ _ _ jq) jq hjq))))
    ·exact .inr (.inr (oC (pt E) fun G d=>fV rfl ((bV (by kernel_rfl)).trans O) Tryz.underlying37 rfl (s:=1) (by kernel_rfl) rfl rfl))
    ·exact .inr (.inr (oC (au v.o) fun G d=>bf (x:=bM v) rfl (show ev _ (.tmp 73)=(pt E)from by kernel_rfl) (by kernel_rfl) (xD.aH.below d (by have:=xD.lt; omega)) (i:=0) (by omega) (by omega) rfl))
    ·exact .inr (.inr (oC (pt p) fun G d=>fG rfl ((bV (by kernel_rfl)).trans W)))
    ·exact .inr (.inr lV)
    ·exact .inr (.inr lV)
    ·exact .inr (.inr lV)
    ·exact .inr (.inr (oC (.slice m.s.ga (m.s.gn) (m.s.gc)) fun G d=>bf (x:=kU m) rfl (show ev _ (.tmp 78)=(pf p 19)from by kernel_rfl) (by kernel_rfl) (ad.aH.below d (by have:=ad.lt; omega)) (i:=19) (by omega) (by omega) rfl))
    ·exact .inr (.inr (oC (au b) fun G d=>fG rfl ((bV (by kernel_rfl)).trans h5)))
    ·exact .inr (.inr (oC (pf ac (5*b)) fun G d=>dR rfl ((show ev _ (.tmp 79) = .slice m.s.ga (m.s.gn) (m.s.gc)from by kernel_rfl).trans (L_ (fun q=>Value.slice q (m.s.gn) (m.s.gc)) eq4)) (show ev _ (.tmp 80)=au (b:Int)from by kernel_rfl) Tryz.underlying48 (s:=5) (by kernel_rfl) (by omega) (by omega) (by omega)))
    ·exact .inr (.inr lV)
    ·exact .inr (.inr (oC (au ((m.g b) 3)) fun G d=>bf (x:=Jh m) rfl (show ev _ (.tmp 82)=(pf ac (5*b+3))from by kernel_rfl) (by kernel_rfl) (m64.aH.below d (by have:=m64.lt; omega)) (i:=5*b+3) (by omega) (by omega) (Fx.fq (k:=b) (j:=3) (by omega) (by omega) rfl)))
    ·exact .inr (.inr (Fx.IV (v := .tuple #[.agg (aA 54 (rv .i64 ((bI (Rk q) v.o ((m.g b) 3)).1))),au ((bI (Rk q) v.o ((m.g b) 3)).2)]) (by kernel_rfl) (by kernel_rfl) (Fx.qbC (fun G d=>rC (args := [.agg (aA 54 (rv .i64 (Rk q))),au v.o,au ((m.g b) 3)]) rfl (Fx.NY (show ev _ (.tmp 72) = .agg (aA 54 (rv .i64 (Rk q)))from by kernel_rfl) (show ev _ (.tmp 74)=au v.o from by kernel_rfl) (show ev _ (.tmp 83)=au ((m.g b) 3)from by kernel_rfl)) Tryz.func161 rfl rfl) (fun G d=>(X5 (Rk q) v.o ((m.g b) 3) _).mono fun e v2 h=>⟨h.1,h.2⟩))))
    ·exact .inr (.inr lV)
    ·exact .inr (.inr lV)
    ·exact .inr (.inr lV)
    ·exact .inl rfl
    ·exact .inr (.inl rfl)
    exact .inr (.inr lV)
   rintro I w8 U P X xE hb6;have acI:p≠I:=u_ (n_ (ad.lt) X);have acJ:m.tb≠I:=u_ (n_ (sw.lt) X);have acK:E≠I:=u_ (n_ (xD.lt) X);have acL:N≠I:=u_ (n_ (tL.lt) X);have anP:ac≠I:=u_ (n_ (m64.lt) X);have⟨xg,vO,wz,sF,uO,uY,vP,vQ⟩:=nD hb6 ad sw sD tK xD nW tL m64;have b9:=eZ hb6 b8 A;have X:w.heap.size<=I:=m_ b8.size X;have yK:=xE.lt;have q1:U 0=(pt p):=(by rw[P]; exact(bV (by kernel_rfl)).trans W);have q2:U 3=(pt E):=(by rw[P]; exact(bV (by kernel_rfl)).trans O);have q3:U 6 = .slice Z (K) (C):=(by rw[P]; exact(bV (by kernel_rfl)).trans h3);have q4:U 7=au (k:Int):=(by rw[P]; exact(bV (by kernel_rfl)).trans h4);have q5:U 5=au (b:Int):=(by rw[P]; exact(bV (by kernel_rfl)).trans h5);have q16:U 8=au (q:Int):=(by rw[P]; kernel_rfl);have q41:U 9=(pt I):=(by rw[P]; kernel_rfl);have q42:U 10=au ((bI (Rk q) v.o ((m.g b) 3)).2):=(by rw[P]; kernel_rfl);clear P;refine sN<|Ws<|ay<|aX q42 ?_;by_cases V:((bI (Rk q) v.o ((m.g b) 3)).2)=0
   ·refine Lv aF (jJ V)<|aD<|aK<|Wk<|sN ?_;refine jW [0,1,2,3,5,4,6,7,8,9] [0,0,0,0,4,0,4,0,0,3] [(9,4,[4]),(9,6,[6])] fun CZ gL nT => ?_;have⟨zG,xk,zm,zn,yJ,xq,wB,wC,xW⟩:=BL gL xg vO wz sF uO uY vP vQ xE;have b10:=eZ gL b9 A;refine bU q1<|aY (pt p)<|aY (pt p)<|aY (pf p 18)<|bU q16<|Rs (.slice m.s.na (m.s.nn) (m.s.nc)) (aL zG.aH 18) ?_;refine Rs (.agg (aA 54 (rv .i64 ((bI (Rk q) v.o ((m.g b) 3)).1)))) (fC xW.aH 0 (ha:=q41)) ?_;refine Rp (pf N (56*q)) (fun _=>cO 56 (hx:=(rfl.trans (L_ (fun q=>Value.slice q (m.s.nn) (m.s.nc)) W9))))<|aY (pf N (56*q+2))<|gW<|zP wB (56*q+2) fun w9 zT s10 z2 => ?_;have gY:=gQ s10 wB.Ke;have⟨xX,AU,Au,Av,zU,zV,AV⟩:=RS gY zG xk zm zn yJ xq wC;have b11:=s10.below b10 (m_ A b10.size) wB.blk.1;have DJ:Fx.Own w9 B 84 56 (bL N m.s.nn m.s.nc) m.s.nn (flat 56 (fun l=>mE (m.id l) (m.par l) (aI Rk q ((bI (Rk q) v.o ((m.g b) 3)).1) l))):=zT.congr (fun pq hp=>(Fx.BK (k:=q) (j:=2) (by omega) (by omega) pq hp).trans (bJ (fun i J j hj=>Ck i J j hj) pq hp));refine Ln<|Rn<|bP<|sN<|Wl<|aX q4<|Lv (au ((k:Int)+1)) fF<|av (au ((k:Int)+1))<|Ln ?_;have Cb:Fx.Own w9 B 106 5 (.slice m.s.ga (m.s.gn) (m.s.gc)) m.s.gn (Jh m):=AV.fB (L_ (fun q=>Value.slice q m.s.gn m.s.gc) eq4.symm);have C9:Fx.Own w9 B 84 56 (.slice m.s.na (m.s.nn) (m.s.nc)) m.s.nn (flat 56 (fun l=>mE (m.id l) (m.par l) (aI Rk q ((bI (Rk q) v.o ((m.g b) 3)).1) l))):=DJ.fB (L_ (fun q=>Value.slice q m.s.nn m.s.nc) W9.symm);refine iq ⟨k+1,(aI Rk q (bI (Rk q) v.o (m.g b 3)).1),by omega,(Fh hRk ex1 (by first|exact V|exact Classical.not_not.1 V)),q1,q2,q3,Fx.ic,(q5.trans Fx.ic),xX,AU,Au,Av,zU,Cb,zV,C9,b11⟩ ?_
    show(K-(intOf (au ((k:Int)+1))).toNat)<_;simp only[h4,intOf]; omega
   refine Lv aG (nC V)<|aD<|aM<|ay<|aX q42<|av (au ((bI (Rk q) v.o ((m.g b) 3)).2))<|aD<|Wr<|sR<|bK<|sR<|pK<|bK<|sR<|aJ (au ((bI (Rk q) v.o ((m.g b) 3)).2)) ?_;have L:aN v=a:=(by unfold aN; omega);have Y : ¬ 0<=m.core.lH (aN v) v.req:=(by rw[L]; exact j_ S);have ne2 : ¬ (m.core.grant v.o v.of<0\/m.core.g (yh m.core v) 4≠0):=(by rw[ab]; exact fun h=>h.elim aa (fun h=>h ae));have ew:mD m.core v=cZ (fun x=>bI x v.o (m.g b 3)) (oH m.core (m.g b 2)) m.R K:=(by unfold mD; rw[ab,show dJ m.core.t m.core.tn (m.core.g b 2)=K from WZ.symm]; rfl);have H:iQ m.core v=(bI (Rk q) v.o (m.g b 3)).2:=by
    unfold iQ; rw[b_ Y,b_ ne2,ew];have e1:=Hw hRk ex1 V;rw[Ad (k:=k+1) (by rw[e1]; exact V) K (by omega)]; exact e1
   exact⟨oV H.symm,b9,fun M=>M_ (H.symm.trans M) V⟩
  refine Lv aF (gK c54)<|aD<|aK<|Wx<|bW<|gP<|bX<|sN<|Ws ?_;have hRK:cZ (fun x=>bI x v.o (m.g b 3)) (oH m.core (m.g b 2)) m.R K=(Rk,0):=by rw[show K=k by omega]; exact hRk
  refine jW [0,1,2,3,5,6,4,7,8,9,10] [0,0,0,0,4,0,0,4,0,0,3] [(10,4,[4]),(10,7,[7])] fun Rb lW AP => ?_;have⟨zZ,Gd,Ec,Gf,Gr,wK,wM⟩:=jK lW qy oG rG uW tO tJ uN;have b12:=eZ lW b7 A;refine bU W<|aY (pt p)<|aY (pt p)<|aY (pf p 19)<|bU h5<|Rp (pf E 12) (fun _=>jA O 12)<|Rs (.slice m.s.ga (m.s.gn) (m.s.gc)) (aL zZ.aH 19) ?_;refine Rs (aC v.req) (aL Gr.aH 12) ?_;obtain⟨gq5,eq5⟩:=wK.addr (by omega);have uD:Fx.Own Rb B 106 5 (bL gq5 m.s.gn m.s.gc) m.s.gn (Jh m):=wK.fB (L_ (fun q=>Value.slice q m.s.gn m.s.gc) eq5);refine Rp (pf gq5 (5*b)) (fun _=>cO 5 (hx:=(rfl.trans (L_ (fun q=>Value.slice q (m.s.gn) (m.s.gc)) eq5))))<|aY (pf gq5 (5*b+4))<|gW<|qx uD (5*b+4) (aC v.req) fun tH qb s12 z3 => ?_;have jQ:=gQ s12 uD.Ke;have⟨pG,qM,qc,rJ,sQ,rM⟩:=RQ jQ zZ Gd Ec Gf Gr wM;have b13:=s12.below b12 (m_ A b12.size) uD.blk.1;have uE:Fx.Own tH B 106 5 (bL gq5 m.s.gn m.s.gc) m.s.gn (flat 5 (fun l=>ji (aI m.g b (aI (m.g b) 4 v.req) l))):=qb.congr (fun pq hp=>(Fx.GN (k:=b) (j:=4) (by omega) (by omega) pq hp).trans (bJ (fun i J j hj=>Qx i J j hj) pq hp));refine Ln<|bQ<|Ws ?_;have zq:Fx.Own tH B 106 5 (.slice m.s.ga (m.s.gn) (m.s.gc)) m.s.gn (flat 5 (fun l=>ji (aI m.g b (aI (m.g b) 4 v.req) l))):=uE.fB (L_ (fun q=>Value.slice q m.s.gn m.s.gc) eq5.symm);have vE:Fx.Own tH B 23 1 (.slice (m.ra a) (m.rn a) (m.rc a)) (m.rn a) (rv .u64 (m.rq a)):=rJ.1 a ha;have bra:=F.br a ha;refine zO [0,1,4,5,8,9,12,16,17,2,3,6,7,10,11,13,14,15,18,19] [0,0,1,0,0,0,1,0,0,0,0,1,0,4,2,2,0,0,0,3] (iW [23]) vM Fx.iW.trans (fP := [(19,2,[2]),(19,6,[6]),(19,11,[11]),(14,13,[13]),(15,13,[14,13]),(19,13,[13]),(15,14,[14]),(18,14,[14]),(19,14,[14]),(18,15,[15]),(19,15,[15])]) (by kernel_rfl) (by kernel_rfl) (by kernel_rfl) (by kernel_rfl) (by kernel_rfl) fun wt4 qV G8 => ?_;have⟨zu,Cc,xG,uF,qN,yc,yg,uG⟩:=nD qV pG qM qc rJ sQ rM zq vE;have b14:=eZ qV b13 A;refine bU W<|Rp (pt E) (fun _=>jA O 0)<|bU W<|Rp (pt E) (fun _=>jA O 0)<|aY (pt p)<|aY (pf p 21)<|Rp (pf E 12) (fun _=>jA O 12)<|aY (pt p)<|aY (pf p 21)<|Rd (v:=au v.o) (by rfl) (by rfl) (vM _) (fun G d=>bf (x:=bM v) rfl rfl (by kernel_rfl) (qN.kL d (by decide)).aH (i:=0) (by omega) (by omega) rfl) ?_;refine Rp (au a) (fun _=>gF)<|Rd (v:=au v.o) (by rfl) (by rfl) (vM _) (fun G d=>bf (x:=bM v) rfl rfl (by kernel_rfl) (qN.kL d (by decide)).aH (i:=0) (by omega) (by omega) rfl) ?_;refine Rp (au a) (fun _=>gF)<|Rp (pf p (a+21)) (fun _=>jI 6 1)<|Rd (v := .slice (m.ra a) (m.rn a) (m.rc a)) (by rfl) (by rfl) (vM _) (fun G d=>bf (x:=kU m) rfl rfl (by kernel_rfl) (zu.kL d (by decide)).aH (i:=a+21) (by omega) (by omega) (wI _ (by omega))) ?_;refine Rs (aC v.req) (aL qN.aH 12) ?_;refine zi<|xO (vs := [(0,aC v.req)]) (s:=1) (zc:=rv .u64 (fun _=>0)) (y:=bC (fun j=>(rv .u64 (fun _=>0)) (j % 1)) (0*1) 1 (fun _=>aC v.req)) (by rfl) rfl rfl Tryz.underlying53 (by kernel_rfl) (by rfl) (by rfl) (by kernel_rfl) (by rw[aZ (off:=0*1) (s:=1) (y:=fun _=>aC v.req) rfl (cells_one (by rfl)) (by rfl)]; rfl) rfl fun g3 Gc yL Ce BD z4 => ?_;have⟨Jj,E5,A9,E8,Cg,Aa,Jq⟩:=jK BD.old zu Cc xG uF yc yg uG;have b15:=eZ BD.old b14 A;have BQ:=iI yL b14.size;have⟨ajA,ajB,ajC⟩:=EF yL zu.lt Cc.lt qN.lt;have ajD:(.slice (m.ra a) (m.rn a) (m.rc a):Value).ownBlock≠some g3:=by rw[yL]; exact uG.kg (A_ _)
  have G9:=Ce.lt;refine Ln ⟨Fx.iW.of_below BD.old,?_⟩;refine zi<|zf (B:=B) (s:=1) (bytes:=8) (k:=(m.rn a)) (m:=1) (v := .slice (m.ra a) (m.rn a) (m.rc a)) (x:=rv .u64 (m.rq a)) (by rfl) rfl rfl rfl Tryz.underlying53 (by kernel_rfl) (by kernel_rfl) rfl rfl Jq Ce.aH (yO (fun _=>rfl)) (by omega) (by omega) (by omega) (m_ A b15.size) fun g4 C BF ho1 hg1 wu hlt1 => ?_;have qF:=zh hg1 Jq;have⟨E9,Fa,Gt,Ch,Fb⟩:=rE qF Jj E5 A9 Cg Aa;have KW:Fx.Own BF B 23 1 (.slice (some ⟨g4,0,none⟩) ((m.rn a)+1) C) ((m.rn a)+1) (rv .u64 (aI (m.rq a) (m.rn a) v.req)):=(ho1.congr (fun j hj=>OH j hj));have b16:Below B w BF:=ze b15 hg1 (m_ A b15.size) (fun q hq=>(Jq.ge hq).1);have Ci:wJ BF B 6 { m with ra:=aI m.ra a (some ⟨g4,0,none⟩),rn:=aI m.rn a (m.rn a+1),rc:=aI m.rc a C,rq:=aI m.rq a (aI (m.rq a) (m.rn a) v.req) }:=wJ.app E8 ha rfl rfl rfl rfl KW hg1 wu;refine Ln ⟨qF,?_⟩;refine Rp (pf p (a+21)) (fun _=>jI 6 1)<|gW<|jd E9 (a+21) (.slice (some ⟨g4,0,none⟩) ((m.rn a)+1) (C)) fun Gq Fu s15 z5 => ?_;have zS:=gQ s15 E9.ty;have⟨Fe,Ac,Ba,Jk,Uq⟩:=rE zS Fa Gt Ch Fb Ci;have b17:=s15.below b16 (m_ A b16.size) (by omega);refine Ln<|bQ<|ay<|av (au 0)<|aD<|Wr<|aJ (au 0) ?_;have L:aN v=a:=by unfold aN; omega
  have Y : ¬ 0<=m.core.lH (aN v) v.req:=by rw[L]; exact j_ S
  have ne2 : ¬ (m.core.grant v.o v.of<0\/m.core.g (yh m.core v) 4≠0):=by rw[ab]; exact fun h=>h.elim aa (fun h=>h ae)
  have ew:mD m.core v=cZ (fun x=>bI x v.o (m.g b 3)) (oH m.core (m.g b 2)) m.R K:=by unfold mD; rw[ab,show dJ m.core.t m.core.tn (m.core.g b 2)=K from WZ.symm]; rfl
  have H:iQ m.core v=0:=by unfold iQ; rw[b_ Y,b_ ne2,ew,hRK]
  have eW:mD m.core v=(Rk,0):=ew.trans hRK;refine⟨oV H.symm,b17,fun _=>⟨{ m with s := { m.s with ga:=m.s.ga,gn:=m.s.gn,gc:=m.s.gc },R:=Rk,g:=aI m.g b (aI (m.g b) 4 v.req),ra:=aI m.ra a (some ⟨g4,0,none⟩),rn:=aI m.rn a (m.rn a+1),rc:=aI m.rc a C,rq:=aI m.rq a (aI (m.rq a) (m.rn a) v.req) },?_,?_⟩⟩
  ·unfold kH qO; rw[eW,L]; rw[ab]; rfl
  exact { c:=Fu.to (KY _ rfl _ _ _),n:=Ba,g:=Jk,tc:=Fe,t:=Ac,r:=Uq,pB:=Ub,tB:=DK,bn:=bn,bg:=(by show m.s.gn<=1000000; omega),bt:=bt,br:=(fun i J=>by show aI m.rn a (m.rn a+1) i<=1000000; have:=brr i J; have:=brr a ha; unfold aI; split <;> omega) }
 refine Lv aG (nC ae)<|av aG<|aD<|aM<|ay<|av (au 12)<|aD<|Wr<|sR<|aJ (au 12) ?_;have L:aN v=a:=by unfold aN; omega
 have Y : ¬ 0<=m.core.lH (aN v) v.req:=by rw[L]; exact j_ S
 have H:iQ m.core v=12:=by unfold iQ; rw[b_ Y,ab]; exact d_ (.inr ae)
 exact⟨oV H.symm,b4,fun M=>by rw[H]at M; cases M⟩
namespace Rt
def wO(L:fA)(v:EvM):Int:=if L.node v.node<0 then 9 else if 140737488355328<L.R (L.node v.node).toNat (aN v)+v.aQ then 6 else 0
def Fw(L:fA)(v:EvM):fA := { L with R:=aI L.R (L.node v.node).toNat (upd (L.R (L.node v.node).toNat) (aN v) (L.R (L.node v.node).toNat (aN v)+v.aQ)) }
def yj(L:fA)(v:EvM):(Nat->Int) × Int:=dn (L.R (L.node v.node).toNat) v.o v.dst v.aQ
def pI(L:fA)(v:EvM):Int:=if L.node v.node<0 then 9 else if v.dst<1\/6<v.dst\/L.inn (v.dst-1).toNat=false then 10 else(yj L v).2
def Fy(L:fA)(v:EvM):fA := { L with R:=aI L.R (L.node v.node).toNat (yj L v).1 }
noncomputable def dZ(L:fA)(v:EvM):Int :=
 if v.kind=1 then kF L v else if v.kind=2 then wO L v else if v.kind=3 then iZ L v else if v.kind=4 then iQ L v else if v.kind=5 then pI L v else 0
def iw(L:fA)(v:EvM):fA :=
 if v.kind=1 then qL L v else if v.kind=2 then Fw L v else if v.kind=3 then mo L v else if v.kind=4 then kH L v else if v.kind=5 then Fy L v
 else if v.kind=6 then { L with inn:=aI L.inn (v.dst-1).toNat true } else { L with left:=aI L.left (aN v) true }
theorem Nf{n q a:Nat}{id par:Nat->Int}{R:Nat->Nat->Int}{x:Int} : ∀ i,i<n -> ∀ j,j<56->Fx.rA (fun b=>mE (id b) (par b) (R b)) q (dA (mE (id q) (par q) (R q)) (a+2) (au x)) i j=mE (id i) (par i) (aI R q (upd (R q) a x) i) j:=fun i _ j _=>by
 unfold Fx.rA;by_cases h:i=q
 ·subst h; rw[d_ rfl,OA rfl]; unfold aI; rw[d_ rfl]
 ·rw[b_ h]; unfold aI; rw[b_ h]
theorem Yf(m:kr){i:Nat}(hi:i<6):dA (kU m) i (.bool true)=kU { m with s := { m.s with inn:=aI m.s.inn i true } }:=by
 funext p
 unfold dA kU;by_cases h:p=i
 ·subst h; rw[d_ rfl,d_ (by omega)]; unfold mY; rw[d_ hi]; simp[aI]
 rw[b_ h];by_cases a:p<20
 ·rw[d_ a,d_ a]; unfold mY;by_cases b:p<6
  ·rw[d_ b,d_ b]; simp[aI,h]
  rw[b_ b,b_ b]
 rw[b_ a,b_ a]
theorem Uu(m:kr){i q:Nat}(hi:i<6)(d:q=i+6):dA (kU m) q (.bool true)=kU { m with s := { m.s with left:=aI m.s.left i true } }:=by
 subst d
 funext p
 unfold dA kU;by_cases h:p=i+6
 ·subst h; rw[d_ rfl,d_ (by omega)]; unfold mY; rw[b_ (by omega),d_ (by omega)]; simp[aI]
 rw[b_ h];by_cases a:p<20
 ·rw[d_ a,d_ a]; unfold mY;by_cases b:p<6
  ·rw[d_ b,d_ b]
  rw[b_ b,b_ b];by_cases c:p<12
  ·rw[d_ c,d_ c]; simp[aI,show ¬ p-6=i by omega]
  rw[b_ c,b_ c]
 rw[b_ a,b_ a]
theorem Qy(m:kr){i q:Nat}(hi:i<6)(e:q=i+12)(x:Int):dA (kU m) q (aC x)=kU { m with s := { m.s with known:=aI m.s.known i x } }:=by
 subst e
 funext p
 unfold dA kU;by_cases h:p=i+12
 ·subst h; rw[d_ rfl,d_ (by omega)]; unfold mY; rw[b_ (by omega),b_ (by omega),d_ (by omega)]; simp[aI]
 rw[b_ h];by_cases a:p<20
 ·rw[d_ a,d_ a]; unfold mY;by_cases b:p<6
  ·rw[d_ b,d_ b]
  rw[b_ b,b_ b];by_cases c:p<12
  ·rw[d_ c,d_ c]
  rw[b_ c,b_ c];by_cases d:p<18
  ·rw[d_ d,d_ d]; simp[aI,show ¬ p-12=i by omega]
  rw[b_ d,b_ d]
 rw[b_ a,b_ a]
theorem jg{v:EvM}(h:bR v=true):1<=v.kind/\v.kind<=7:=by
 unfold bR at h;simp only[S_]at h;have a:=h.2;unfold dL at a;split at a; · omega
 split at a; · omega
 split at a; · omega
 split at a; · omega
 split at a; · omega
 split at a; · omega
 have:=h_ a; omega
theorem lI{v:EvM}(h:bR v=true)(c:v.kind=2\/v.kind=3\/v.kind=5):1<=v.aQ/\v.aQ<=1125899906842624:=by
 unfold bR at h;simp only[S_]at h;have a:=h.2;unfold dL at a;rw[b_ (by omega)]at a;have b:someE v=true->1<=v.aQ/\v.aQ<=1125899906842624:=fun h=>by unfold someE at h; simpa using h
 split at a; · exact b a
 split at a; · rw[S_]at a; exact b a.1
 rw[b_ (by omega)]at a;split at a; · rw[S_]at a; exact b a.1
 omega
theorem Hy{v:EvM}(h:bR v=true)(c:v.kind=6) : ∃ b:Nat,b<6/\v.dst=(b:Int)+1:=by
 unfold bR at h;simp only[S_]at h;have a:=h.2;unfold dL at a;rw[b_ (by omega),b_ (by omega),b_ (by omega),b_ (by omega),b_ (by omega),d_ c]at a;unfold mh at a;rw[S_]at a;exact eX a.1
end Rt
set_option maxRecDepth 20000 in
set_option maxHeartbeats 2000000 in
theorem acM(m:kr)(B p a:Nat)(v:EvM)(w:World)(S:sM w B p m)(H:B<=w.heap.size)(ha:a<6)(ho:v.o=(a:Int)+1)(bnn:m.s.nn<=900)(bgg:m.s.gn<=900000)(brr : ∀ i,i<6->m.rn i<=900000)(hTN : ∀ x,m.node x=bD m.t m.tn x)(hDx : ∀ x,∃ D,D<=1000/\bD m.t m.tn (aU m.t m.tn D x)<0)(hv:gD v)(hmay:bR v=true)(hR : ∀ k,k<m.s.nn->may (m.R k)=true) :
 Calls Tryz.prog 82 #[(pt p),.agg (aA 14 (bM v))] w fun e w'=>e = .returned (au (dZ m.core v))/\Below B w w'/\(dZ m.core v=0 -> ∃ m',m'.core=iw m.core v/\sM w' B p m'):=by
 have Ub:=S.pB;have DK:=S.tB;have bn:=S.bn;have bg:=S.bg;have bt:=S.bt;have XY:p<w.heap.size:=S.c.lt;have Ra:m.tb<w.heap.size:=S.tc.lt;have hvk:=hv.kind;have hvt:=hv.dst;have hkr:=jg hmay;obtain⟨D,hD2,hD⟩:=hDx v.node;refine Kent Tryz.func82 152 ?_;refine ay<|oL fun I w1 lY W s1 z1 => ?_;have C:=bB s1.old S;have X:=eZ s1.old (Below.refl B w) H;have su:=iI lY (Below.refl B w).size;have ug:=W.lt;refine av (au 0)<|aD<|Ws<|ay<|av (pf I 8)<|Lv (.int .u8 (v.kind)) (aL W.aH 8)<|aD<|Wb<|ay ?_;by_cases F:v.kind=1
 ·refine Lv aG (fI F)<|av aG<|aD<|aM<|ay<|av (pt p)<|Lv (.agg (aA 14 (bM v))) (fC W.aH 0)<|dK (XW m B p a D v _ C (m_ H X.size) ha ho bnn hD hD2) _ rfl ?_;rintro w2 ⟨hb1,hr1⟩;have b2:Below B w w2:=X.trans hb1;refine av (au (kF m.core v))<|aD<|Wr<|bK<|sR<|aJ (au (kF m.core v)) ?_;have A:dZ m.core v=kF m.core v:=by unfold dZ; rw[d_ F]
  have ec:iw m.core v=qL m.core v:=by unfold iw; rw[d_ F]
  exact⟨oV A.symm,b2,fun E=>by rw[ec]; exact hr1 (A.symm.trans E)⟩
 refine Lv aF (gG F)<|av aF<|aD<|aK<|ay ?_;by_cases G:v.kind=2
 ·refine Lv aG (fI G)<|av aG<|aD<|aM<|Ws ?_;have aa:=C.c;have ac:=C.n;have ab:=C.g;have ae:=C.tc;have af:=C.t;have ad:=C.r;refine Wl<|av (pt p)<|av (pf I 9)<|Lv (aC v.node) (aL W.aH 9) ?_;have Nb:BG w1 p m := { c:=aa.aH,an:=ac.arr,ag:=ab.arr,tc:=ae.aH,at2:=af.arr,ar:=fun i hi=>(ad.1 i hi).arr,bn:=(by show m.s.nn<=1000000; omega),bg:=bg,bt:=(by show m.tn<=1000000; omega),br:=S.br };refine dK (EU m p v.node _ Nb) _ rfl ?_;intro w3 hb2;have⟨m3,m4,m5,m6,m7,m8,m9⟩:=jK hb2 W aa ac ab ae af ad;have b3:=eZ hb2 X H;refine av (au (m.node v.node))<|aD<|Ws<|ay<|av (au (m.node v.node)) ?_;by_cases c23:(m.node v.node)<0
  ·refine Lv aG (gJ c23)<|aD<|aM<|ay<|av (au 9)<|aD<|Wr<|sR<|bK<|sR<|aJ (au 9) ?_;have P:aN v=a:=(by unfold aN; omega);have A:dZ m.core v=9:=(by unfold dZ; rw[b_ F,d_ G]; unfold wO; exact d_ c23);exact⟨oV A.symm,b3,fun E=>by rw[A]at E; cases E⟩
  obtain⟨d,hkq,V,_⟩:=Bd (m:=m) (x:=v.node) (by omega);have V:m.node v.node=(d:Int):=V;have ekN:(m.core.node v.node).toNat=d:=by show(m.node v.node).toNat=d; rw[V]; rfl
  refine Lv aF (gK c23)<|aD<|aK<|Wk<|sN<|Ws<|Ws ?_;have hRb:=kM (hR d hkq) a (by omega);have hab:=lI hmay (.inl G);refine uR<|aW (pt p)<|aW (pt p)<|aW (pt p)<|aW (pf p 18)<|Qv (.slice m.s.na (m.s.nn) (m.s.nc)) (fun l f=>aL (m4.aH.dr f) 18)<|dO (L_ (Value.int .i64) V)<|aW (pt I)<|Qv (au v.o) (fun l f=>aL (m3.aH.dr f) 0)<|Qv (au a) (fun l f=>gF) ?_;obtain⟨Q,eq1⟩:=m5.addr (by omega);have m10:Fx.Own w3 B 84 56 (bL Q m.s.nn m.s.nc) m.s.nn (JW m):=m5.fB (L_ (fun q=>Value.slice q m.s.nn m.s.nc) eq1);refine Qv (pf Q (56*d)) (fun l f=>cO 56 (hx:=(rfl.trans (L_ (fun q=>Value.slice q (m.s.nn) (m.s.nc)) eq1))))<|aW (pf Q (56*d+2))<|aW (pf Q (56*d+2))<|Qv (pf Q (a+56*d+2)) (fun l f=>jI 6 1)<|Qv (au ((m.R d) a)) (fun l f=>aL (m10.aH.dr f) (a+56*d+2) (Fx.fq (k:=d) (j:=a+2) (by omega) (by omega) (M5 _ _ _ (by omega))))<|aW (pf I 11)<|Qv (au v.aQ) (fun l f=>aL (m3.aH.dr f) 11)<|Qv (au (((m.R d) a)+v.aQ)) (fun l f=>fF) ?_;by_cases c41:140737488355328<(((m.R d) a)+v.aQ)
  ·refine Qv aG (fun l f=>mG c41)<|Qn ?_;rintro _ ⟨L,rfl⟩;obtain⟨BX,pF⟩ : ∃ l,l=World.drewN w3 L:=⟨_,rfl⟩;rw[<- pF];have s3:Stp w3.heap.size w3 BX:=(by rw[pF]; exact Sb (je w3 L));have b4:=eZ s3.old b3 H;clear pF;refine sN<|aM<|ay<|av (au 6)<|aD<|Wr<|sR<|bK<|sR<|aJ (au 6) ?_;have P:aN v=a:=(by unfold aN; omega);have A:dZ m.core v=6:=(by unfold dZ; rw[b_ F,d_ G]; unfold wO; rw[ekN,P,b_ (show ¬ m.core.node v.node<0 from c23)]; exact d_ c41);exact⟨oV A.symm,b4,fun E=>by rw[A]at E; cases E⟩
  refine Qv aF (fun l f=>mH c41)<|Qn ?_;rintro _ ⟨L,rfl⟩;obtain⟨wq2,sP⟩ : ∃ l,l=World.drewN w3 L:=⟨_,rfl⟩;rw[<- sP];have s4:Stp w3.heap.size w3 wq2:=by rw[sP]; exact Sb (je w3 L)
  have⟨m18,m19,m20,m21,m22,m23,m24⟩:=jK s4.old m3 m4 m6 m7 m8 m9 m10;have b5:=eZ s4.old b3 H;clear sP;refine sN<|aK<|Wk<|sN ?_;refine jW [0,1,2,3,5,6,14,4,9,10,11,17,18,19,7,8,12,13,15,16,20,21] [0,0,0,0,4,0,0,4,0,0,0,0,0,4,0,4,0,0,0,0,0,3] [(21,4,[4]),(21,7,[7]),(21,13,[13]),(21,15,[15])] fun qE dP iC => ?_;have⟨mV,nO,ow,oD,nU,oz,lZ⟩:=jK dP m18 m19 m20 m21 m22 m23 m24;have b6:=eZ dP b5 H;refine aY (pt p)<|aY (pt p)<|aY (pt p)<|aY (pf p 18)<|bU (L_ (Value.int .i64) V)<|aY (pt I)<|aY (pf I 11)<|Rs (.slice m.s.na (m.s.nn) (m.s.nc)) (aL nO.aH 18) ?_;refine Rp (pf Q (56*d)) (fun _=>cO 56 (hx:=(rfl.trans (L_ (fun q=>Value.slice q (m.s.nn) (m.s.nc)) eq1))))<|aY (pf Q (56*d+2))<|aY (pf Q (56*d+2))<|Rp (pf Q (56*d)) (fun _=>cO 56 (hx:=(rfl.trans (L_ (fun q=>Value.slice q (m.s.nn) (m.s.nc)) eq1))))<|aY (pf Q (56*d+2))<|aY (pf Q (56*d+2))<|Rs (au v.o) (aL mV.aH 0) ?_;refine Rp (au a) (fun _=>gF)<|Rp (pf Q (a+56*d+2)) (fun _=>jI 6 1)<|Rs (au ((m.R d) a)) (aL lZ.aH (a+56*d+2) (Fx.fq (k:=d) (j:=a+2) (by omega) (by omega) (M5 _ _ _ (by omega)))) ?_;refine Rs (au v.aQ) (aL mV.aH 11) ?_;refine Rp (au (((m.R d) a)+v.aQ)) (fun _=>fF)<|Rp (pf Q (a+56*d+2)) (fun _=>jI 6 1)<|gW<|qx lZ (a+56*d+2) (au (((m.R d) a)+v.aQ)) fun w4 m32 s6 z2 => ?_;have gY:=gQ s6 lZ.Ke;have⟨nG,oF,nV,rQ,qG⟩:=rE gY nO ow oD nU oz;have b7:=s6.below b6 (m_ H b6.size) lZ.blk.1;have qH:Fx.Own w4 B 84 56 (bL Q m.s.nn m.s.nc) m.s.nn (flat 56 (fun O=>mE (m.id O) (m.par O) (aI m.R d (upd (m.R d) a (((m.R d) a)+v.aQ)) O))):=m32.congr (fun pq hp=>(Fx.GN (k:=d) (j:=a+2) (by omega) (by omega) pq hp).trans (bJ (fun i hi j hj=>Nf (a:=a) (x:=((m.R d) a)+v.aQ) (q:=d) (id:=m.id) (par:=m.par) (R:=m.R) i hi j hj) pq hp));refine Ln<|Rn<|bP<|sN<|ay<|av (au 0)<|aD<|Wr<|aJ (au 0) ?_;have P:aN v=a:=by unfold aN; omega
  have tN:Fx.Own w4 B 84 56 (.slice m.s.na (m.s.nn) (m.s.nc)) m.s.nn (flat 56 (fun O=>mE (m.id O) (m.par O) (aI m.R d (upd (m.R d) a (((m.R d) a)+v.aQ)) O))):=qH.fB (L_ (fun q=>Value.slice q m.s.nn m.s.nc) eq1.symm);have A:dZ m.core v=0:=by unfold dZ; rw[b_ F,d_ G]; unfold wO; rw[ekN,P,b_ (show ¬ m.core.node v.node<0 from c23)]; exact b_ c41
  refine⟨oV A.symm,b7,fun _=>⟨{ m with R:=aI m.R d (upd (m.R d) a (m.R d a+v.aQ)) },by symm; unfold iw; rw[b_ F,d_ G]; unfold Fw; rw[ekN,P]; rfl,?_⟩⟩;exact { c:=nG,n:=tN,g:=oF,tc:=nV,t:=rQ,r:=qG,pB:=Ub,tB:=DK,bn:=bn,bg:=bg,bt:=bt,br:=S.br }
 refine Lv aF (gG G)<|av aF<|aD<|aK<|ay ?_;by_cases K:v.kind=3
 ·refine Lv aG (fI K)<|av aG<|aD<|aM<|ay<|av (pt p)<|Lv (.agg (aA 14 (bM v))) (fC W.aH 0)<|dK (X7 m B p a D v _ C (m_ H X.size) ha ho bgg brr hTN hD hD2) _ rfl ?_;rintro w5 ⟨hb3,hr2⟩;have b8:Below B w w5:=X.trans hb3;refine av (au (iZ m.core v))<|aD<|Wr<|bK<|sR<|aJ (au (iZ m.core v)) ?_;have A:dZ m.core v=iZ m.core v:=by unfold dZ; rw[b_ F,b_ G,d_ K]
  have ec:iw m.core v=mo m.core v:=by unfold iw; rw[b_ F,b_ G,d_ K]
  exact⟨oV A.symm,b8,fun E=>by rw[ec]; exact hr2 (A.symm.trans E)⟩
 refine Lv aF (gG K)<|av aF<|aD<|aK<|ay ?_;by_cases N:v.kind=4
 ·refine Lv aG (fI N)<|av aG<|aD<|aM<|ay<|av (pt p)<|Lv (.agg (aA 14 (bM v))) (fC W.aH 0)<|dK (Ye m B p a  v _ C (m_ H X.size) ha ho bgg brr hTN hDx) _ rfl ?_;rintro w6 ⟨hb4,hr3⟩;have J:Below B w w6:=X.trans hb4;refine av (au (iQ m.core v))<|aD<|Wr<|bK<|sR<|aJ (au (iQ m.core v)) ?_;have A:dZ m.core v=iQ m.core v:=by unfold dZ; rw[b_ F,b_ G,b_ K,d_ N]
  have ec:iw m.core v=kH m.core v:=by unfold iw; rw[b_ F,b_ G,b_ K,d_ N]
  exact⟨oV A.symm,J,fun E=>by rw[ec]; exact hr3 (A.symm.trans E)⟩
 refine Lv aF (gG N)<|av aF<|aD<|aK<|ay ?_;by_cases U:v.kind=5
 ·refine Lv aG (fI U)<|av aG<|aD<|aM<|Ws ?_;have aa:=C.c;have ac:=C.n;have ab:=C.g;have ae:=C.tc;have af:=C.t;have ad:=C.r;refine Wl<|av (pt p)<|av (pf I 9)<|Lv (aC v.node) (aL W.aH 9) ?_;have Un:BG w1 p m := { c:=aa.aH,an:=ac.arr,ag:=ab.arr,tc:=ae.aH,at2:=af.arr,ar:=fun i hi=>(ad.1 i hi).arr,bn:=(by show m.s.nn<=1000000; omega),bg:=bg,bt:=(by show m.tn<=1000000; omega),br:=S.br };refine dK (EU m p v.node _ Un) _ rfl ?_;intro M hb5;have⟨mW,mK,mX,qI,qy,oG,rG⟩:=jK hb5 W aa ac ab ae af ad;have b10:=eZ hb5 X H;refine av (au (m.node v.node))<|aD<|Ws<|ay<|av (au (m.node v.node)) ?_;by_cases c80:(m.node v.node)<0
  ·refine Lv aG (gJ c80)<|aD<|aM<|ay<|av (au 9)<|aD<|Wr<|sR<|bK<|sR<|aJ (au 9) ?_;have P:aN v=a:=(by unfold aN; omega);have A:dZ m.core v=9:=(by unfold dZ; rw[b_ F,b_ G,b_ K,b_ N,d_ U]; unfold pI; exact d_ c80);exact⟨oV A.symm,b10,fun E=>by rw[A]at E; cases E⟩
  obtain⟨d,hkq,V,_⟩:=Bd (m:=m) (x:=v.node) (by omega);have V:m.node v.node=(d:Int):=V;have ekN:(m.core.node v.node).toNat=d:=by show(m.node v.node).toNat=d; rw[V]; rfl
  refine Lv aF (gK c80)<|aD<|aK<|Wk<|sN<|Ws<|Ws ?_;refine uR<|aW (pf I 10)<|Qv (au v.dst) (fun l f=>aL (mW.aH.dr f) 10) ?_;by_cases c83:v.dst<1
  ·refine Qv aG (fun l f=>gJ c83)<|aW aG<|aS<|aS<|aS<|aW aG<|aW aG<|aS<|aS<|aS<|aS<|aS<|aS<|aS<|aS<|aS<|aS<|aW aG<|Qn ?_;rintro _ ⟨L,rfl⟩;obtain⟨WY,Af⟩ : ∃ l,l=World.drewN M L:=⟨_,rfl⟩;rw[<- Af];have s8:Stp M.heap.size M WY:=(by rw[Af]; exact Sb (je M L));have b11:=eZ s8.old b10 H;clear Af;refine sN<|aM<|ay<|av (au 10)<|aD<|Wr<|sR<|bK<|sR<|aJ (au 10) ?_;have P:aN v=a:=(by unfold aN; omega);have A:dZ m.core v=10:=(by unfold dZ; rw[b_ F,b_ G,b_ K,b_ N,d_ U]; unfold pI; rw[b_ (show ¬ m.core.node v.node<0 from c80)]; exact d_ (.inl c83));exact⟨oV A.symm,b11,fun E=>by rw[A]at E; cases E⟩
  refine Qv aF (fun l f=>gK c83)<|aW aF<|aW (pf I 10)<|Qv (au v.dst) (fun l f=>aL (mW.aH.dr f) 10) ?_;by_cases c87:6<v.dst
  ·refine Qv aG (fun l f=>mG c87)<|aW aG<|aW aG<|aS<|aS<|aS<|aS<|aS<|aS<|aS<|aS<|aS<|aS<|aW aG<|Qn ?_;rintro _ ⟨L,rfl⟩;obtain⟨wq4,Fv⟩ : ∃ l,l=World.drewN M L:=⟨_,rfl⟩;rw[<- Fv];have s9:Stp M.heap.size M wq4:=(by rw[Fv]; exact Sb (je M L));have b12:=eZ s9.old b10 H;clear Fv;refine sN<|aM<|ay<|av (au 10)<|aD<|Wr<|sR<|bK<|sR<|aJ (au 10) ?_;have P:aN v=a:=(by unfold aN; omega);have A:dZ m.core v=10:=(by unfold dZ; rw[b_ F,b_ G,b_ K,b_ N,d_ U]; unfold pI; rw[b_ (show ¬ m.core.node v.node<0 from c80)]; exact d_ (.inr (.inl c87)));exact⟨oV A.symm,b12,fun E=>by rw[A]at E; cases E⟩
  obtain⟨J,hb9,eb9⟩ : ∃ b:Nat,b<6/\v.dst=(b:Int)+1:=⟨(v.dst-1).toNat,by omega,by omega⟩;refine Qv aF (fun l f=>mH c87)<|aW aF<|aW aF<|aW (pt p)<|aW (pf I 10)<|Qv (au v.dst) (fun l f=>aL (mW.aH.dr f) 10)<|Qv (au J) (fun l f=>gF)<|aW (pt p)<|aW (pt p)<|aW (pt p)<|Qv (pf p J) (fun l f=>jI 6 1) ?_;by_cases Yg:(m.s.inn J)=true
  ·refine Qv aG (fun l f=>aL (mK.aH.dr f) J ((jr _ (by omega) (zY _ (by omega))).trans (L_ Value.bool Yg)))<|aW aF<|aW aF<|Qn ?_;rintro _ ⟨L,rfl⟩;obtain⟨wq5,Nc⟩ : ∃ l,l=World.drewN M L:=⟨_,rfl⟩;rw[<- Nc];have s10:Stp M.heap.size M wq5:=(by rw[Nc]; exact Sb (je M L));have⟨nW,tL,m64,xE,xg,vO,wz⟩:=jK s10.old mW mK mX qI qy oG rG;have b13:=eZ s10.old b10 H;clear Nc;refine sN<|aK<|Wk<|sN<|Ws ?_;obtain⟨Z,Gv⟩:=m64.addr (by omega);have sF:Fx.Own wq5 B 84 56 (bL Z m.s.nn m.s.nc) m.s.nn (JW m):=m64.fB (L_ (fun q=>Value.slice q m.s.nn m.s.nc) Gv);refine qB (T:=82) (T':=82) (a := .tmp 7) (v := .tmp 118) (m:=54) (z:=rv .i64 (fun _=>0)) (y:=rv .i64 ((dn (m.R d) v.o v.dst v.aQ).1)) (u := .agg (aA 54 (rv .i64 ((dn (m.R d) v.o v.dst v.aQ).1)))) 19 20 (List.replicate 22 (0,2,[],[])) #[(pt p),(pt p),(pt p),(pf p 18),.slice m.s.na (m.s.nn) (m.s.nc),au (d:Int),(pf Z (56*d)),(pf Z (56*d+2)),.agg (aA 54 (rv .i64 (m.R d))),(pt I),au v.o,(pf I 10),au v.dst,(pf I 11),au v.aQ,.tuple #[.agg (aA 54 (rv .i64 ((dn (m.R d) v.o v.dst v.aQ).1))),au ((dn (m.R d) v.o v.dst v.aQ).2)],.tuple #[.agg (aA 54 (rv .i64 ((dn (m.R d) v.o v.dst v.aQ).1))),au ((dn (m.R d) v.o v.dst v.aQ).2)],.agg (aA 54 (rv .i64 ((dn (m.R d) v.o v.dst v.aQ).1))),au ((dn (m.R d) v.o v.dst v.aQ).2),undef,undef,au ((dn (m.R d) v.o v.dst v.aQ).2)] (by kernel_rfl) (by kernel_rfl) (by kernel_rfl) (by kernel_rfl) (by kernel_rfl) (by kernel_rfl) rfl (by kernel_rfl) rfl rfl (by kernel_rfl) (fun Y=>(show ev _ (.tmp 7)=(pt Y)from by kernel_rfl)) (fun Y=>(show ev _ (.tmp 118) = .agg (aA 54 (rv .i64 ((dn (m.R d) v.o v.dst v.aQ).1)))from by kernel_rfl)) (bF _ _) (fun _ _=>rfl) (by kernel_rfl) (fun Y => ?_) ?_
   ·refine⟨?_,?_,?_,?_,?_,?_,?_,?_,?_,?_,?_,?_,?_,?_,?_,?_,?_,?_,?_,?_,?_,?_,trivial⟩
    ·exact .inr (.inr lV)
    ·exact .inr (.inr lV)
    ·exact .inr (.inr lV)
    ·exact .inr (.inr lV)
    ·exact .inr (.inr (oC (.slice m.s.na (m.s.nn) (m.s.nc)) fun l f=>bf (x:=kU m) rfl (show ev _ (.tmp 105)=(pf p 18)from by kernel_rfl) (by kernel_rfl) (tL.aH.below f (by have:=tL.lt; omega)) (i:=18) (by omega) (by omega) rfl))
    ·exact .inr (.inr (oC (au d) fun l f=>fG rfl ((bV (by kernel_rfl)).trans (L_ (Value.int .i64) V))))
    ·exact .inr (.inr (oC (pf Z (56*d)) fun l f=>dR rfl ((show ev _ (.tmp 106) = .slice m.s.na (m.s.nn) (m.s.nc)from by kernel_rfl).trans (L_ (fun q=>Value.slice q (m.s.nn) (m.s.nc)) Gv)) (show ev _ (.tmp 107)=au (d:Int)from by kernel_rfl) Tryz.underlying47 (s:=56) (by kernel_rfl) (by omega) (by omega) (by omega)))
    ·exact .inr (.inr lV)
    ·exact .inr (.inr (oC (.agg (aA 54 (rv .i64 (m.R d)))) fun l f=>dX (x:=JW m) (y:=rv .i64 (m.R d)) rfl (show ev _ (.tmp 109)=(pf Z (56*d+2))from by kernel_rfl) (by kernel_rfl) (by kernel_rfl) (sF.aH.below f (by have:=sF.lt; omega)) (i:=56*d+2) (by omega) (by omega) (fun jq hjq=>(Fx.iT (k:=d) (j:=2+jq) (by omega) (by omega)).trans ((fun jq _=>Ea _ _ _ jq) jq hjq))))
    ·exact .inr (.inr lV)
    ·exact .inr (.inr (oC (au v.o) fun l f=>bf (x:=bM v) rfl (show ev _ (.tmp 111)=(pt I)from by kernel_rfl) (by kernel_rfl) (nW.aH.below f (by have:=nW.lt; omega)) (i:=0) (by omega) (by omega) rfl))
    ·exact .inr (.inr lV)
    ·exact .inr (.inr (oC (au v.dst) fun l f=>bf (x:=bM v) rfl (show ev _ (.tmp 113)=(pf I 10)from by kernel_rfl) (by kernel_rfl) (nW.aH.below f (by have:=nW.lt; omega)) (i:=10) (by omega) (by omega) rfl))
    ·exact .inr (.inr lV)
    ·exact .inr (.inr (oC (au v.aQ) fun l f=>bf (x:=bM v) rfl (show ev _ (.tmp 115)=(pf I 11)from by kernel_rfl) (by kernel_rfl) (nW.aH.below f (by have:=nW.lt; omega)) (i:=11) (by omega) (by omega) rfl))
    ·exact .inr (.inr (Fx.IV (v := .tuple #[.agg (aA 54 (rv .i64 ((dn (m.R d) v.o v.dst v.aQ).1))),au ((dn (m.R d) v.o v.dst v.aQ).2)]) (by kernel_rfl) (by kernel_rfl) (Fx.qbC (fun l f=>rC (args := [.agg (aA 54 (rv .i64 (m.R d))),au v.o,au v.dst,au v.aQ]) rfl (Fx.Rm (show ev _ (.tmp 110) = .agg (aA 54 (rv .i64 (m.R d)))from by kernel_rfl) (show ev _ (.tmp 112)=au v.o from by kernel_rfl) (show ev _ (.tmp 114)=au v.dst from by kernel_rfl) (show ev _ (.tmp 116)=au v.aQ from by kernel_rfl)) Tryz.func127 rfl rfl) (fun l f=>(X6 (m.R d) v.o v.dst v.aQ _).mono fun e v2 h=>⟨h.1,h.2⟩))))
    ·exact .inr (.inr lV)
    ·exact .inr (.inr lV)
    ·exact .inr (.inr lV)
    ·exact .inl rfl
    ·exact .inr (.inl rfl)
    exact .inr (.inr lV)
   rintro Y w8 f1 hf1 qK uO hb6;have anR:I≠Y:=u_ (n_ (nW.lt) qK);have acL:p≠Y:=u_ (n_ (tL.lt) qK);have anS:m.tb≠Y:=u_ (n_ (xg.lt) qK);have anT:Z≠Y:=u_ (n_ (sF.lt) qK);have⟨vP,vQ,zG,xk,zm,zn⟩:=qD hb6 tL xE xg vO wz sF;have b14:=eZ hb6 b13 H;have qK:w.heap.size<=Y:=m_ b13.size qK;have yK:=uO.lt;have q1:f1 0=(pt p):=(by rw[hf1]; kernel_rfl);have q3:f1 6=au (d:Int):=(by rw[hf1]; exact(bV (by kernel_rfl)).trans (L_ (Value.int .i64) V));have q4:f1 7=(pt Y):=(by rw[hf1]; kernel_rfl);have q5:f1 8=au ((dn (m.R d) v.o v.dst v.aQ).2):=(by rw[hf1]; kernel_rfl);clear hf1;refine sN<|Ws<|ay<|aX q5 ?_;by_cases Yh:((dn (m.R d) v.o v.dst v.aQ).2)=0
   ·refine Lv aF (jJ Yh)<|aD<|aK<|Wk<|sN ?_;refine jW [0,1,2,3,5,4,6,7,8,9] [0,0,0,0,4,0,4,0,0,3] [(9,4,[4]),(9,6,[6])] fun CZ gL nT => ?_;have⟨xq,wB,wC,xW,zT,xX,AU⟩:=jK gL vP vQ zG xk zm zn uO;have b15:=eZ gL b14 H;refine bU q1<|aY (pt p)<|aY (pt p)<|aY (pf p 18)<|bU q3<|Rs (.slice m.s.na (m.s.nn) (m.s.nc)) (aL xq.aH 18) ?_;refine Rs (.agg (aA 54 (rv .i64 ((dn (m.R d) v.o v.dst v.aQ).1)))) (fC AU.aH 0 (ha:=q4)) ?_;refine Rp (pf Z (56*d)) (fun _=>cO 56 (hx:=(rfl.trans (L_ (fun q=>Value.slice q (m.s.nn) (m.s.nc)) Gv))))<|aY (pf Z (56*d+2))<|gW<|zP xX (56*d+2) fun w9 Au s13 z3 => ?_;have jQ:=gQ s13 xX.Ke;have⟨zU,zV,AV,EN,DJ⟩:=rE jQ xq wB wC xW zT;have b16:=s13.below b15 (m_ H b15.size) xX.blk.1;have C9:Fx.Own w9 B 84 56 (bL Z m.s.nn m.s.nc) m.s.nn (flat 56 (fun O=>mE (m.id O) (m.par O) (aI m.R d ((dn (m.R d) v.o v.dst v.aQ).1) O))):=Au.congr (fun pq hp=>(Fx.BK (k:=d) (j:=2) (by omega) (by omega) pq hp).trans (bJ (fun i hi j hj=>Ck (r:=(dn (m.R d) v.o v.dst v.aQ).1) (q:=d) (id:=m.id) (par:=m.par) (R:=m.R) i hi j hj) pq hp));refine Ln<|Rn<|bP<|sN<|ay<|av (au 0)<|aD<|Wr<|aJ (au 0) ?_;have P:aN v=a:=(by unfold aN; omega);have eto : ¬ (v.dst<1\/6<v.dst\/m.core.inn (v.dst-1).toNat=false):=fun h=>h.elim c83 (fun h=>h.elim c87 (fun h=>by rw[show(v.dst-1).toNat=J by omega]at h; rw[show m.core.inn J=true from Yg]at h; cases h))
    have eW:yj m.core v=dn (m.R d) v.o v.dst v.aQ:=(by unfold yj; rw[ekN]; rfl);have zZ:Fx.Own w9 B 84 56 (.slice m.s.na (m.s.nn) (m.s.nc)) m.s.nn (flat 56 (fun O=>mE (m.id O) (m.par O) (aI m.R d ((dn (m.R d) v.o v.dst v.aQ).1) O))):=C9.fB (L_ (fun q=>Value.slice q m.s.nn m.s.nc) Gv.symm);have A:dZ m.core v=0:=(by unfold dZ; rw[b_ F,b_ G,b_ K,b_ N,d_ U]; unfold pI; rw[b_ (show ¬ m.core.node v.node<0 from c80),b_ eto,eW]; exact Yh);refine⟨oV A.symm,b16,fun _=>⟨{ m with R:=aI m.R d (dn (m.R d) v.o v.dst v.aQ).1 },by symm; unfold iw; rw[b_ F,b_ G,b_ K,b_ N,d_ U]; unfold Fy; rw[ekN,eW]; rfl,?_⟩⟩;exact { c:=zU,n:=zZ,g:=zV,tc:=AV,t:=EN,r:=DJ,pB:=Ub,tB:=DK,bn:=bn,bg:=bg,bt:=bt,br:=S.br }
   refine Lv aG (nC Yh)<|aD<|aM<|ay<|aX q5<|av (au ((dn (m.R d) v.o v.dst v.aQ).2))<|aD<|Wr<|sR<|bK<|sR<|aJ (au ((dn (m.R d) v.o v.dst v.aQ).2)) ?_;have P:aN v=a:=(by unfold aN; omega);have eto : ¬ (v.dst<1\/6<v.dst\/m.core.inn (v.dst-1).toNat=false):=fun h=>h.elim c83 (fun h=>h.elim c87 (fun h=>by rw[show(v.dst-1).toNat=J by omega]at h; rw[show m.core.inn J=true from Yg]at h; cases h))
   have eW:yj m.core v=dn (m.R d) v.o v.dst v.aQ:=(by unfold yj; rw[ekN]; rfl);have A:dZ m.core v=(dn (m.R d) v.o v.dst v.aQ).2:=(by unfold dZ; rw[b_ F,b_ G,b_ K,b_ N,d_ U]; unfold pI; rw[b_ (show ¬ m.core.node v.node<0 from c80),b_ eto,eW]);exact⟨oV A.symm,b14,fun E=>by rw[A]at E; exact M_ E Yh⟩
  rw[T_]at Yg;refine Qv aF (fun l f=>aL (mK.aH.dr f) J ((jr _ (by omega) (zY _ (by omega))).trans (L_ Value.bool Yg)))<|aW aG<|aW aG<|Qn ?_;rintro _ ⟨L,rfl⟩;obtain⟨wq6,acO⟩ : ∃ l,l=World.drewN M L:=⟨_,rfl⟩;rw[<- acO];have BD:Stp M.heap.size M wq6:=by rw[acO]; exact Sb (je M L)
  have b17:=eZ BD.old b10 H;clear acO;refine sN<|aM<|ay<|av (au 10)<|aD<|Wr<|sR<|bK<|sR<|aJ (au 10) ?_;have P:aN v=a:=by unfold aN; omega
  have A:dZ m.core v=10:=by unfold dZ; rw[b_ F,b_ G,b_ K,b_ N,d_ U]; unfold pI; rw[b_ (show ¬ m.core.node v.node<0 from c80)]; exact d_ (.inr (.inr (by rw[show(v.dst-1).toNat=J by omega]; exact Yg)))
  exact⟨oV A.symm,b17,fun E=>by rw[A]at E; cases E⟩
 refine Lv aF (gG U)<|av aF<|aD<|aK<|ay ?_;by_cases Uv:v.kind=6
 ·refine Lv aG (fI Uv)<|av aG<|aD<|aM ?_;have aa:=C.c;have ac:=C.n;have ab:=C.g;have ae:=C.tc;have af:=C.t;have ad:=C.r;obtain⟨J,hb9,eb9⟩:=Hy hmay Uv;refine jW [0,1,4,5,6,2,3,7,8] [0,0,4,0,0,0,0,0,3] [(8,2,[2])] fun Rb lW AP => ?_;have⟨uD,qb,pG,qM,qc,rJ,sQ⟩:=jK lW W aa ac ab ae af ad;have b18:=eZ lW X H;refine aY (pt p)<|aY (pf I 10)<|aY (pt p)<|aY (pt p)<|aY (pt p)<|Rs (au v.dst) (aL uD.aH 10) ?_;refine Rp (au J) (fun _=>gF)<|Rp (pf p J) (fun _=>jI 6 1)<|gW<|jd qb J aG fun tH vB s16 z4 => ?_;have qF:=gQ s16 qb.ty;have⟨uE,zq,vE,zu,Cc⟩:=rE qF pG qM qc rJ sQ;have b19:=s16.below b18 (m_ H b18.size) (by omega);refine Ln<|Rn<|bP<|sN<|ay<|av (au 0)<|aD<|Wr<|aJ (au 0) ?_;have P:aN v=a:=by unfold aN; omega
  have A:dZ m.core v=0:=by unfold dZ; rw[b_ F,b_ G,b_ K,b_ N,b_ U]
  refine⟨oV A.symm,b19,fun _=>⟨{ m with s := { m.s with inn:=aI m.s.inn J true } },by symm; unfold iw; rw[b_ F,b_ G,b_ K,b_ N,b_ U,d_ Uv]; rw[show(v.dst-1).toNat=J by omega]; rfl,?_⟩⟩;exact { c:=vB.to (Yf m hb9),n:=uE,g:=zq,tc:=vE,t:=zu,r:=Cc,pB:=Ub,tB:=DK,bn:=bn,bg:=bg,bt:=bt,br:=S.br }
 refine Lv aF (gG Uv)<|av aF<|aD<|aK<|ay<|Lv aG afx<|av aG<|aD<|aM ?_;have aa:=C.c;have ac:=C.n;have ab:=C.g;have ae:=C.tc;have af:=C.t;have ad:=C.r;refine jW [0,1,4,5,6,2,3,7,8] [0,0,4,0,0,0,0,0,3] [(8,2,[2])] fun wt4 qV G8 => ?_;have⟨xG,uF,qN,yc,yg,uG,Ce⟩:=jK qV W aa ac ab ae af ad;have b20:=eZ qV X H;refine aY (pt p)<|aY (pt I)<|aY (pt p)<|aY (pt p)<|aY (pf p 6)<|Rs (au v.o) (aL xG.aH 0) ?_;refine Rp (au a) (fun _=>gF)<|Rp (pf p (a+6)) (fun _=>jI 6 1)<|gW<|jd uF (a+6) aG fun Gc Jj Mv z5 => ?_;have zS:=gQ Mv uF.ty;have⟨A9,E8,Gs,Cg,Aa⟩:=rE zS qN yc yg uG Ce;have PY:=Mv.below b20 (m_ H b20.size) (by omega);refine Ln<|Rn<|bP<|sN<|ay<|av (au 0)<|aD<|Wr<|aJ (au 0) ?_;have P:aN v=a:=by unfold aN; omega
 have A:dZ m.core v=0:=by unfold dZ; rw[b_ F,b_ G,b_ K,b_ N,b_ U]
 refine⟨oV A.symm,PY,fun _=>⟨{ m with s := { m.s with left:=aI m.s.left a true } },by symm; unfold iw; rw[b_ F,b_ G,b_ K,b_ N,b_ U,b_ Uv]; rw[P]; rfl,?_⟩⟩;exact { c:=Jj.to (Uu m ha rfl),n:=A9,g:=E8,tc:=Gs,t:=Cg,r:=Aa,pB:=Ub,tB:=DK,bn:=bn,bg:=bg,bt:=bt,br:=S.br }
namespace Rt
structure acP(L:fA)(T:Nat):Prop where
 nn:L.nn<=33
 gn:L.gn<=T
 rn : ∀ i,i<6->L.rn i<=T
 tn : ∀ x,L.node x=bD L.t L.tn x
 dx : ∀ x,∃ D,D<=1000/\bD L.t L.tn (aU L.t L.tn D x)<0
 may : ∀ k,k<L.nn->may (L.R k)=true
 kn:AY L.known
open Classical in
noncomputable def bG(L:fA)(v:EvM):Int :=
 if bR v=false then 1 else if kY L.known v=true then 14 else if dH L.known v=false then 13 else if L.inn (aN v)=false\/L.left (aN v)=true then 10 else dZ L v
def HY(L:fA)(v:EvM):fA := { L with known:=aI L.known (aN v) (L.known (aN v)+1) }
open Classical in
noncomputable def dh(L:fA)(v:EvM):fA:=if bG L v=0 then HY (iw L v) v else L
theorem qg(L:fA)(v:EvM):(iw L v).known=L.known:=by
 unfold iw;split; · unfold qL; rfl
 split; · unfold Fw; rfl
 split; · unfold mo qO; rfl
 split; · unfold kH qO; rfl
 split; · unfold Fy; rfl
 split <;> rfl
end Rt
set_option maxRecDepth 20000 in
set_option maxHeartbeats 2000000 in
theorem Jr(m:kr)(B p T:Nat)(v:EvM)(w:World)(L:sM w B p m)(z:gD v)(I:acP m.core T)(hT:T<=900000) :
 Calls Tryz.prog 44 #[(pt p),.agg (aA 14 (bM v))] w fun e w' => ∃ p' m',e = .returned (.tuple #[(pt p'),au (bG m.core v)])/\m'.core=dh m.core v/\sM w' B p' m'/\Below w.heap.size w w':=by
 have O:=L.c;have XY:p<w.heap.size:=O.lt;have hpB:=L.pB;refine Kent Tryz.func44 73 ?_;refine ay<|oL fun g1 w1 lY U s1 z1 => ?_;have⟨F,d,Y⟩:=iy s1.old L O (Below.refl w.heap.size w);have su:=gH lY;have TT:=bY lY O.lt;have ug:=U.lt;refine av (.pointer none)<|av (au 0)<|aD<|Ws<|ay<|Lv (.agg (aA 14 (bM v))) (fC U.aH 0) ?_;by_cases l:(bR v)=true
 ·refine dK (Hf v _ z) aG (by rw[l]) ?_;intro w2 hb1;have⟨m4,m5,m6,Z⟩:=jP hb1 F d U Y;refine av aF<|aD<|aK<|Wk<|sN<|Ws<|Ws ?_;refine lX<|aW (pt p)<|aW (pt p)<|aW (pt p)<|aW (pf p 12)<|Qv (.agg (aA 6 (rv .u64 m.s.known))) (fun W A=>fC (m5.cb A) 12 (fun j S=>jr _ (by omega) (iJ _ S (by omega))))<|Qv (.agg (aA 14 (bM v))) (fun W A=>fC (m6.cb A) 0) ?_;by_cases u:(kY m.s.known v)=true
  ·refine xB (fun _ _=>Tv m.s.known v _ z) aG (by rw[u])<|Qn ?_;intro WT qU;have⟨m7,b3⟩:=eO qU m4 Z;refine sN<|aM<|ay<|av (pt p)<|av (pt p)<|av (au 14)<|aD<|Wr<|sR<|aJ (.tuple #[(pt p),au 14]) ?_;have b:bG m.core v=14:=(by unfold bG; rw[b_ (by rw[l]; decide)]; exact d_ u);have q:dh m.core v=m.core:=(by unfold dh; rw[b_ (by rw[b]; decide)]);exact⟨p,m,by rw[b],q.symm,m7,b3⟩
  rw[T_]at u;refine xB (fun _ _=>Tv m.s.known v _ z) aF (by rw[u])<|Qn ?_;intro Xt uh;have⟨m10,m11,m12,b4⟩:=jP uh m4 m5 m6 Z;refine sN<|aK<|Wk<|sN<|Ws<|Ws ?_;refine lX<|aW (pt p)<|aW (pt p)<|aW (pt p)<|aW (pf p 12)<|Qv (.agg (aA 6 (rv .u64 m.s.known))) (fun W A=>fC (m11.cb A) 12 (fun j S=>jr _ (by omega) (iJ _ S (by omega))))<|Qv (.agg (aA 14 (bM v))) (fun W A=>fC (m12.cb A) 0) ?_;by_cases x:(dH m.s.known v)=true
  ·refine xB (fun _ _=>Oq m.s.known v _ z I.kn) aG (by rw[x])<|aW aF<|Qn ?_;intro N wZ;have⟨K,M,m15,G⟩:=jP wZ m10 m11 m12 b4;refine sN<|aK<|Wk<|sN<|Ws ?_;obtain⟨a,P,ho⟩:=eX (iU l);refine Wl<|av (pt g1)<|Lv (au v.o) (aL m15.aH 0)<|Lv (au a) gF<|av (au a)<|aD<|Ws<|ay<|av (pt p)<|av (au a)<|av (pt p)<|av (pt p)<|av (pt p)<|Lv (pf p a) (jI 6 1) ?_;by_cases C:(m.s.inn a)=true
   ·refine Lv aG (aL M.aH a ((jr _ (by omega) (zY _ (by omega))).trans (L_ Value.bool C)))<|av aF<|av aF<|av (pt p)<|av (au a)<|av (pt p)<|av (pt p)<|av (pf p 6)<|Lv (pf p (a+6)) (jI 6 1) ?_;by_cases D:(m.s.left a)=true
    ·refine Lv aG (aL M.aH (a+6) ((jr _ (by omega) (AZ _ (by omega) (by omega))).trans (L_ Value.bool D)))<|av aG<|aD<|aM<|ay<|av (pt p)<|av (pt p)<|av (au 10)<|aD<|Wr<|sR<|aJ (.tuple #[(pt p),au 10]) ?_;have y:aN v=a:=(by unfold aN; omega);have b:bG m.core v=10:=(by unfold bG; rw[b_ (by rw[l]; decide),b_ (by rw[show kY m.core.known v=false from u]; decide),b_ (by rw[show dH m.core.known v=true from x]; decide),y]; exact d_ (.inr D));have q:dh m.core v=m.core:=(by unfold dh; rw[b_ (by rw[b]; decide)]);exact⟨p,m,by rw[b],q.symm,K,G⟩
    rw[T_]at D;refine Lv aF (aL M.aH (a+6) ((jr _ (by omega) (AZ _ (by omega) (by omega))).trans (L_ Value.bool D)))<|av aF<|aD<|aK<|Wk<|sN<|ay<|av (pt p)<|kV (ace m p _ K.Z9 (by have:=I.nn; have e:m.core.nn=m.s.nn:=rfl; omega) K.bt) ?_;rintro e w3 ⟨f,F,J,R,hL2,Q⟩;refine⟨(pt f),J,?_⟩;clear J;have⟨m18,b6⟩:=eO Q m15 G;have E:acP F.core T:=(by rw[R]; exact I);refine av (pt f)<|aD<|Ws ?_;have anV:=hL2;refine Wl<|av (pt f)<|Lv (.agg (aA 14 (bM v))) (fC m18.aH 0)<|kV (acM F N.heap.size f a v _ anV Q.size P ho (by have h9:F.s.nn<=33:=E.nn; omega) (m_ E.gn hT) (fun i hi=>m_ (E.rn i hi) hT) E.tn E.dx z l E.may) ?_;rintro e X ⟨J,hbd,hL3⟩;refine⟨au (dZ m.core v),by rw[<- R]; exact J,?_⟩;clear J;rw[R]at hL3;have b8:Below N.heap.size N X:=Q.trans hbd;have b7:Below w.heap.size w X:=b6.trans (hbd.mono (m_ (A_ _) G.size));have m19:sM X B p m:=K.up b8;refine av (au (dZ m.core v))<|aD<|Ws<|ay<|av (au (dZ m.core v)) ?_;by_cases H:(dZ m.core v)=0
    ·refine Lv aF (jJ H)<|aD<|aK<|Wk<|sN<|Ws ?_;obtain⟨d,hc3,k⟩:=hL3 H;have hMc:=k.c;have hMn:=k.n;have hMg:=k.g;have hMt:=k.tc;have anX:=k.t;have hMr:=k.r;have ek3:d.s.known=m.s.known:=(by show d.core.known=_; rw[hc3,qg]; rfl);have hk3:=I.kn a P;have hk3:0<=d.s.known a/\d.s.known a<1099511627776:=(by rw[ek3]; exact hk3);have lp2:=k.pB;have sw1:=G.size;refine jW [0,1,2,3,4,5,8,9,10,6,7,11,12] [0,0,0,0,0,0,4,0,0,0,0,0,3] [(12,6,[6])] fun qE dP iC => ?_;have⟨V,m21,m22,m23,m24,mV,b9⟩:=jK dP hMc hMn hMg hMt anX hMr b7;refine aY (pt f)<|aY (au a)<|aY (pt f)<|aY (pt f)<|aY (pf f 12)<|Rp (pf f (a+12)) (fun _=>jI 6 1)<|aY (pt f)<|aY (pt f)<|aY (pf f 12)<|Rs (aC (d.s.known a)) (aL V.aH (a+12) (jr _ (by omega) (iJ _ (by omega) (by omega)))) ?_;refine Rp (aC (d.s.known a+1)) (fun _=>fF)<|Rp (pf f (a+12)) (fun _=>jI 6 1)<|gW<|jd V (a+12) (aC (d.s.known a+1)) fun w5 nO s8 z2 => ?_;have gY:=gQ s8 V.ty;have⟨ow,oD,nU,oz,lZ⟩:=rE gY m21 m22 m23 m24 mV;have b10:=s8.below b9 b9.size (by omega);refine Ln<|bQ<|ay<|av (pt f)<|av (pt f)<|av (au 0)<|aD<|Wr<|aJ (.tuple #[(pt f),au 0]) ?_;have y:aN v=a:=(by unfold aN; omega);have b:bG m.core v=0:=by unfold bG; rw[b_ (by rw[l]; decide),b_ (by rw[show kY m.core.known v=false from u]; decide),b_ (by rw[show dH m.core.known v=true from x]; decide),y]; rw[b_ (show ¬ (m.core.inn a=false\/m.core.left a=true)from fun h=>h.elim (fun h=>by rw[show m.core.inn a=true from C]at h; cases h) (fun h=>by rw[show m.core.left a=false from D]at h; cases h))]; exact H
     have hfin:sM w5 N.heap.size f { d with s := { d.s with known:=aI d.s.known a (d.s.known a+1) } } := { c:=nO.to (Qy d P rfl _),n:=ow,g:=oD,tc:=nU,t:=oz,r:=lZ,pB:=k.pB,tB:=k.tB,bn:=k.bn,bg:=k.bg,bt:=k.bt,br:=k.br };refine⟨f,{ d with s := { d.s with known:=aI d.s.known a (d.s.known a+1) } },by rw[b],?_,hfin.mono (by have:=L.pB; have:=XY; omega),b10⟩;unfold dh; rw[d_ b]; unfold HY; rw[y,qg,<- hc3,show m.core.known=d.s.known from ek3.symm]; rfl
    refine Lv aG (nC H)<|aD<|aM<|ay<|av (pt p)<|av (au (dZ m.core v))<|av (pt p)<|av (au (dZ m.core v))<|aD<|Wr<|sR<|aJ (.tuple #[(pt p),au (dZ m.core v)]) ?_;have y:aN v=a:=(by unfold aN; omega);have b:bG m.core v=dZ m.core v:=by unfold bG; rw[b_ (by rw[l]; decide),b_ (by rw[show kY m.core.known v=false from u]; decide),b_ (by rw[show dH m.core.known v=true from x]; decide),y]; rw[b_ (show ¬ (m.core.inn a=false\/m.core.left a=true)from fun h=>h.elim (fun h=>by rw[show m.core.inn a=true from C]at h; cases h) (fun h=>by rw[show m.core.left a=false from D]at h; cases h))]
    have q:dh m.core v=m.core:=(by unfold dh; rw[b_ (by rw[b]; exact H)]);exact⟨p,m,by rw[b],q.symm,m19,b7⟩
   rw[T_]at C;refine Lv aF (aL M.aH a ((jr _ (by omega) (zY _ (by omega))).trans (L_ Value.bool C)))<|av aG<|av aG<|dB<|dB<|dB<|dB<|dB<|dB<|dB<|av aG<|aD<|aM<|ay<|av (pt p)<|av (pt p)<|av (au 10)<|aD<|Wr<|sR<|aJ (.tuple #[(pt p),au 10]) ?_;have y:aN v=a:=(by unfold aN; omega);have b:bG m.core v=10:=(by unfold bG; rw[b_ (by rw[l]; decide),b_ (by rw[show kY m.core.known v=false from u]; decide),b_ (by rw[show dH m.core.known v=true from x]; decide),y]; exact d_ (.inl C));have q:dh m.core v=m.core:=(by unfold dh; rw[b_ (by rw[b]; decide)]);exact⟨p,m,by rw[b],q.symm,K,G⟩
  rw[T_]at x;refine xB (fun _ _=>Oq m.s.known v _ z I.kn) aF (by rw[x])<|aW aG<|Qn ?_;intro wb4 AQ;have⟨m32,b11⟩:=eO AQ m10 b4;refine sN<|aM<|ay<|av (pt p)<|av (pt p)<|av (au 13)<|aD<|Wr<|sR<|aJ (.tuple #[(pt p),au 13]) ?_;have b:bG m.core v=13:=by unfold bG; rw[b_ (by rw[l]; decide),b_ (by rw[show kY m.core.known v=false from u]; decide)]; exact d_ x
  have q:dh m.core v=m.core:=by unfold dh; rw[b_ (by rw[b]; decide)]
  exact⟨p,m,by rw[b],q.symm,m32,b11⟩
 rw[T_]at l;refine dK (Hf v _ z) aF (by rw[l]) ?_;intro w6 hb2;have⟨oF,b12⟩:=eO hb2 F Y;refine av aG<|aD<|aM<|ay<|av (pt p)<|av (pt p)<|av (au 1)<|aD<|Wr<|sR<|aJ (.tuple #[(pt p),au 1]) ?_;have b:bG m.core v=1:=by unfold bG; exact d_ l
 have q:dh m.core v=m.core:=by unfold dh; rw[b_ (by rw[b]; decide)]
 exact⟨p,m,by rw[b],q.symm,oF,b12⟩
section
namespace Rt
structure Inv0(L:fA)(T:Nat):Prop where
 Cn:L.tn=L.nn
 nn:L.nn<=32
 tid : ∀ i,i<L.nn->L.t i 0=L.id i/\L.t i 1=L.par i
 rise : ∀ i j,i<j->j<L.nn->L.id i<L.id j
 pos : ∀ i,i<L.nn->1<=L.id i
 top : ∀ i,i<L.nn->L.id i<7696581394432
 up : ∀ i,i<L.nn->L.par i=0 \/ ∃ j,j<L.nn/\L.id j=L.par i
 dep : ∀ x,∃ D,D<=4/\bD L.t L.tn (aU L.t L.tn D x)<0
 gn:L.gn<=T
 rn : ∀ i,i<6->L.rn i<=T
 may : ∀ k,k<L.nn->may (L.R k)=true
 g47 : ∀ k,k<L.nn -> ∀ a,a<6->L.R k a<=140737488355328
 kn:AY L.known
theorem ilt(a:Int):a<0\/0<=a:=by omega
theorem iK{t:Nat->Nat->Int}{tn:Nat}{x:Int}:0<=bD t tn x <-> ∃ i,i<tn/\t i 0=x:=by
 constructor
 ·intro h;obtain⟨j,c,_,e⟩:=vo h;exact⟨j,c,e⟩
 rintro ⟨i,b,e⟩
 rcases jO (fun i=>decide (t i 0=x)) tn with ⟨k,_,a,_⟩|⟨_,h2⟩
 ·unfold bD; rw[a]; omega
 have:=h2 i b; rw[f_ e]at this; cases this
theorem vG{t:Nat->Nat->Int}{tn:Nat}{x:Int}:bD t tn x<0 <-> ∀ i,i<tn->t i 0≠x:=by
 constructor
 ·intro h i a e;have:=iK.2 ⟨i,a,e⟩; omega
 intro h
 rcases ilt (bD t tn x)with h1|h1
 ·exact h1
 obtain⟨i,a,e⟩:=iK.1 h1;exact M_ e (h i a)
theorem vH{t:Nat->Nat->Int}{tn i:Nat}(c : ∀ i j,i<tn->j<tn->t i 0=t j 0->i=j)(hi:i<tn):bD t tn (t i 0)=(i:Int):=by
 obtain⟨j,b,e,a⟩:=vo (iK.2 ⟨i,hi,rfl⟩);rw[e,c j i b hi a]
theorem Fz{t:Nat->Nat->Int}{tn:Nat}{x:Int} : ∀ j,aU t tn (j+1) x=aU t tn j (aU t tn 1 x)
 | 0=>rfl
 | j+1=>by
   show t (bD t tn (aU t tn (j+1) x)).toNat 1=t (bD t tn (aU t tn j (aU t tn 1 x))).toNat 1;rw[Fz j]
section
variable {L:fA} {T:Nat}
theorem Inv0.inj(h:Inv0 L T) : ∀ i j,i<L.nn->j<L.nn->L.id i=L.id j->i=j:=fun i j a b e=>by
 rcases Nat.lt_trichotomy i j with h1|h1|h1
 ·have:=h.rise i j h1 b; omega
 ·exact h1
 ·have:=h.rise j i h1 a; omega
theorem Inv0.agX(h:Inv0 L T) : ∀ i j,i<L.tn->j<L.tn->L.t i 0=L.t j 0->i=j:=fun i j a b e=>by
 rw[h.Cn]at a b;rw[(h.tid i a).1,(h.tid j b).1]at e;exact h.inj i j a b e
theorem Dc{P Q:Nat->Bool} : ∀ {n:Nat},(∀ i,i<n->P i=Q i)->ig P n=ig Q n
 | 0,_=>rfl
 | n+1,h=>by
   simp only[ig];rw[Dc (n:=n) fun i a=>h i (by omega),h n (by omega)]
theorem Inv0.node(h:Inv0 L T)(x:Int):L.node x=bD L.t L.tn x:=by
 unfold fA.node bD;rw[h.Cn];exact Dc fun i a=>by rw[(h.tid i a).1]
theorem Inv0.w(h:Inv0 L T):acP L T where
 nn:=by have:=h.nn; omega
 gn:=h.gn
 rn:=h.rn
 tn:=h.node
 dx:=fun x=>by obtain⟨D,b,a⟩:=h.dep x; exact⟨D,by omega,a⟩
 may:=h.may
 kn:=h.kn
theorem Inv0.mono{T':Nat}(h:Inv0 L T)(a:T<=T'):Inv0 L T' := { h with gn:=m_ h.gn a,rn:=fun i b=>m_ (h.rn i b) a }
theorem Ee{a:Type}{f:Nat->a}{k i:Nat}{v:a}(h:i<k):cu f k v i=f i:=by unfold cu; rw[d_ h]
theorem dF{a:Type}{f:Nat->a}{k:Nat}{v:a}:cu f k v k=v:=by unfold cu; rw[b_ (by omega),d_ rfl]
theorem Ef{a:Type}{f:Nat->a}{k i:Nat}{v:a}(h:k<i):cu f k v i=f (i-1):=by unfold cu; rw[b_ (by omega),b_ (by omega)]
theorem dU{k i n:Nat}(b:k<=n)(hi:i<n+1):i=k \/ ∃ j,j<n/\(∀ {α:Type} (f:Nat->α) (v:α),cu f k v i=f j)/\(j<k->i=j)/\(k<=j->i=j+1):=by
 rcases Nat.lt_trichotomy i k with h|h|h
 ·exact .inr ⟨i,by omega,fun f v=>Ee h,fun _=>rfl,fun a=>by omega⟩
 ·exact .inl h
 exact .inr ⟨i-1,by omega,fun f v=>Ef h,fun a=>by omega,fun _=>by omega⟩
theorem Bg{k j n:Nat}(a:j<n) : ∃ i,i<n+1/\i≠k /\ ∀ {α:Type} (f:Nat->α) (v:α),cu f k v i=f j:=by
 by_cases h:j<k
 ·exact⟨j,by omega,by omega,fun f v=>Ee h⟩
 exact⟨j+1,by omega,by omega,fun f v=>by rw[Ef (by omega)]; rfl⟩
theorem yP(t:Nat->Nat->Int)(k:Nat)(id par:Int)(i:Nat):pE t k id par i=cu t k (fun j=>if j=0 then id else par) i:=rfl
theorem HZ{P Q:Nat->Bool} : ∀ {n:Nat},(∀ i,i<n->P i=Q i)->down P n=down Q n
 | 0,_=>rfl
 | n+1,h=>by
   unfold down;rw[HZ (n:=n) fun i a=>h i (by omega),h n (by omega)]
structure pJ(t t':Nat->Nat->Int)(tn:Nat)(id par:Int):Prop where
 u : ∀ i j,i<tn->j<tn->t i 0=t j 0->i=j
 u' : ∀ i j,i<tn+1->j<tn+1->t' i 0=t' j 0->i=j
 no : ∀ i,i<tn->t i 0≠id
 old : ∀ i,i<tn -> ∃ j,j<tn+1/\t' j=t i
 new : ∃ j,j<tn+1/\t' j 0=id/\t' j 1=par
 back : ∀ j,j<tn+1->t' j 0=id \/ ∃ i,i<tn/\t' j=t i
variable {t t':Nat->Nat->Int} {tn:Nat} {id par:Int}
theorem pJ.find(h:pJ t t' tn id par){x:Int}:0<=bD t' (tn+1) x<->(0<=bD t tn x\/x=id):=by
 rw[iK,iK];constructor
 ·rintro ⟨j,b,e⟩
  rcases h.back j b with a|⟨i,hi,a⟩
  ·exact .inr (e.symm.trans a)
  exact .inl ⟨i,hi,by rw[<- a]; exact e⟩
 rintro (⟨i,hi,e⟩|e)
 ·obtain⟨j,b,a⟩:=h.old i hi;exact⟨j,b,by rw[a]; exact e⟩
 obtain⟨j,b,a,_⟩:=h.new;exact⟨j,b,a.trans e.symm⟩
theorem pJ.Yi(h:pJ t t' tn id par){x:Int}(hx:0<=bD t tn x):t' (bD t' (tn+1) x).toNat 1=t (bD t tn x).toNat 1:=by
 obtain⟨i,b,e⟩:=iK.1 hx;obtain⟨j,f,a⟩:=h.old i b;have c:bD t tn x=(i:Int):=by rw[<- e]; exact vH h.u b
 have d:bD t' (tn+1) x=(j:Int):=by
  have:t' j 0=x:=by rw[a]; exact e
  rw[<- this]; exact vH h.u' f
 rw[c,d];show t' j 1=t i 1;rw[a]
theorem pJ.iter(h:pJ t t' tn id par){x:Int} : ∀ K,(∀ i,i<K->0<=bD t tn (aU t tn i x))->aU t' (tn+1) K x=aU t tn K x
 | 0,_=>rfl
 | K+1,hk=>by
   have a:=pJ.iter h K fun i b=>hk i (by omega);show t' (bD t' (tn+1) (aU t' (tn+1) K x)).toNat 1=t (bD t tn (aU t tn K x)).toNat 1;rw[a]; exact h.Yi (hk K (by omega))
theorem vI{t:Nat->Nat->Int}{tn:Nat}{x:Int} : ∀ D,bD t tn (aU t tn D x)<0 -> ∃ K,K<=D/\bD t tn (aU t tn K x)<0 /\ ∀ i,i<K->0<=bD t tn (aU t tn i x)
 | 0,h=>⟨0,A_ _,h,fun _ a=>M_ a (z_ _)⟩
 | D+1,h=>by
   by_cases f : ∀ i,i<D+1->0<=bD t tn (aU t tn i x)
   ·exact⟨D+1,A_ _,h,f⟩
   ·obtain⟨i,a⟩:=Classical.not_forall.1 f;obtain⟨a,o⟩:=Classical.not_imp.1 a
    rcases Nat.lt_or_ge i D with h3|h3
    ·-- an earlier end
     have : ∀ n,n<=D->(∃ j,j<=n/\bD t tn (aU t tn j x)<0) -> ∃ K,K<=n/\bD t tn (aU t tn K x)<0 /\ ∀ i,i<K->0<=bD t tn (aU t tn i x):=by
      intro n
      induction n with
      | zero=>rintro _ ⟨j,m,k⟩; obtain rfl:j=0:=by omega
              exact⟨0,A_ _,k,fun _ a=>M_ a (z_ _)⟩
      | succ n ih =>
        rintro k ⟨j,m,g⟩;by_cases c : ∃ j,j<=n/\bD t tn (aU t tn j x)<0
        ·obtain⟨K,d,l⟩:=ih (by omega) c; exact⟨K,by omega,l⟩
        ·refine⟨n+1,A_ _,?_,fun i a => ?_⟩
         ·by_cases e:j=n+1
          ·rw[<- e]; exact g
          ·exact M_ ⟨j,by omega,g⟩ c
         ·rcases ilt (bD t tn (aU t tn i x))with h7|h7
          ·exact M_ ⟨i,by omega,h7⟩ c
          ·exact h7
     obtain⟨K,d,b⟩:=this i (by omega) ⟨i,A_ _,by omega⟩;exact⟨K,by omega,b⟩
    ·obtain rfl:i=D:=(by omega);obtain⟨K,d,b⟩:=vI (t:=t) (tn:=tn) (x:=x) i (by omega);exact⟨K,by omega,b⟩
theorem pJ.dep(h:pJ t t' tn id par)(z:1<=id)(v : ∀ i,i<tn->t i 1=0\/0<=bD t tn (t i 1))(s:par=0\/0<=bD t tn par)(B:bD t tn 0<0)(o : ∀ x,∃ D,D<=4/\bD t tn (aU t tn D x)<0)(p : ¬ C8 t tn par) :
 ∀ x,∃ D,D<=4/\bD t' (tn+1) (aU t' (tn+1) D x)<0:=by
 have A:bD t tn id<0:=vG.2 h.no;have k : ∀ x K,x≠id->bD t tn (aU t tn K x)<0->(∀ i,i<K->0<=bD t tn (aU t tn i x))->bD t' (tn+1) (aU t' (tn+1) K x)<0:=fun x K c f a=>by
  rw[h.iter K a]
  rcases ilt (bD t' (tn+1) (aU t tn K x))with h1|h1
  ·exact h1
  ·exfalso
   rcases h.find.1 h1 with h2|h2
   ·omega
   ·cases K with
    | zero=>exact c h2
    | succ K =>
      have q:=a K (by omega);obtain⟨i,b,e⟩:=iK.1 q;have d:aU t tn (K+1) x=t i 1:=by
       show t (bD t tn (aU t tn K x)).toNat 1=t i 1;rw[<- e,vH h.u b]; rfl
      rw[d]at h2 f
      rcases v i b with h4|h4
      ·omega
      ·omega
 intro x;by_cases c:x=id
 ·subst c;obtain⟨i,b⟩:=Classical.not_forall.1 p;obtain⟨y,b⟩:=Classical.not_imp.1 b;obtain⟨K,f,g,a⟩:=vI (t:=t) (tn:=tn) (x:=par) i (by omega);refine⟨K+1,by omega,?_⟩;have l:aU t' (tn+1) 1 x=par:=by
   obtain⟨j,r,m,d⟩:=h.new;show t' (bD t' (tn+1) x).toNat 1=par;rw[<- m,vH h.u' r]; exact d
  rw[Fz,l];refine k par K ?_ g a;rintro rfl
  rcases s with h1|h1 <;> omega
 obtain⟨D,w,n⟩:=o x;obtain⟨K,f,g,a⟩:=vI D n;exact⟨K,by omega,k x K c g a⟩
end
end Rt
end
section
namespace Rt
section
variable {L:fA} {T:Nat} {v:EvM}
theorem Yj{t:Nat->Nat->Int}{tn:Nat}{id par:Int}(h:jE t tn id par=0):id≠0/\bD t tn id<0/\(par=0\/0<=bD t tn par)/\tn<32 /\ ¬ C8 t tn par:=by
 unfold jE at h;split at h; · cases h
 rename_i h1;split at h; · cases h
 rename_i h2;split at h; · cases h
 rename_i h3;split at h; · cases h
 rename_i h4;refine⟨h1,by omega,?_,?_,fun b=>h4 (.inr b)⟩
 ·rcases ilt (bD t tn par)with h5|h5
  ·by_cases a:par=0
   ·exact .inl a
   exact M_ ⟨a,h5⟩ h3
  exact .inr h5
 rcases Nat.lt_or_ge tn 32 with h5|h5
 ·exact h5
 exact M_ (Or.inl h5) h4
theorem oh(h:bR v=true):1<=v.o/\v.o<=6/\1<=v.seq/\v.seq<1099511627776:=by
 have a:=iU h;have b:=D6 h;unfold iV at a;simp only[S_,decide_eq_true_eq]at a;exact⟨a.1,a.2,b.1,b.2⟩
theorem rO(h:bR v=true):jk v.o v.seq=1099511627776*v.o+v.seq:=by
 have:=oh h;unfold jk; rw[d_ (by omega)]
theorem jT(h:bR v=true):aN v<6:=by
 have:=oh h; unfold aN; omega
theorem Yk{a:Nat}{n:Int}(ha:a<6)(f:0<=n)(h1:n<=1125899906842624):may (upd (fun _=>0) a n)=true:=by
 have e : ∀ p,upd (fun _=>0) a n p=if p=a then n else 0:=fun p=>rfl;rw[jS];refine⟨fun p l => ?_,fun k h => ?_,?_⟩
 ·rw[e]; split <;> omega
 ·have b : ∀ i j,R (upd (fun _=>0) a n) i j=0:=fun i j=>by unfold R; rw[e,b_ (by omega)]
  refine⟨?_,?_,b k k⟩
  ·unfold L;simp only[b];have g:0<=G (upd (fun _=>0) a n) k:=by unfold G; rw[e]; split <;> omega
   have d:F (upd (fun _=>0) a n) k=0:=(by unfold F; rw[e,b_ (by omega)]);have c:C (upd (fun _=>0) a n) k=0:=(by unfold C; rw[e,b_ (by omega)]);omega
  have d:F (upd (fun _=>0) a n) k=0:=by unfold F; rw[e,b_ (by omega)]
  have c:C (upd (fun _=>0) a n) k=0:=by unfold C; rw[e,b_ (by omega)]
  omega
 unfold sK G;simp only[e];have:(if 0=a then n else 0)+(if 1=a then n else 0)+(if 2=a then n else 0)+(if 3=a then n else 0)+(if 4=a then n else 0)+(if 5=a then n else 0)=n:=six a ha n;omega
theorem wP(h:Inv0 L T)(d:bR v=true)(F:v.kind=1)(f:kF L v=0) : ∃ k,k<=L.nn/\1<=jk v.o v.seq/\L.nn<32/\(0<=v.aQ/\v.aQ<=140737488355328)/\(v.node=0\/0<=bD L.t L.tn v.node) /\ ¬ C8 L.t L.tn v.node /\
 qL L v = { L with nn:=L.nn+1,id:=cu L.id k (jk v.o v.seq),par:=cu L.par k v.node,R:=cu L.R k (upd (fun _=>0) (aN v) v.aQ),tn:=L.tn+1,t:=pE L.t k (jk v.o v.seq) v.node } /\
 (∀ i j,i<j->j<L.nn+1->cu L.id k (jk v.o v.seq) i<cu L.id k (jk v.o v.seq) j)/\(∀ i,i<L.nn+1->pE L.t k (jk v.o v.seq) v.node i 0=cu L.id k (jk v.o v.seq) i/\pE L.t k (jk v.o v.seq) v.node i 1=cu L.par k v.node i) /\
 pJ L.t (pE L.t k (jk v.o v.seq) v.node) L.tn (jk v.o v.seq) v.node:=by
 unfold kF at f;split at f
 ·cases f
 rename_i h47;obtain⟨K,s,w,M,y⟩:=Yj f;have S:=oh d;have U:=rO d;have W:=jT d;have D:0<=v.aQ/\v.aQ<=140737488355328:=by
  have Q : ¬ 140737488355328<v.aQ:=fun h=>h47 (.inr h);unfold bR at d;simp only[S_]at d;have l:=d.2;unfold dL at l;rw[d_ F]at l;simp only[S_,decide_eq_true_eq]at l;omega
 generalize hx:jk v.o v.seq=x at *;have J:1<=x:=by omega
 have A:down (fun i=>decide (x<L.t i 0)) L.tn=sO L.id L.nn x:=by
  unfold sO; rw[h.Cn]; exact HZ fun i a=>by rw[(h.tid i a).1]
 have z:qL L v = { L with nn:=L.nn+1,id:=cu L.id (sO L.id L.nn x) x,par:=cu L.par (sO L.id L.nn x) v.node,R:=cu L.R (sO L.id L.nn x) (upd (fun _=>0) (aN v) v.aQ),tn:=L.tn+1,t:=pE L.t (sO L.id L.nn x) x v.node }:=by
  unfold qL; rw[hx,A]; rfl
 generalize hkk:sO L.id L.nn x=k at *;have c:k<=L.nn:=by rw[<- hkk]; exact Fx.vY _ _
 have G : ∀ i,i<L.nn->L.id i≠x:=fun i a e=>vG.1 s i (by rw[h.Cn]; exact a) (by rw[(h.tid i a).1]; exact e);have C : ∀ q,k<=q->q<L.nn->x<L.id q:=fun q b g=>by
  have:=Fx.I4 (P:=fun i=>decide (x<L.id i)) (n:=L.nn) (i:=q) (by show sO L.id L.nn x<=q; omega) g;exact h_ this
 have B : ∀ q,q<k->L.id q<x:=fun q b=>by
  obtain⟨j,rfl⟩ : ∃ j,k=j+1:=⟨k-1,by omega⟩;have g:=Fx.I5 (P:=fun i=>decide (x<L.id i)) (n:=L.nn) (j:=j) hkk;have N : ¬ x<L.id j:=j_ g;have O:=G j (by omega);by_cases e:q=j
  ·subst e; omega
  ·have:=h.rise q j (by omega) (by omega); omega
 have H:L.nn<32:=by have:=h.Cn; omega
 have m : ∀ i j,i<j->j<L.nn+1->cu L.id k x i<cu L.id k x j:=fun i j V hj=>by
  rcases dU c (show i<L.nn+1 by omega)with rfl|⟨q,hq,eq,q1,q2⟩
  ·rcases dU c hj with rfl|⟨r,hr,er,r1,r2⟩
   ·omega
   ·rw[dF,er];exact C r (by omega) hr
  ·rcases dU c hj with rfl|⟨r,hr,er,r1,r2⟩
   ·rw[dF,eq];exact B q (by omega)
   ·rw[eq,er];exact h.rise q r (by omega) hr
 have p : ∀ i,i<L.nn+1->pE L.t k x v.node i 0=cu L.id k x i/\pE L.t k x v.node i 1=cu L.par k v.node i:=fun i a=>by
  rw[yP]
  rcases dU c a with rfl|⟨q,hq,eq,_,_⟩
  ·rw[dF,dF,dF]; exact⟨rfl,rfl⟩
  ·rw[eq,eq,eq]; exact h.tid q hq
 have E : ∀ i j,i<L.nn+1->j<L.nn+1->cu L.id k x i=cu L.id k x j->i=j:=fun i j a hj e=>by
  rcases Nat.lt_trichotomy i j with b|b|b
  ·have:=m i j b hj; omega
  ·exact b
  ·have:=m j i b a; omega
 have I:pJ L.t (pE L.t k x v.node) L.tn x v.node := {
  u:=h.agX
  u':=fun i j a hj e=>by
   rw[h.Cn]at a hj;rw[(p i a).1,(p j hj).1]at e;exact E i j a hj e
  no:=vG.1 s
  old:=fun i a=>by
   obtain⟨j,hj,_,e⟩:=Bg (k:=k) a;exact⟨j,hj,by rw[yP]; exact e L.t _⟩
  new:=⟨k,by have:=h.Cn; omega,by rw[yP,dF]; rfl,by rw[yP,dF]; rfl⟩
  back:=fun j hj=>by
   rw[h.Cn]at hj
   rcases dU c hj with rfl|⟨q,hq,eq,_,_⟩
   ·exact .inl (by rw[yP,dF]; rfl)
   ·exact .inr ⟨q,by rw[h.Cn]; exact hq,by rw[yP]; exact eq L.t _⟩ }
 exact⟨k,c,J,H,D,w,y,z,m,p,I⟩
theorem Qz(h:Inv0 L T)(c:bR v=true)(w:v.kind=1)(r:kF L v=0):Inv0 (qL L v) (T+1):=by
 obtain⟨k,a,m,K,s,g,n,p,B,E,F⟩:=wP h c w r;have I:=oh c;have J:=rO c;have C:=jT c;rw[p];generalize hx:jk v.o v.seq=x at *;have z : ∀ j,j<L.nn -> ∃ i,i<L.nn+1/\cu L.id k x i=L.id j:=fun j hj=>by
  obtain⟨i,hi,_,e⟩:=Bg (k:=k) hj;exact⟨i,hi,e L.id x⟩
 have H:bD L.t L.tn 0<0:=vG.2 fun i hi e=>by
  rw[h.Cn]at hi;rw[(h.tid i hi).1]at e;have:=h.pos i hi; omega
 have A:v.node=0 \/ ∃ j,j<L.nn/\L.id j=v.node:=by
  rcases g with e|e
  ·exact .inl e
  ·obtain⟨i,hi,d⟩:=iK.1 e;rw[h.Cn]at hi;exact .inr ⟨i,hi,by rw[<- (h.tid i hi).1]; exact d⟩
 exact {
  Cn:=by show L.tn+1=L.nn+1; rw[h.Cn]
  nn:=by show L.nn+1<=32; omega
  tid:=E
  rise:=B
  pos:=fun i hi=>by
   show 1<=cu L.id k x i
   rcases dU a hi with rfl|⟨q,hq,eq,_,_⟩
   ·rw[dF]; exact m
   ·rw[eq]; exact h.pos q hq
  top:=fun i hi=>by
   show cu L.id k x i<_
   rcases dU a hi with rfl|⟨q,hq,eq,_,_⟩
   ·rw[dF]; omega
   ·rw[eq]; exact h.top q hq
  up:=fun i hi=>by
   show cu L.par k v.node i=0 \/ ∃ j,j<L.nn+1/\cu L.id k x j=cu L.par k v.node i;have l : ∀ y,(y=0 \/ ∃ j,j<L.nn/\L.id j=y)->(y=0 \/ ∃ j,j<L.nn+1/\cu L.id k x j=y):=fun y G=>G.imp id fun⟨j,hj,e⟩=>by
    obtain⟨i,hi,d⟩:=z j hj;exact⟨i,hi,d.trans e⟩
   rcases dU a hi with rfl|⟨q,hq,eq,_,_⟩
   ·rw[dF]; exact l _ A
   ·rw[eq]; exact l _ (h.up q hq)
  dep:=by
   show ∀ y,∃ D,D<=4/\bD (pE L.t k x v.node) (L.tn+1) (aU (pE L.t k x v.node) (L.tn+1) D y)<0;refine F.dep m (fun i hi => ?_) g H h.dep n;have f:=hi;rw[h.Cn]at f;rw[(h.tid i f).2]
   rcases h.up i f with e|⟨j,hj,e⟩
   ·exact .inl e
   ·exact .inr (iK.2 ⟨j,by rw[h.Cn]; exact hj,by rw[(h.tid j hj).1]; exact e⟩)
  gn:=Nat.le_succ_of_le h.gn
  rn:=fun i hi=>Nat.le_succ_of_le (h.rn i hi)
  may:=fun i hi=>by
   show may (cu L.R k _ i)=true
   rcases dU a hi with rfl|⟨q,hq,eq,_,_⟩
   ·rw[dF]; exact Yk C s.1 (by omega)
   ·rw[eq]; exact h.may q hq
  g47:=fun i hi b u=>by
   show cu L.R k _ i b<=_
   rcases dU a hi with rfl|⟨q,hq,eq,_,_⟩
   ·rw[dF];show(if b=aN v then v.aQ else 0)<=_;split <;> omega
   ·rw[eq]; exact h.g47 q hq b u
  kn:=h.kn }
theorem H6{b:fA}{T':Nat}(h:Inv0 L T)(c:b.nn=L.nn)(d:b.id=L.id)(f:b.par=L.par)(g:b.tn=L.tn)(j:b.t=L.t)(m:b.known=L.known)(n:b.gn<=T')(hr : ∀ i,i<6->b.rn i<=T')
 (l : ∀ k,k<L.nn->may (b.R k)=true /\ ∀ a,a<6->b.R k a<=140737488355328):Inv0 b T' where
 Cn:=by rw[c,g]; exact h.Cn
 nn:=by rw[c]; exact h.nn
 tid:=by rw[c,d,f,j]; exact h.tid
 rise:=by rw[c,d]; exact h.rise
 pos:=by rw[c,d]; exact h.pos
 top:=by rw[c,d]; exact h.top
 up:=by rw[c,d,f]; exact h.up
 dep:=by rw[g,j]; exact h.dep
 gn:=n
 rn:=hr
 may:=by rw[c]; exact fun k e=>(l k e).1
 g47:=by rw[c]; exact fun k e=>(l k e).2
 kn:=by rw[m]; exact h.kn
def uH(x:Nat->Int):Prop:=may x=true /\ ∀ a,a<6->x a<=140737488355328
theorem FB{f:(Nat->Int)->(Nat->Int) × Int}{idx:Nat->Nat}{R:Nat->Nat->Int}{n:Nat}(g : ∀ x,uH x->(f x).2=0->uH (f x).1)(d : ∀ k,k<n->uH (R k)) : ∀ K k,k<n->uH ((cZ f idx R K).1 k)
 | 0,k,hk=>d k hk
 | K+1,k,hk=>by
   have a:=FB g d (idx:=idx) K;unfold cZ;by_cases e:(cZ f idx R K).2=0
   ·rw[d_ e];by_cases b:(f ((cZ f idx R K).1 (idx K))).2=0
    ·rw[d_ b];show uH (if k=idx K then _ else _);by_cases c:k=idx K
     ·rw[d_ c]; exact g _ (by rw[<- c]; exact a k hk) b
     ·rw[b_ c]; exact a k hk
    ·rw[b_ b]; exact a k hk
   ·rw[b_ e]; exact a k hk
theorem Yl{x:Nat->Int}{i n:Int}(h:uH x)(c:(bH x i n).2=0):uH (bH x i n).1:=by
 obtain⟨a,g,_,_,_,_,_,f,_,_,_,e⟩:=Jl c;exact⟨f,fun b d=>by rw[e,gN _ _ _ _ (by omega)]; exact h.2 b d⟩
theorem Ym{x:Nat->Int}{i n:Int}(h:uH x)(c:(bI x i n).2=0):uH (bI x i n).1:=by
 obtain⟨a,g,_,_,_,_,f,_,_,_,e⟩:=Jm c;exact⟨f,fun b d=>by rw[e,gN _ _ _ _ (by omega)]; exact h.2 b d⟩
theorem Yn{x:Nat->Int}{i j n:Int}(h:uH x)(d:(dn x i j n).2=0):uH (dn x i j n).1:=by
 obtain⟨a,b,k,l,_,_,_,_,_,_,g,e⟩:=Bb d;exact⟨g.may,fun c f=>by rw[e,gN _ _ _ _ (by omega)]; exact h.2 c f⟩
theorem Uw{x:Nat->Int}{a:Nat}{n:Int}(ha:a<6)(h:uH x)(s:0<=n)(q : ¬ 140737488355328<x a+n):uH (upd x a (x a+n)):=by
 have d:=(jS x).1 h.1;have e : ∀ p,upd x a (x a+n) p=if p=a then x a+n else x p:=fun p=>rfl;have t:=d.1 a (by omega);have c : ∀ b,b<6->upd x a (x a+n) b<=140737488355328:=fun b l=>by
  rw[e]; split
  ·omega
  ·exact h.2 b l
 refine⟨(jS _).2 ⟨fun p o => ?_,fun k m => ?_,?_⟩,c⟩
 ·have:=d.1 p o;rw[e]; split <;> omega
 ·obtain⟨r,i,j⟩:=d.2.1 k m;have f:C (upd x a (x a+n)) k=C x k:=by unfold C; rw[e,b_ (by omega)]
  have g:F (upd x a (x a+n)) k=F x k:=by unfold F; rw[e,b_ (by omega)]
  refine⟨?_,?_,?_⟩
  ·rw[Uj x a (by omega),f,g,agF]; split <;> omega
  ·rw[f,g]; exact i
  unfold R; rw[e,b_ (by omega)]; exact j
 unfold sK G;have:=c 0 (by omega); have:=c 1 (by omega); have:=c 2 (by omega); have:=c 3 (by omega); have:=c 4 (by omega); have:=c 5 (by omega);omega
theorem Inv0.K7(h:Inv0 L T) : ∀ k,k<L.nn->uH (L.R k):=fun k a=>⟨h.may k a,h.g47 k a⟩
theorem OJ(h:Inv0 L T)(a:Nat) : ∀ i,i<6->aI L.rn a (L.rn a+1) i<=T+1:=fun i b=>by
 unfold aI;by_cases e:i=a
 ·subst e; rw[d_ rfl]; have:=h.rn i b; omega
 ·rw[b_ e]; have:=h.rn i b; omega
theorem OL{q:Nat}{r:Nat->Int}(h : ∀ k,k<L.nn->uH (L.R k))(hr:uH r) : ∀ k,k<L.nn->uH (aI L.R q r k):=fun k a=>by
 unfold aI; split
 ·exact hr
 ·exact h k a
theorem Inv0.OM(h:Inv0 L T){x:Int}(hx : ¬ L.node x<0):(L.node x).toNat<L.nn:=by
 rw[h.node]at hx ⊢;obtain⟨j,a,e,_⟩:=vo (show 0<=bD L.t L.tn x by omega);rw[e]; have:=h.Cn; simp; omega
theorem QA(h:Inv0 L T)(a : ∀ k,k<L.nn->uH ((nH L v).1 k)):Inv0 (mo L v) (T+1):=by
 unfold mo qO;generalize nH L v=W at a;exact H6 h rfl rfl rfl rfl rfl rfl (Nat.succ_le_succ h.gn) (OJ h _) a
theorem QC(h:Inv0 L T)(a : ∀ k,k<L.nn->uH ((mD L v).1 k)):Inv0 (kH L v) (T+1):=by
 unfold kH qO;generalize mD L v=W at a;exact H6 h rfl rfl rfl rfl rfl rfl (Nat.le_succ_of_le h.gn) (OJ h _) a
theorem Ux(h:Inv0 L T)(f:bR v=true)(a:dZ L v=0):Inv0 (iw L v) (T+1):=by
 have q:=jg f;have o:=jT f;have e:=h.gn;have d : ∀ i,i<6->L.rn i<=T+1:=fun i n=>Nat.le_succ_of_le (h.rn i n);unfold dZ at a;unfold iw;by_cases b:v.kind=1
 ·rw[d_ b]at a ⊢; exact Qz h f b a
 by_cases c:v.kind=2
 ·rw[b_ b,d_ c]at a ⊢;unfold wO at a;split at a; · cases a
  rename_i n1;split at a; · cases a
  rename_i n2;have p:=lI f (.inl c);exact H6 h rfl rfl rfl rfl rfl rfl (Nat.le_succ_of_le e) d (OL h.K7 (Uw o (h.K7 _ (h.OM n1)) (by omega) n2))
 by_cases g:v.kind=3
 ·rw[b_ b,b_ c,d_ g]at a ⊢;have j : ∀ k,k<L.nn->uH ((nH L v).1 k):=by unfold nH; exact FB (fun x=>Yl) h.K7 _
  exact QA h j
 by_cases l:v.kind=4
 ·rw[b_ b,b_ c,b_ g,d_ l]at a ⊢;have j : ∀ k,k<L.nn->uH ((mD L v).1 k):=by unfold mD; exact FB (fun x=>Ym) h.K7 _
  exact QC h j
 by_cases m:v.kind=5
 ·rw[b_ b,b_ c,b_ g,b_ l,d_ m]at a ⊢;unfold pI at a;split at a; · cases a
  rename_i n1;split at a; · cases a
  exact H6 h rfl rfl rfl rfl rfl rfl (Nat.le_succ_of_le e) d (OL h.K7 (Yn (h.K7 _ (h.OM n1)) a))
 rw[b_ b,b_ c,b_ g,b_ l,b_ m];split
 ·exact H6 h rfl rfl rfl rfl rfl rfl (Nat.le_succ_of_le e) d h.K7
 exact H6 h rfl rfl rfl rfl rfl rfl (Nat.le_succ_of_le e) d h.K7
theorem Ag(h:Inv0 L T):Inv0 (dh L v) (T+1):=by
 unfold dh;by_cases a:bG L v=0
 ·rw[d_ a];unfold bG at a;split at a; · cases a
  rename_i h1;split at a; · cases a
  split at a; · cases a
  rename_i h3;split at a; · cases a
  have b:bR v=true:=by simpa using h1
  have c:dH L.known v=true:=by simpa using h3
  have g:=Ux h b a;have k:=jT b;have m:=D6 b;refine { g with kn:=fun i j => ?_ };have e:(HY (iw L v) v).known=aI L.known (aN v) (L.known (aN v)+1):=by unfold HY; simp only[qg]
  rw[e];unfold dH at c;simp only[S_,decide_eq_true_eq]at c;have d:=h.kn;unfold aI;split
  ·have f:=c.1.2;have l:v.seq=L.known (aN v)+1:=f;have:=d (aN v) k;omega
  exact d i j
 rw[b_ a]; exact h.mono (Nat.le_succ T)
end
end Rt
end
end Go.Proofs.YtcbedgfikejkoaaGreatDoor
