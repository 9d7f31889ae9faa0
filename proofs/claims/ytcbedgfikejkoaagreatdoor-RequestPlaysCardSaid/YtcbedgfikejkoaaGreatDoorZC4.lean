/-
  What the proof of the law rests on, part 4: walks of functions, and plain laws; each says its conditions itself.
-/
import Derived.Laws.StructEq
import Derived.Test.YtcbedgfikejkoaaGreatDoorZC3
set_option maxHeartbeats 1600000
set_option linter.unusedVariables false
set_option linter.unusedSimpArgs false
namespace Go.Proofs.YtcbedgfikejkoaaGreatDoor
open Go.RowKit Rt
open Fx (fI gu aZ dD dY dR Lv sN Ln Ws Qv Wl Rp Wr Sb Wk rC sR Rs Rn Rd Rk Wb Wx Wo Wt qW Qn zi zP D6 qU fQ zQ wm xM zO zn zY rv aA aP bC ev cO Stp aN flat dF aR iV bf down bL bK cells_one jm bB nE jU iM bX dI bM bS cB bZ gW iG pE fE)
set_option maxRecDepth 20000 in
set_option maxHeartbeats 1000000 in
theorem adp(m:kV)(p:Nat)(w:World)(h:Cx w p m)(bn1:m.s.nn<=1000)(bt1:m.tn<=1000) :
 Calls Tryz.prog 81 #[(pt p)] w fun e w' => ∃ p' m',e = .returned (pt p')/\m'.core=m.core/\rX w' w.heap.size p' m'/\Below w.heap.size w w':=by
 have P:=h.c;have lp:p<w.heap.size:=P.lt (by omega);have bn:=h.bn;have bg:=h.bg;have bt:=h.bt;have han:=h.an;have hag:=h.ag;have hat:=h.at2;have htc:=h.tc;have R8:m.tb<w.heap.size:=htc.lt (by omega);refine Kent Tryz.func81 79 ?_;refine ay<|av (.pointer none)<|aD<|ay<|av (pt p)<|av (pt p)<|av (pt p)<|Lv (.agg (aA 20 (lS m.s))) (eT P 0 (fun j hj=>(show kN _ (0+j)=lS _ j by rw[G_]; exact jX _ hj rfl)))<|av (.agg (aA 1 (fun _ => .slice none 0 0)))<|om fun b w1 kM m1 s1 z1 => ?_;have⟨m2,m3,b1⟩:=gL s1.old P htc (Below.refl w.heap.size w);have qZ:=gI kM;have mJ:p≠b:=by rw[kM]; exact u_ (P.lt (by omega))
 have UU:m.tb≠b:=by rw[kM]; exact u_ (htc.lt (by omega))
 have sF:=m1.lt;refine av (.agg (aA 27 (bC (bC zL0 0 20 (lS m.s)) 20 1 (fun _=>(pt b)))))<|D6 (m:=27) (y:=bC (bC zL0 0 20 (lS m.s)) 20 1 (fun _=>(pt b))) (by rfl) rfl rfl (bK _ _) rfl fun a w2 X m4 s2 z2 => ?_;have⟨m5,m6,m7,b2⟩:=jw s2.old m2 m3 m1 b1;have pK:=iw X b1.size;have Fz:p≠a:=by rw[X]; exact u_ (m2.lt (by omega))
 have abj:m.tb≠a:=by rw[X]; exact u_ (m3.lt (by omega))
 have Iq:=cu X m1.lt;have xR:=m4.lt;refine av (pt a)<|aD<|ay<|av (pt a)<|Fx.L.OX (s:=56) (by rfl) rfl Tryz.underlying47 (by kernel_rfl) rfl fun g3 w3 uI hO1 s3 => ?_;have R:Fx.Own w3 w.heap.size 84 56 (bO g3 0 0) 0 (Kw m):=hO1 _ _ (by rw[uI]; exact b2.size);have⟨m9,m10,m11,m12,U⟩:=lJ s3.old m5 m6 m7 m4 b2;refine av (pt p)<|av (pt p)<|av (pt p)<|av (pf p 18)<|Lv (.slice m.s.na (m.s.nn) (m.s.nc)) (aL m9 18)<|Fx.L.Jo (B:=w.heap.size) (s:=56) (bytes:=448) (k:=0) (m:=m.s.nn) (v:=bO g3 0 0) (x:=Kw m) (by rfl) rfl rfl rfl Tryz.underlying47 (by kernel_rfl) (by kernel_rfl) rfl rfl R (han.up U rfl) (fun j _=>YJ m j) (by omega) (by omega) U.size fun vv1 w4 ho1 Z wR => ?_;rw[G_]at ho1;obtain⟨C,E,rfl⟩:=ho1.val;have fO:=zQ Z R;have m14:=m9.grown Z (R.not (by omega));have m15:=m10.grown Z (R.not (by omega));have⟨m16,m17⟩:=xZ fO m11 m12;have m13:Fx.Own w4 w.heap.size 84 56 (.slice C (m.s.nn) (E)) m.s.nn (Kw m):=(ho1.congr (fun j _=>app0 j));have b4:Below w.heap.size w w4:=zO U Z U.size (fun q l=>(R.ge l).1);refine av (pt a)<|av (pt a)<|av (pf a 18)<|jv m17 18 (.slice C (m.s.nn) (E)) fun w5 m18 s4 z3 => ?_;have m19:=m14.bW s4 (by omega);have m20:=m15.bW s4 (by omega);have jJ:=fQ s4 m17.ty;have⟨m21,m22⟩:=xZ jJ m16 m13;have b5:=s4.below b4 b4.size (by omega);refine aD<|ay<|av (pt a)<|Fx.L.OX (s:=5) (by rfl) rfl Tryz.underlying48 (by kernel_rfl) rfl fun g4 w6 Ku hO2 s5 => ?_;have Q:Fx.Own w6 w.heap.size 106 5 (bO g4 0 0) 0 (JI m):=hO2 _ _ (by rw[Ku]; exact b5.size);have⟨m24,mM,mU,oo,ou,V⟩:=qY s5.old m19 m20 m21 m22 m18 b5;refine av (pt p)<|av (pt p)<|av (pt p)<|av (pf p 19)<|Lv (.slice m.s.ga (m.s.gn) (m.s.gc)) (aL m24 19)<|Fx.L.Jo (B:=w.heap.size) (s:=5) (bytes:=40) (k:=0) (m:=m.s.gn) (v:=bO g4 0 0) (x:=JI m) (by rfl) rfl rfl rfl Tryz.underlying48 (by kernel_rfl) (by kernel_rfl) rfl rfl Q (hag.up V rfl) (fun j _=>YK m j) (by omega) (by omega) V.size fun vv2 w7 ho2 aa NI => ?_;rw[G_]at ho2;obtain⟨D,F,rfl⟩:=ho2.val;have nQ:=zQ aa Q;have nk:=m24.grown aa (Q.not (by omega));have lI:=mM.grown aa (Q.not (by omega));have⟨m32,oU,nH⟩:=Bp nQ mU oo ou;have nG:Fx.Own w7 w.heap.size 106 5 (.slice D (m.s.gn) (F)) m.s.gn (JI m):=(ho2.congr (fun j _=>app0 j));have b7:Below w.heap.size w w7:=zO V aa V.size (fun q l=>(Q.ge l).1);refine av (pt a)<|av (pt a)<|av (pf a 19)<|jv nH 19 (.slice D (m.s.gn) (F)) fun w8 nR s6 z4 => ?_;have mO:=nk.bW s6 (by omega);have qy:=lI.bW s6 (by omega);have ru:=fQ s6 nH.ty;have⟨pX,pY,tZ⟩:=Bp ru m32 oU nG;have b8:=s6.below b7 b7.size (by omega);refine aD<|Ws ?_;refine zY [0,1,2,4,5,6,11,12,13,3,7,8,9,10,14,15,16,17,18,19,20,21] [0,0,0,1,0,0,0,4,0,0,4,0,0,0,4,0,0,4,2,0,0,3] (jm [153]) wm Fx.jm.trans (fK := [(21,3,[3]),(18,7,[10,9,8,7]),(21,7,[7]),(18,10,[10]),(21,10,[10]),(18,14,[17,16,15,14]),(21,14,[14]),(18,17,[17]),(21,17,[17]),(19,18,[18]),(20,18,[18]),(21,18,[18])]) (by kernel_rfl) (by kernel_rfl) (by kernel_rfl) (by kernel_rfl) (by kernel_rfl) fun K dN iE => ?_;have⟨mP,mQ,mV,pI,qb,oV,W⟩:=kg dN mO qy pX pY tZ nR b8;refine aX (pt a)<|aX (pt a)<|aX (pf a 20)<|aX (pt a)<|aX (pt a)<|aX (pf a 20)<|aX (pt p)<|aX (pt p)<|aX (pf p 20)<|Rd (v:=(pt b)) (by rfl) (by rfl) (wm _) (fun v1 hv1=>aZ (x:=dF (dF (bC (bC zL0 0 20 (lS m.s)) 20 1 (fun _=>(pt b))) 18 (.slice C (m.s.nn) (E))) 19 (.slice D (m.s.gn) (F))) rfl rfl (by kernel_rfl) (oV.lu hv1 (by decide)).aH (i:=20) (by omega) (by omega) (Fx.Bj (by omega) (Fx.Bj (by omega) (Fx.qV (j:=0) (by omega) (by omega) rfl)))) ?_;refine Rs (pt b) (aL oV.aH 20 (Fx.Bj (by omega) (Fx.Bj (by omega) (Fx.qV (j:=0) (by omega) (by omega) rfl)))) ?_;refine aX (pt b)<|aX (pt b)<|Rs (.slice none 0 0) (aL mV.aH 0) ?_;refine Rs (pt m.tb) (aL mP 20) ?_;refine aX (pt m.tb)<|aX (pt m.tb)<|Rs (.slice m.ta (m.tn) (m.tc)) (aL mQ 0) ?_;refine yw<|Fx.L.Jo (B:=w.heap.size) (s:=2) (bytes:=16) (k:=0) (m:=m.tn) (v := .slice none 0 0) (x:=QZ m.t) (by rfl) rfl rfl rfl Tryz.underlying154 (by kernel_rfl) (by kernel_rfl) rfl rfl (xM K w.heap.size 153 2 (QZ m.t)) (hat.up W rfl) (fun _ _=>rfl) (by omega) (by omega) W.size fun vv3 w9 ho3 A awI => ?_;rw[G_]at ho3
 obtain⟨u,z,rfl⟩:=ho3.val;have yc:=zQ A (xM K w.heap.size 153 2 (QZ m.t));have hq1:Below K.heap.size K w9:=⟨A.os,A.tape,A.output,A.size,fun q l=>A.block q l (fun e=>by cases e)⟩
 have uQ:=mP.bW (Sb hq1) (u_ (mP.lt (by omega)));have hq2:Below K.heap.size K w9:=⟨A.os,A.tape,A.output,A.size,fun q l=>A.block q l (fun e=>by cases e)⟩
 have sH:=mQ.bW (Sb hq2) (u_ (mQ.lt (by omega)));have⟨qD,sI,uR,sJ⟩:=Jt yc mV pI qb oV;have sG:Fx.Own w9 w.heap.size 153 2 (.slice u (m.tn) (z)) m.tn (QZ m.t):=(ho3.congr (fun j _=>app0 j));have b10:Below w.heap.size w w9:=zO W A W.size (fun q l=>((xM K w.heap.size 153 2 (QZ m.t)).ge l).1);refine Ln ⟨yc,?_⟩;refine aX (pt b)<|aX (pt b)<|ig<|jv qD 0 (.slice u (m.tn) (z)) fun rW uS s8 z5 => ?_;have wo:aP rW b 1 (fun _ => .slice u (m.tn) (z)) 156:=dI uS;have uf:=uQ.bW s8 (by omega);have sK:=sH.bW s8 (by omega);have yg:=fQ s8 qD.ty;have⟨ug,wS,rz,uo⟩:=Jt yg sI uR sJ sG;have b11:=s8.below b10 b10.size (by omega);refine Ln<|bQ<|Ws<|ay<|av (au 0)<|aD<|Wb ?_;have pJ:aP rW a 27 (kN (Lr m C E D F b u z (fun _=>none) (fun _=>0) 0)) 56:=rz.congr (fun j hj=>by rcases j with _|_|_|_|_|_|_|_|_|_|_|_|_|_|_|_|_|_|_|_|_|_|_|_|_|_|_|j <;> first|rfl|omega)
 have uh:=xq.zero rW w.heap.size (Lr m C E D F b u z (fun _=>none) (fun _=>0) 0);refine Wo (fun f H => ∃ k:Nat,∃ I:Nat->Option Addr,∃ J:Nat->Nat,k<=6/\f 0=(pt p)/\f 3=(pt a)/\f 4=au (k:Int)/\iV H p 0 27 (kN m)/\Fx.Own H w.heap.size 84 56 (.slice C (m.s.nn) (E)) m.s.nn (Kw m)/\Fx.Own H w.heap.size 106 5 (.slice D (m.s.gn) (F)) m.s.gn (JI m)/\Fx.Own H w.heap.size 153 2 (.slice u (m.tn) (z)) m.tn (QZ m.t)/\aP H b 1 (fun _ => .slice u (m.tn) (z)) 156/\aP H a 27 (kN (Lr m C E D F b u z I J k)) 56/\xq H w.heap.size k (Lr m C E D F b u z I J k)/\Below w.heap.size w H) (fun f _=>(6-(intOf (f 4)).toNat)) ⟨0,(fun _=>none),(fun _=>0),by omega,(by rfl),(by rfl),Fx.ic,uf,ug,wS,uo,wo,pJ,uh,b11⟩ ?_;rintro f1 Ec ⟨k,I,J,hk,h1,Y,M,m64,wT,wu,uT,yh,sM,wz,b12⟩;refine Ws<|ay<|aW M ?_;by_cases c57:(k:Int)<6
 ·refine Lv aG (gY c57)<|aD<|aM<|Wk<|sN<|Ws<|Wb ?_;have brk:=h.br k (by omega);have uH:=P.below b12 lp;refine zY [0,1,2,3,4,5,6,8,9,10,11,12,15,16,7,13,14,17,18] [0,0,0,0,0,0,0,4,0,0,0,0,0,4,2,0,0,0,3] (jm [23]) wm Fx.jm.trans (fK := [(14,7,[7]),(18,7,[7]),(14,13,[13]),(18,13,[13]),(17,14,[14]),(18,14,[14])]) (by kernel_rfl) (by kernel_rfl) (by kernel_rfl) (by kernel_rfl) (by kernel_rfl) fun G gK nU => ?_;have⟨wB,wC,Ah,wD,zR,yJ,zw,xQ,T⟩:=Ck gK m64 wT wu uT yh sM wz uH b12;refine bV Y<|bV M<|bV Y<|bV M<|aX (pt a)<|aX (pf a 21)<|Rp (pf a (k+21)) (fun _=>jV 6 1)<|bV h1<|bV M<|aX (pt p)<|aX (pf p 21)<|Rp (pf p (k+21)) (fun _=>jV 6 1)<|aX (pt a)<|aX (pf a 21)<|Rs (.slice none 0 0) (aL yJ.aH (k+21) (YM (by omega))) ?_;refine Rs (.slice (m.ra k) (m.rn k) (m.rc k)) (aL wB (k+21) (xk _ (by omega))) ?_;refine yw<|Fx.L.Jo (B:=w.heap.size) (s:=1) (bytes:=8) (k:=0) (m:=(m.rn k)) (v := .slice none 0 0) (x:=rv .u64 (m.rq k)) (by rfl) rfl rfl rfl Tryz.underlying53 (by kernel_rfl) (by kernel_rfl) rfl rfl (xM G w.heap.size 23 1 (rv .u64 (m.rq k))) ((h.ar k (by omega)).up T rfl) (fun _ _=>rfl) (by omega) (by omega) T.size fun vv4 S ho4 d amR => ?_;rw[G_]at ho4;obtain⟨N,O,rfl⟩:=ho4.val;have BH:=zQ d (xM G w.heap.size 23 1 (rv .u64 (m.rq k)));have hq3:Below G.heap.size G S:=⟨d.os,d.tape,d.output,d.size,fun q l=>d.block q l (fun e=>by cases e)⟩
  have wV:=wB.bW (Sb hq3) (u_ (wB.lt (by omega)));have⟨yK,Ar,yL,BA,Bf⟩:=rT BH wC Ah wD zR yJ;have hq4:Below G.heap.size G S:=⟨d.os,d.tape,d.output,d.size,fun q l=>d.block q l (fun e=>by cases e)⟩
  have Bg:=zw.up hq4;have hq5:Below G.heap.size G S:=⟨d.os,d.tape,d.output,d.size,fun q l=>d.block q l (fun e=>by cases e)⟩
  have Au:=xQ.bW (Sb hq5) (u_ (xQ.lt (by omega)));have wU:Fx.Own S w.heap.size 23 1 (.slice N (m.rn k) (O)) (m.rn k) (rv .u64 (m.rq k)):=(ho4.congr (fun j _=>app0 j));have b14:Below w.heap.size w S:=zO T d T.size (fun q l=>((xM G w.heap.size 23 1 (rv .u64 (m.rq k))).ge l).1);have hf1:=zw.fresh amR;refine Ln ⟨BH,?_⟩;refine Rp (pf a (k+21)) (fun _=>jV 6 1)<|ig<|jv Bf (k+21) (.slice N (m.rn k) (O)) fun Fh Av ab z6 => ?_;have BD:=wV.bW ab (by omega);have FB:=fQ ab Bf.ty;have⟨Fp,Eh,CB,Dz,AB⟩:=rT FB yK Ar yL BA Bg;have GJ:=Au.bW ab (by omega);have EA:=iW FB wU;have b15:=ab.below b14 b14.size (by omega);refine Ln<|Rn<|bS<|sN<|Wl<|aW M<|Lv (au ((k:Int)+1)) fH<|av (au ((k:Int)+1))<|Ln ?_;have GL:aP Fh a 27 (kN (Lr m C E D F b u z (aI I k N) (aI J k O) (k+1))) 56:=Av.to (UR (by omega));have GZ:xq Fh w.heap.size (k+1) (Lr m C E D F b u z (aI I k N) (aI J k O) (k+1)):=YN AB EA hf1
  skip
  refine iG ⟨k+1,(aI I k N),(aI J k O),by omega,h1,Y,Fx.ic,BD,Fp,Eh,CB,Dz,GL,GZ,b15⟩ ?_;show(6-(intOf (au ((k:Int)+1))).toNat)<_;simp only[M,intOf]; omega
 refine Lv aF (gZ c57)<|aD<|aK<|Wx<|cB<|gW<|bZ<|sN<|ay<|aW Y<|av (pt a)<|aD<|Wr<|aJ (pt a) ?_;have ek:k=6:=by omega
 subst ek;exact⟨a,atM m C E D F b u z I J,rfl,rfl,{ c:=sM.congr ahC,n:=wT,g:=wu,tc:=yh,t:=uT,r:=YO wz,pB:=pK,tB:=qZ,bn:=bn1,bg:=bg,bt:=bt1,br:=h.br },b12⟩
namespace Rt
def ny(id:Nat->Int)(o:Int):Nat->Nat
 | 0=>0
 | n+1=>ny id o n+if id n / 1099511627776=o then 1 else 0
theorem UW{id:Nat->Int}{o:Int}{c k:Nat}(h:c=ny id o k)(e:id k / 1099511627776=o):c+1=ny id o (k+1):=by unfold ny; rw[d_ e,h]
theorem YP{id:Nat->Int}{o:Int}{c k:Nat}(h:c=ny id o k)(e : ¬ id k / 1099511627776=o):c=ny id o (k+1):=by unfold ny; rw[b_ e,h]; rfl
noncomputable def kW(L:eP)(v:EvM):Int:=if 5<=ny L.id v.o L.nn\/140737488355328<v.aT then 6 else jQ L.t L.tn (jF v.o v.seq) v.node
def tK(f:Nat->Int)(n:Nat)(x:Int):Nat:=down (fun i=>decide (x<f i)) n
def rD(L:eP)(v:EvM):eP :=
 { L with nn:=L.nn+1,id:=cO L.id (tK L.id L.nn (jF v.o v.seq)) (jF v.o v.seq),par:=cO L.par (tK L.id L.nn (jF v.o v.seq)) v.node,
          R:=cO L.R (tK L.id L.nn (jF v.o v.seq)) (upd (fun _=>0) (v.o-1).toNat v.aT),
          tn:=L.tn+1,t:=qg L.t (down (fun i=>decide (jF v.o v.seq<L.t i 0)) L.tn) (jF v.o v.seq) v.node }
theorem UY{id par:Int}(j:Nat):bC (bC zK0 0 1 (fun _=>aC id)) 1 1 (fun _=>aC par) j=mZ id par (fun _=>0) j:=by
 unfold bC mZ;by_cases a:j=0
 ·subst a; rfl
 by_cases b:j=1
 ·subst b; rfl
 rw[b_ (by omega),b_ (by omega),b_ a,b_ b]; show(if j<2 then _ else _)=_; rw[b_ (by omega)]
theorem Pt{id par:Int}{R:Nat->Int}{a q:Nat}{x:Int}(d:q=a+2):dF (mZ id par R) q (au x)=mZ id par (upd R a x):=by
 subst d
 funext p
 unfold dF mZ upd;by_cases h:p=a+2
 ·subst h; rw[d_ rfl,b_ (by omega),b_ (by omega),d_ (by omega)]
 rw[b_ h];by_cases b:p=0
 ·rw[d_ b,d_ b]
 by_cases c:p=1
 ·rw[b_ b,d_ c,b_ b,d_ c]
 rw[b_ b,b_ c,b_ b,b_ c,b_ (by omega)]
theorem Pv{id par:Nat->Int}{R:Nat->Nat->Int}{k:Nat}{a b:Int}{c:Nat->Int}:Fx.Jq (fun d=>mZ (id d) (par d) (R d)) k (mZ a b c)=fun d=>mZ (cO id k a d) (cO par k b d) (cO R k c d):=by
 funext i
 unfold Fx.Jq cO;by_cases h:i<k
 ·simp only[d_ h]
 by_cases e:i=k
 ·simp only[b_ h,d_ e]
 simp only[b_ h,b_ e]
theorem Ir(m:kV)(a:Option Addr)(n c:Nat):dF (kN m) 18 (.slice a n c)=kN { m with s := { m.s with na:=a,nn:=n,nc:=c } }:=by
 funext p
 unfold dF kN;by_cases h:p=18
 ·subst h; rfl
 rw[b_ h];by_cases e:p<20
 ·rw[d_ e,d_ e]; unfold lS;by_cases b:p<6
  ·rw[d_ b,d_ b]
  by_cases d:p<12
  ·rw[b_ b,d_ d,b_ b,d_ d]
  by_cases f:p<18
  ·rw[b_ b,b_ d,d_ f,b_ b,b_ d,d_ f]
  rw[b_ b,b_ d,b_ f,b_ h,b_ b,b_ d,b_ f,b_ h]
 rw[b_ e,b_ e]
theorem zB{s:Nat}{z y:Nat->Value}(hy : ∀ j,(y j).oneCell'=true) : ∀ j,j<1*s->(bC z (0*s) s y j).oneCell'=true:=fun j a=>by
 unfold bC; rw[d_ (by omega)]; exact hy _
theorem UZ{f:Nat->Int}{n k j:Nat}{x:Int}(e:k=j+1)(h : ∀ i,k<=i->i<n->x<f i)(c:x<f j) : ∀ i,j<=i->i<n->x<f i:=fun i d b=>by
 by_cases a:i=j
 ·subst a; exact c
 ·exact h i (by omega) b
end Rt
theorem Rt.Ls{t:Nat->Nat->Int}{tn:Nat}{id par:Int}(h:jQ t tn id par=0):tn+1<=33:=by
 unfold jQ at h;split at h; · cases h
 split at h; · cases h
 split at h; · cases h
 split at h; · cases h
 rename_i h4
 rcases Nat.lt_or_ge tn 32 with h5|h5
 ·omega
 exact M_ (Or.inl h5) h4
set_option maxRecDepth 20000 in
set_option maxHeartbeats 2000000 in
theorem YQ(m:kV)(B p a D:Nat)(v:EvM)(w:World)(C:rX w B p m)(u:B<=w.heap.size)(ha:a<6)(ho:v.o=(a:Int)+1)(bnn:m.s.nn<=900)(hD:bE m.t m.tn (bH m.t m.tn D v.node)<0)(hD2:D<=1000) :
 Calls Tryz.prog 124 #[(pt p),.agg (aA 14 (bJ v))] w fun e w'=>e = .returned (au (kW m.core v))/\Below B w w'/\(kW m.core v=0 -> ∃ m',m'.core=rD m.core v/\rX w' B p m'):=by
 have U0:=C.c;have hLn:=C.n;have hLg:=C.g;have U1:=C.tc;have U2:=C.t;have hLr:=C.r;have U3:=C.pB;have Ei:=C.tB;have bn:=C.bn;have bg:=C.bg;have bt:=C.bt;have YR:p<w.heap.size:=U0.lt;have R8:m.tb<w.heap.size:=U1.lt;refine Kent Tryz.func124 132 ?_;refine ay<|om fun I w1 kM m1 s1 z1 => ?_;have⟨m2,m3,m4,m5,m6,m7⟩:=qY s1.old U0 hLn hLg U1 U2 hLr;have b1:=fA s1.old (Below.refl B w) u;have qZ:=iw kM (Below.refl B w).size;have⟨mJ,xV⟩:=oQ kM U0.lt U1.lt;have sF:=m1.lt;refine av (au 0)<|aD<|ay<|av (au 0)<|aD<|Ws<|ay<|av (au 0)<|aD<|Wb<|Wo (fun f z => ∃ k:Nat,∃ G:Nat,k<=m.s.nn/\G<=k/\G=ny m.id v.o k/\f 0=(pt p)/\f 3=(pt I)/\f 5=au (G:Int)/\f 6=au (k:Int)/\aP z p 27 (kN m) 56/\Fx.Own z B 84 56 (.slice m.s.na (m.s.nn) (m.s.nc)) m.s.nn (Kw m)/\Fx.Own z B 106 5 (.slice m.s.ga (m.s.gn) (m.s.gc)) m.s.gn (JI m)/\aP z m.tb 1 (fun _ => .slice m.ta m.tn m.tc) 156/\Fx.Own z B 153 2 (.slice m.ta (m.tn) (m.tc)) m.tn (QZ m.t)/\xq z B 6 m/\aP z I 14 (bJ v) 37/\Below B w z) (fun f _=>(m.s.nn-(intOf (f 6)).toNat)) ⟨0,0,by omega,by omega,rfl,(by rfl),(by rfl),Fx.ic,Fx.ic,m2,m3,m4,m5,m6,m7,m1,b1⟩ ?_;rintro f1 O ⟨k,G,hk,hcl,aa,J,K,h3,Y,m8,m9,m10,m11,m12,m13,W,b2⟩;refine Ws<|ay<|aW Y<|aW J<|av (pt p)<|av (pt p)<|av (pf p 18)<|Lv (.slice m.s.na (m.s.nn) (m.s.nc)) (aL m8.aH 18)<|av (au m.s.nn) ?_;by_cases c18:(k:Int)<(m.s.nn:Int)
 ·refine Lv aG (gY c18)<|aD<|aM<|Wk<|sN<|Ws<|Wb<|Ws ?_;refine vG<|eF J<|aU (pt p)<|aU (pt p)<|aU (pf p 18)<|Qv (.slice m.s.na (m.s.nn) (m.s.nc)) (fun F E=>aL (m8.aH.dr E) 18)<|eF Y ?_;obtain⟨GN,eq1⟩:=m9.addr (by omega);have m15:Fx.Own O B 84 56 (bO GN m.s.nn m.s.nc) m.s.nn (Kw m):=m9.fU (L_ (fun q=>Value.slice q m.s.nn m.s.nc) eq1);refine Qv (pf GN (56*k)) (fun F E=>dh 56 (hx:=(rfl.trans (L_ (fun q=>Value.slice q (m.s.nn) (m.s.nc)) eq1))))<|aU (pf GN (56*k))<|Qv (aC (m.id k)) (fun F E=>aL (m15.aH.dr E) (56*k) (Fx.gX (k:=k) (j:=0) (by omega) (by omega) rfl))<|Qv (aC ((m.id k) / 1099511627776)) (fun F E=>Fx.aaJ (b:=40) (q:=1099511627776) rfl rfl rfl (by decide) (by decide))<|Qv (pt I) (fun F E=>gP K 0)<|Qv (au v.o) (fun F E=>aL (W.aH.dr E) 0)<|Qv (aC v.o) (fun F E=>dD rfl rfl (by kernel_rfl) Tryz.underlying23 (jU (by omega) rfl)) ?_;by_cases c34:((m.id k) / 1099511627776)=v.o
  ·refine Qv aG (fun F E=>dP c34)<|Qn ?_;rintro _ ⟨qd,rfl⟩;obtain⟨Cv,qh⟩ : ∃ F,F=World.drewN O qd:=⟨_,rfl⟩;rw[<- qh];have s2:Stp O.heap.size O Cv:=(by rw[qh]; exact Sb (jB O qd));have⟨m16,m17,m18,m19,m20,m21,m22⟩:=kg s2.old m8 m10 m11 m12 m13 W m15;have b3:=fA s2.old b2 u;clear qh;refine sN<|aM<|Wl<|aW h3<|Lv (au ((G:Int)+1)) fH<|av (au ((G:Int)+1))<|Ln<|bS<|sN<|Wl<|aW Y<|Lv (au ((k:Int)+1)) fH<|av (au ((k:Int)+1))<|Ln ?_;have m23:Fx.Own Cv B 84 56 (.slice m.s.na (m.s.nn) (m.s.nc)) m.s.nn (Kw m):=m22.fU (L_ (fun q=>Value.slice q m.s.nn m.s.nc) eq1.symm);refine iG ⟨k+1,G+1,by omega,by omega,(UW aa c34),J,K,Fx.ic,Fx.ic,m16,m23,m17,m18,m19,m20,m21,b3⟩ ?_;show(m.s.nn-(intOf (au ((k:Int)+1))).toNat)<_;simp only[Y,intOf]; omega
  refine Qv aF (fun F E=>eO c34)<|Qn ?_;rintro _ ⟨qd,rfl⟩;obtain⟨wq2,tL⟩ : ∃ F,F=World.drewN O qd:=⟨_,rfl⟩;rw[<- tL];have s3:Stp O.heap.size O wq2:=by rw[tL]; exact Sb (jB O qd)
  have⟨m24,mM,mU,oo,ou,nG,nk⟩:=kg s3.old m8 m10 m11 m12 m13 W m15;have b4:=fA s3.old b2 u;clear tL;refine sN<|aK<|Wk<|bS<|sN<|Wl<|aW Y<|Lv (au ((k:Int)+1)) fH<|av (au ((k:Int)+1))<|Ln ?_;have lI:Fx.Own wq2 B 84 56 (.slice m.s.na (m.s.nn) (m.s.nc)) m.s.nn (Kw m):=nk.fU (L_ (fun q=>Value.slice q m.s.nn m.s.nc) eq1.symm);refine iG ⟨k+1,G,by omega,by omega,(YP aa c34),J,K,(h3.trans Fx.ic),Fx.ic,m24,lI,mM,mU,oo,ou,nG,b4⟩ ?_;show(m.s.nn-(intOf (au ((k:Int)+1))).toNat)<_;simp only[Y,intOf]; omega
 refine Lv aF (gZ c18)<|aD<|aK<|Wx<|cB<|gW<|bZ<|sN<|Ws<|ay<|aW h3 ?_;by_cases c38:5<=(G:Int)
 ·refine Lv aG (lH c38)<|av aG<|bF<|bF<|bF<|av aG<|aD<|aM<|ay<|av (au 6)<|aD<|Wr<|sR<|aJ (au 6) ?_;have N:k=m.s.nn:=by omega
  subst N;have H:kW m.core v=6:=d_ (.inl (by rw[show ny m.core.id v.o m.core.nn=G from aa.symm]; omega));exact⟨pW H.symm,b2,fun U=>by rw[H]at U; cases U⟩
 refine Lv aF (kR c38)<|av aF<|Lv (pf I 11) (gP K 11)<|Lv (au v.aT) (aL W.aH 11) ?_;by_cases TK:140737488355328<v.aT
 ·refine Lv aG (mo TK)<|av aG<|aD<|aM<|ay<|av (au 6)<|aD<|Wr<|sR<|aJ (au 6) ?_;have N:k=m.s.nn:=by omega
  subst N;have H:kW m.core v=6:=d_ (.inr (by omega));exact⟨pW H.symm,b2,fun U=>by rw[H]at U; cases U⟩
 refine Lv aF (mD TK)<|av aF<|aD<|aK<|Wk<|sN<|ay<|Lv (pt I) (gP K 0)<|Lv (au v.o) (aL W.aH 0)<|Lv (pf I 1) (gP K 1)<|Lv (aC v.seq) (aL W.aH 1)<|mE (amO v.o v.seq _) _ rfl<|av (aC (jF v.o v.seq))<|aD<|Ws ?_;refine ko [0,1,2,4,5,3,6,7,8] [0,0,0,4,0,0,4,3,0] [(7,3,[3]),(7,6,[6]),(8,7,[7])] fun qC dN iE => ?_;have⟨m32,oU,nH,nR,mO,qy,pX⟩:=kg dN m8 m9 m10 m11 m12 m13 W;have b5:=fA dN b2 u;refine bV J<|aX (pt p)<|aX (pf p 20)<|aX (aC (jF v.o v.seq))<|Rp (pf I 9) (fun _=>gP K 9)<|Rs (pt m.tb) (aL m32.aH 20) ?_;refine Rs (aC v.node) (aL pX.aH 9) ?_;refine ig<|dU (ahy B m.tb m.ta m.tn m.tc m.t (jF v.o v.seq) v.node D _ nR mO (fun e=>Fx.Ty.ne (mO.ty e) nR.ty (by decide) rfl) (m_ u b5.size) bt hD hD2) _ rfl ?_;rintro X ⟨ahG,hcs1⟩;have hc1:jm [156,153] qC X:=Fx.jm.SV ahG (by rintro k (rfl|e) <;> first|exact⟨_,nR.ty,by decide⟩|exact⟨_,mO.ty e,by decide⟩)
 have pY:aP X p 27 (kN m) 56:=m32.lu hc1 (by decide);have tZ:Fx.Own X B 84 56 (.slice m.s.na (m.s.nn) (m.s.nc)) m.s.nn (Kw m):=oU.lu hc1 (by decide);have mP:Fx.Own X B 106 5 (.slice m.s.ga (m.s.gn) (m.s.gc)) m.s.gn (JI m):=nH.lu hc1 (by decide);have mQ:xq X B 6 m:=qy.lu hc1 (by decide);have mV:aP X I 14 (bJ v) 37:=pX.lu hc1 (by decide);have b6:Below B w X:=Fx.jR.below b5 ahG (by rintro k (rfl|e) <;> first|exact Ei|exact(mO.ge e).1) (m_ u b5.size)
 rcases hcs1 with ⟨Q,hT1,hO1⟩|⟨Q,g9,YS,hT1,hO1,hne1⟩
 ·refine Ln<|aX (au (jQ m.t m.tn (jF v.o v.seq) v.node))<|bQ<|Ws<|ay<|av (au (jQ m.t m.tn (jF v.o v.seq) v.node))<|Lv aG (jZ Q)<|aD<|aM<|ay<|av (au (jQ m.t m.tn (jF v.o v.seq) v.node))<|av (au (jQ m.t m.tn (jF v.o v.seq) v.node))<|aD<|Wr<|sR<|aJ (au (jQ m.t m.tn (jF v.o v.seq) v.node)) ?_;have N:k=m.s.nn:=by omega
  subst N;have H:kW m.core v=jQ m.t m.tn (jF v.o v.seq) v.node:=b_ (fun h=>h.elim (fun h=>by rw[show ny m.core.id v.o m.core.nn=G from aa.symm]at h; omega) (fun h=>by omega));exact⟨pW H.symm,b6,fun U=>M_ (H.symm.trans U) Q⟩
 refine Ln<|aX (au (jQ m.t m.tn (jF v.o v.seq) v.node))<|bQ<|Ws<|ay<|av (au (jQ m.t m.tn (jF v.o v.seq) v.node))<|Lv aF (iN Q)<|aD<|aK<|Wk<|sN<|ay<|av (aC (jF v.o v.seq))<|Lv (pf I 9) (gP K 9)<|Lv (aC v.node) (aL mV.aH 9)<|av (.agg (aA 56 (bC (bC zK0 0 1 (fun _=>aC (jF v.o v.seq))) 1 1 (fun _=>aC v.node))))<|oC 56 zK0 fun M w4 vB pI s5 z2 => ?_;have⟨qb,oV,sG,uQ,sH,qD,sI⟩:=kg s5.old pY tZ mP mQ mV hT1 hO1;have b7:=fA s5.old b6 u;have pK:=iw vB b6.size;have amS:=cu vB pY.lt;have FC:(.slice m.s.na (m.s.nn) (m.s.nc):Value).ownBlock≠some M:=by rw[vB]; exact tZ.kP (A_ _)
 have⟨amT,amU,adq⟩:=Bq vB mV.lt hT1.lt hO1.lt;have xR:=pI.lt;refine dG pI 0 (h1:=(bB (bB (fun jq _=>by show(zK0 jq).oneCell'=true; simp only[zK0]; repeat (first|rfl|split)) (fun _ _=>rfl)) (fun _ _=>rfl))) fun w5 uR s6 z3 => ?_
 have sJ:aP w5 M 56 (bC (bC zK0 0 1 (fun _=>aC (jF v.o v.seq))) 1 1 (fun _=>aC v.node)) 84:=aN uR;have fO:=fQ s6 pI.ty;have uS:=iW fO qb;have wo:=oV.bW s6 FC;have⟨uf,sK,ug,wS,rz⟩:=rT fO sG uQ sH qD sI;have b8:=s6.below b7 (m_ u b7.size) (by omega);refine aD<|Ws ?_;have uo:aP w5 M 56 (mZ (jF v.o v.seq) v.node (fun _=>0)) 84:=sJ.congr (fun j hj=>UY j);refine Wl<|Lv (pt I) (gP K 0)<|Lv (au v.o) (aL ug.aH 0)<|Lv (au a) gN<|Lv (pf I 11) (gP K 11)<|Lv (au v.aT) (aL ug.aH 11)<|av (pf M 2)<|av (pf M 2)<|Lv (pf M (a+2)) (jV 6 1)<|jv uo (a+2) (au v.aT) fun w6 pJ s7 z4 => ?_;have uh:aP w6 M 56 (mZ (jF v.o v.seq) v.node (upd (fun _=>0) a v.aT)) 84:=pJ.to (Pt (by omega));have jJ:=fQ s7 uo.ty;have m64:=iW jJ uS;have wT:=wo.bW s7 FC;have⟨wu,uT,yh,sM,wz⟩:=rT jJ uf sK ug wS rz;have b9:=s7.below b8 (m_ u b8.size) (by omega);refine aD<|Ws ?_;have ek0:k=m.s.nn:=by omega
 obtain⟨cn0,ahI,hc38⟩ : ∃ cn0,cn0=ny m.id v.o m.s.nn /\ ¬ (5:Int)<=(cn0:Int):=⟨G,by rw[<- ek0]; exact aa,c38⟩;clear aa hcl ek0;refine Wl<|aW J<|av (pt p)<|av (pt p)<|av (pf p 18)<|Lv (.slice m.s.na (m.s.nn) (m.s.nc)) (aL m64.aH 18)<|av (au m.s.nn)<|av (au m.s.nn)<|aD<|Ws ?_;refine zY [0,1,2,3,4,5,6,7,8,9,10,11,12] [0,0,0,0,0,1,4,2,2,0,0,0,3] (jm [84]) wm Fx.jm.trans (fK := [(12,5,[5]),(7,6,[6]),(8,6,[7,6]),(12,6,[6]),(8,7,[7]),(9,7,[7]),(10,7,[7]),(11,7,[7]),(12,7,[7]),(9,8,[8]),(10,8,[8]),(11,8,[8]),(12,8,[8])]) (by kernel_rfl) (by kernel_rfl) (by kernel_rfl) (by kernel_rfl) (by kernel_rfl) fun Cr gK nU => ?_;have⟨uH,wB,wC,Ah,wD,zR,yJ,zw⟩:=nO gK m64 wT wu uT yh sM wz uh;have b10:=fA gK b9 u;refine bV J<|bV J<|aX (pt p)<|aX (pt p)<|aX (pf p 18)<|Rd (v := .slice m.s.na (m.s.nn) (m.s.nc)) (by rfl) (by rfl) (wm _) (fun F E=>aZ (x:=kN m) rfl rfl (by kernel_rfl) (uH.lu E (by decide)).aH (i:=18) (by omega) (by omega) rfl) ?_;refine Rs (.agg (aA 56 (mZ (jF v.o v.seq) v.node (upd (fun _=>0) a v.aT)))) (eT zw.aH 0) ?_;refine yw<|zi (vs := [(0,.agg (aA 56 (mZ (jF v.o v.seq) v.node (upd (fun _=>0) a v.aT))))]) (s:=56) (zc:=fun L=>if L<2 then aC 0 else au 0) (y:=bC (fun j=>zK0 (j % 56)) (0*56) 56 (mZ (jF v.o v.seq) v.node (upd (fun _=>0) a v.aT))) (by rfl) rfl rfl Tryz.underlying47 (by kernel_rfl) (by rfl) (by rfl) (by kernel_rfl) (by rw[bf (off:=0*56) (s:=56) (y:=mZ (jF v.o v.seq) v.node (upd (fun _=>0) a v.aT)) rfl (bK _ _) (by rfl)]; rfl) rfl fun g3 w7 uI xQ s9 z5 => ?_;have⟨wU,wV,yK,Ar,yL,BA,Bf,Bg⟩:=nO s9.old uH wB wC Ah wD zR yJ zw;have b11:=fA s9.old b10 u;have Ae:=iw uI b10.size;have amW:=cu uI uH.lt;have amX:(.slice m.s.na (m.s.nn) (m.s.nc):Value).ownBlock≠some g3:=by rw[uI]; exact wB.kP (A_ _)
 have⟨amY,adr,JL,ads⟩:=Nu uI wD.lt zR.lt yJ.lt zw.lt;have Ed:=xQ.lt;refine Ln ⟨Fx.jm.of_below s9.old,?_⟩;refine yw<|zP (B:=B) (s:=56) (bytes:=448) (k:=m.s.nn) (m:=1) (v := .slice m.s.na (m.s.nn) (m.s.nc)) (x:=Kw m) (by rfl) rfl rfl rfl Tryz.underlying47 (by kernel_rfl) (by kernel_rfl) rfl rfl wV xQ.aH (zB (vN _ _ _)) (by omega) (by omega) (by omega) (m_ u b11.size) fun l A w8 ho1 hg1 wR hlt1 => ?_;have nQ:=zQ hg1 wV;have⟨Av,BD,Fp,Eh,CB,Dz⟩:=S9 nQ wU yK Ar yL BA Bf;have AB:=Bg.grown hg1 FC;have amZ:M≠l:=fun e=>wR.elim (fun e2=>FC (by rw[e]; exact e2)) (fun e2=>by have:=Bg.lt; omega);have Au:Fx.Own w8 B 84 56 (bO l (m.s.nn+1) A) (m.s.nn+1) (flat 56 (Fx.KP (fun d=>mZ (m.id d) (m.par d) (m.R d)) (mZ (jF v.o v.seq) v.node (upd (fun _=>0) a v.aT)) m.s.nn m.s.nn)):=(ho1.congr (fun j hj=>(Fx.yD j hj).trans (bL (fun i V q _=>Fx.yE i V q) j hj)));have b12:Below B w w8:=zO b11 hg1 (m_ u b11.size) (fun q hq=>(wV.ge hq).1);refine Ln ⟨nQ,?_⟩;refine aX (pt p)<|aX (pt p)<|aX (pf p 18)<|ig<|jv Av 18 (bO l (m.s.nn+1) A) fun w9 GJ s10 z6 => ?_;have ru:=fQ s10 Av.ty;have⟨EA,GL,GZ,xu,yO,xw,uU⟩:=Ta ru BD Fp Eh CB Dz AB Au;have b13:=s10.below b12 (m_ u b12.size) (by omega);refine Ln<|bQ<|Ws<|Wb<|Wo (fun f z => ∃ k:Nat,k<=m.s.nn/\(∀ i,k<=i->i<m.s.nn->(jF v.o v.seq)<m.id i)/\f 0=(pt p)/\f 7=aC (jF v.o v.seq)/\f 9=(pt M)/\f 10=au (k:Int)/\Fx.Own z B 106 5 (.slice m.s.ga (m.s.gn) (m.s.gc)) m.s.gn (JI m)/\xq z B 6 m/\aP z I 14 (bJ v) 37/\aP z m.tb 1 (fun _=>bO g9 (m.tn+1) YS) 156/\Fx.Own z B 153 2 (bO g9 (m.tn+1) YS) (m.tn+1) (rv .u64 (lU (qg m.t (down (fun i=>decide ((jF v.o v.seq)<m.t i 0)) m.tn) (jF v.o v.seq) v.node)))/\aP z M 56 (mZ (jF v.o v.seq) v.node (upd (fun _=>0) a v.aT)) 84/\aP z p 27 (dF (kN m) 18 (bO l (m.s.nn+1) A)) 56/\Fx.Own z B 84 56 (bO l (m.s.nn+1) A) (m.s.nn+1) (flat 56 (Fx.KP (fun d=>mZ (m.id d) (m.par d) (m.R d)) (mZ (jF v.o v.seq) v.node (upd (fun _=>0) a v.aT)) m.s.nn k))/\Below B w z) (fun f _=>(intOf (f 10)).toNat) ⟨m.s.nn,by omega,(fun i J K=>M_ J (by omega)),J,Fx.ic,(by rfl),Fx.ic,EA,GL,GZ,xu,yO,xw,GJ,uU,b13⟩ ?_;rintro f2 rW ⟨k,hk,hgt,Z,h6,h7,P,qG,qj,rE,qH,rY,tN,vO,rZ,b14⟩;refine Ws<|ay<|aW P ?_;by_cases c91:0<(k:Int)
 ·obtain⟨j,ej⟩ : ∃ j,k=j+1:=⟨k-1,by omega⟩;refine Lv aG (mo c91)<|av aG<|aW Z<|av (pt p)<|av (pt p)<|av (pf p 18)<|Lv (bO l (m.s.nn+1) A) (aL vO.aH 18 (Fx.lZ (by omega)))<|aW P<|Lv (au j) gN<|Lv (pf l (56*j)) (dh 56)<|av (pf l (56*j))<|Lv (aC (m.id j)) (aL rZ.aH (56*j) (Fx.gX (k:=j) (j:=0) (by omega) (by omega) ((congrFun (Fx.zZ (by omega) (by omega)) 0).trans rfl)))<|aW h6 ?_;by_cases YT:(jF v.o v.seq)<(m.id j)
  ·refine Lv aG (mo YT)<|av aG<|aD<|aM<|Wk<|sN<|Wb<|Ws ?_;refine ko [0,1,2,3,5,6,7,8,9,11,12,4,10,13,14,15,16] [0,0,0,0,4,0,0,0,0,0,4,0,0,0,4,0,3] [(16,4,[4]),(16,10,[10]),(16,14,[14])] fun R9 mK Bv => ?_;have⟨uV,zS,vP,zT,CF,yj,uW,rF⟩:=nO mK qG qj rE qH rY tN vO rZ;have b15:=fA mK b14 u;refine bV Z<|aX (pt p)<|aX (pt p)<|aX (pf p 18)<|bV P<|bV Z<|aX (pt p)<|aX (pt p)<|aX (pf p 18)<|bV P<|Rp (au j) (fun _=>gN)<|Rs (bO l (m.s.nn+1) A) (aL uW.aH 18 (Fx.lZ (by omega))) ?_;refine Rs (bO l (m.s.nn+1) A) (aL uW.aH 18 (Fx.lZ (by omega))) ?_;refine Rp (pf l (56*j)) (fun _=>dh 56)<|Rs (.agg (aA 56 (mZ (m.id j) (m.par j) (m.R j)))) (eT rF.aH (56*j) (fun jq hjq=>(Fx.iH (k:=j) (by omega) hjq).trans (congrFun (Fx.zZ (by omega) (by omega)) jq))) ?_;refine Rp (pf l (56*k)) (fun _=>dh 56)<|ig<|Ao rF (56*k) (h1:=(fun j _=>vN _ _ _ j)) fun Ec yP s12 z7 => ?_;have yc:=fQ s12 rF.KN;have⟨yQ,uX,CG,JM,FD⟩:=rT yc uV zS vP zT CF;have BI:=yj.bW s12 (by omega);have FE:=iW yc uW;have b16:=s12.below b15 (m_ u b15.size) rF.blk.1;have G6:Fx.Own Ec B 84 56 (bO l (m.s.nn+1) A) (m.s.nn+1) (flat 56 (Fx.KP (fun d=>mZ (m.id d) (m.par d) (m.R d)) (mZ (jF v.o v.seq) v.node (upd (fun _=>0) a v.aT)) m.s.nn j)):=yP.congr (fun T S=>(Fx.vF (k:=k) (by omega) T S).trans (bL (fun i V q _=>Fx.zk ej (by omega) i V q) T S));refine Ln<|bQ<|Wl<|aW P<|Lv (au j) gN<|av (au j)<|Ln<|bS<|iG ⟨j,by omega,(UZ ej hgt YT),Z,(h6.trans Fx.ic),h7,Fx.ic,yQ,uX,CG,JM,FD,BI,FE,G6,b16⟩ ?_;show(intOf (au j)).toNat<_;simp only[P,intOf]; omega
  refine Lv aF (mD YT)<|av aF<|aD<|aK<|Wx<|cB<|gW<|bZ<|sN<|Ws ?_;refine ko [0,1,2,3,5,4,6,7,8] [0,0,0,0,4,0,4,0,3] [(8,4,[4]),(8,6,[6])] fun wt4 rJ Ig => ?_;have⟨CJ,AJ,Lu,FH,FI,G7,G8⟩:=kg rJ qG qj qH rY tN vO rZ;have b17:=fA rJ b14 u;refine bV Z<|aX (pt p)<|aX (pt p)<|aX (pf p 18)<|bV P<|Rs (bO l (m.s.nn+1) A) (aL G7.aH 18 (Fx.lZ (by omega))) ?_;refine Rs (.agg (aA 56 (mZ (jF v.o v.seq) v.node (upd (fun _=>0) a v.aT)))) (eT FI.aH 0 (ha:=h7)) ?_;refine Rp (pf l (56*k)) (fun _=>dh 56)<|ig<|Ao G8 (56*k) (h1:=(fun j _=>vN _ _ _ j)) fun Bd CK Af z8 => ?_;have yg:=fQ Af G8.KN;have⟨FJ,CO,FK,AL⟩:=Jt yg CJ AJ Lu FH;have CP:=FI.bW Af (by omega);have BJ:=iW yg G7;have b18:=Af.below b17 (m_ u b17.size) G8.blk.1;have JN:Fx.Own Bd B 84 56 (bO l (m.s.nn+1) A) (m.s.nn+1) (flat 56 (Fx.Jq (fun d=>mZ (m.id d) (m.par d) (m.R d)) k (mZ (jF v.o v.seq) v.node (upd (fun _=>0) a v.aT)))):=CK.congr (fun T S=>(Fx.vF (k:=k) (by omega) T S).trans (bL (fun i V q _=>Fx.uz (by omega) i V q) T S));refine Ln<|bQ<|ay<|av (au 0)<|aD<|Wr<|aJ (au 0) ?_;have H:kW m.core v=jQ m.t m.tn (jF v.o v.seq) v.node:=b_ (fun h=>h.elim (fun h=>by rw[show ny m.core.id v.o m.core.nn=cn0 from ahI.symm]at h; omega) (fun h=>by omega));have N:k=tK m.id m.s.nn (jF v.o v.seq):=Fx.qw hk (fun i a b=>f_ (hgt i a b)) (.inr (fun j2 e=>by rw[show j2=j by omega]; exact g_ YT));have U4:Fx.Own Bd B 84 56 (bO l (m.s.nn+1) A) (m.s.nn+1) (flat 56 fun d=>mZ (cO m.id k (jF v.o v.seq) d) (cO m.par k v.node d) (cO m.R k (upd (fun _=>0) a v.aT) d)):=by rw[<- Pv]; exact JN
  have eR:(upd (fun _=>0) a v.aT)=upd (fun _=>0) (v.o-1).toNat v.aT:=by rw[show(v.o-1).toNat=a by omega]
  have bn9:m.tn+1<=33:=Ls Q;refine⟨pW (Q.symm.trans H.symm),b18,fun _=>⟨{ m with s := { m.s with na:=some ⟨l,0,none⟩,nn:=m.s.nn+1,nc:=A },id:=cO m.id k (jF v.o v.seq),par:=cO m.par k v.node,R:=cO m.R k (upd (fun _=>0) a v.aT),ta:=some ⟨g9,0,none⟩,tn:=m.tn+1,tc:=YS,t:=qg m.t (down (fun i=>decide ((jF v.o v.seq)<m.t i 0)) m.tn) (jF v.o v.seq) v.node },?_,?_⟩⟩
  ·unfold rD; rw[show tK m.core.id m.core.nn (jF v.o v.seq)=k from N.symm,<- eR]; rfl
  exact { c:=BJ.to (Ir m _ _ _),n:=U4,g:=FJ,tc:=FK,t:=AL,r:=CO,pB:=U3,tB:=Ei,bn:=(by have:=bnn; show m.s.nn+1<=1000; omega),bg:=bg,bt:=(by show m.tn+1<=1000; omega),br:=C.br }
 refine Lv aF (mD c91)<|av aF<|bF<|bF<|bF<|bF<|bF<|bF<|bF<|bF<|bF<|bF<|bF<|bF<|av aF<|aD<|aK<|Wx<|cB<|gW<|bZ<|sN<|Ws ?_;refine ko [0,1,2,3,5,4,6,7,8] [0,0,0,0,4,0,4,0,3] [(8,4,[4]),(8,6,[6])] fun wt5 Ag TN => ?_;have⟨U5,U6,U7,adt,U8,Q7,U9⟩:=kg Ag qG qj qH rY tN vO rZ;have b19:=fA Ag b14 u;refine bV Z<|aX (pt p)<|aX (pt p)<|aX (pf p 18)<|bV P<|Rs (bO l (m.s.nn+1) A) (aL Q7.aH 18 (Fx.lZ (by omega))) ?_;refine Rs (.agg (aA 56 (mZ (jF v.o v.seq) v.node (upd (fun _=>0) a v.aT)))) (eT U8.aH 0 (ha:=h7)) ?_;refine Rp (pf l (56*k)) (fun _=>dh 56)<|ig<|Ao U9 (56*k) (h1:=(fun j _=>vN _ _ _ j)) fun Fh Va s16 z9 => ?_;have BH:=fQ s16 U9.KN;have⟨adu,adv,Q8,adw⟩:=Jt BH U5 U6 U7 adt;have ahJ:=U8.bW s16 (by omega);have adx:=iW BH Q7;have b20:=s16.below b19 (m_ u b19.size) U9.blk.1;have ady:Fx.Own Fh B 84 56 (bO l (m.s.nn+1) A) (m.s.nn+1) (flat 56 (Fx.Jq (fun d=>mZ (m.id d) (m.par d) (m.R d)) k (mZ (jF v.o v.seq) v.node (upd (fun _=>0) a v.aT)))):=Va.congr (fun T S=>(Fx.vF (k:=k) (by omega) T S).trans (bL (fun i V q _=>Fx.uz (by omega) i V q) T S));refine Ln<|bQ<|ay<|av (au 0)<|aD<|Wr<|aJ (au 0) ?_;have H:kW m.core v=jQ m.t m.tn (jF v.o v.seq) v.node:=b_ (fun h=>h.elim (fun h=>by rw[show ny m.core.id v.o m.core.nn=cn0 from ahI.symm]at h; omega) (fun h=>by omega));have N:k=tK m.id m.s.nn (jF v.o v.seq):=Fx.qw hk (fun i a b=>f_ (hgt i a b)) (.inl (by omega));have adz:Fx.Own Fh B 84 56 (bO l (m.s.nn+1) A) (m.s.nn+1) (flat 56 fun d=>mZ (cO m.id k (jF v.o v.seq) d) (cO m.par k v.node d) (cO m.R k (upd (fun _=>0) a v.aT) d)):=by rw[<- Pv]; exact ady
 have eR:(upd (fun _=>0) a v.aT)=upd (fun _=>0) (v.o-1).toNat v.aT:=by rw[show(v.o-1).toNat=a by omega]
 have bn9:m.tn+1<=33:=Ls Q;refine⟨pW (Q.symm.trans H.symm),b20,fun _=>⟨{ m with s := { m.s with na:=some ⟨l,0,none⟩,nn:=m.s.nn+1,nc:=A },id:=cO m.id k (jF v.o v.seq),par:=cO m.par k v.node,R:=cO m.R k (upd (fun _=>0) a v.aT),ta:=some ⟨g9,0,none⟩,tn:=m.tn+1,tc:=YS,t:=qg m.t (down (fun i=>decide ((jF v.o v.seq)<m.t i 0)) m.tn) (jF v.o v.seq) v.node },?_,?_⟩⟩
 ·unfold rD; rw[show tK m.core.id m.core.nn (jF v.o v.seq)=k from N.symm,<- eR]; rfl
 exact { c:=adx.to (Ir m _ _ _),n:=adz,g:=adu,tc:=Q8,t:=adw,r:=adv,pB:=U3,tB:=Ei,bn:=(by have:=bnn; show m.s.nn+1<=1000; omega),bg:=bg,bt:=(by show m.tn+1<=1000; omega),br:=C.br }
namespace Rt
theorem oI(x:Nat->Int)(n:Int)(is:Bool)(a:Int)(off:Nat) :
 ((cZ x n is a off).1=zero/\(cZ x n is a off).2≠0 /\ ¬ (may x=true/\1<=n/\n<=1125899906842624/\is=true/\a=0/\x off+n<=1125899906842624)) \/
 ((may x=true/\1<=n/\n<=1125899906842624/\is=true/\a=0/\x off+n<=1125899906842624)/\cZ x n is a off=(upd x off (x off+n),0)):=by
 unfold cZ;by_cases f:may x=true
 ·by_cases c:1<=n
  ·by_cases d:n<=1125899906842624
   ·rw[f,f_ c,f_ d];simp only[Bool.and_self,if_true]
    cases is
    ·left; exact⟨rfl,(by show(10:Int)≠0; decide),fun h=>by cases h.2.2.2.1⟩
    by_cases b:a=0
    ·by_cases e:x off+n<=1125899906842624
     ·right; exact⟨⟨trivial,c,d,rfl,b,e⟩,by rw[d_ rfl,d_ b,d_ e]⟩
     left; rw[d_ rfl,d_ b,b_ e]; exact⟨rfl,by decide,fun h=>e h.2.2.2.2.2⟩
    left; rw[d_ rfl,b_ b]; exact⟨rfl,b,fun h=>b h.2.2.2.2.1⟩
   left; rw[g_ d,I_,b_ (by decide)]; exact⟨rfl,by decide,fun h=>d h.2.2.1⟩
  left; rw[g_ c,I_,Bool.false_and,b_ (by decide)]; exact⟨rfl,by decide,fun h=>c h.2.1⟩
 left; rw[show may x=false by simpa using f,Bool.false_and,Bool.false_and,b_ (by decide)]; exact⟨rfl,by decide,fun h=>by cases h.1⟩
theorem NK{x:Nat->Int}(h:QY x){off:Nat}{n:Int}(h1:1<=n)(c:x off+n<=1125899906842624)(a:off<54):QY (upd x off (x off+n)):=by
 intro p b;unfold upd;split
 ·have:=h off a; omega
 exact h p b
theorem sj{i:Int}(h:iC i=true) : ∃ a:Nat,a<6/\i=(a:Int)+1/\i.toNat-1=a:=by
 have:1<=i/\i<=6:=by unfold iC at h; simpa using h
 exact⟨(i-1).toNat,by omega,by omega,by omega⟩
structure Moved(x y:Nat->Int)(a b:Nat)(n:Int):Prop where
 may:may y=true
 l : ∀ k,k<6->L y k=L x k+(if k=b then n else 0)-(if k=a then n else 0)
 g:tJ y=tJ x
 u:oH y=oH x
theorem BK{x:Nat->Int}{i j n:Int}(h:(dz x i j n).2=0) : ∃ a b:Nat,a<6/\b<6/\a≠b/\i=(a:Int)+1/\j=(b:Int)+1/\1<=n/\n<=1125899906842624/\n<=L x a/\Moved x (dz x i j n).1 a b n/\(dz x i j n).1=upd x (18+a*6+b) (x (18+a*6+b)+n):=by
 unfold dz at *
 rcases oI x n (iC i&&iC j) (nW x i j n) (lQ i j)with ⟨_,f,_⟩|⟨⟨hm,h1,f,hr,he,hx⟩,heq⟩
 ·exact M_ h f
 rw[S_]at hr;obtain⟨a,g,l,D⟩:=sj hr.1;obtain⟨b,m,q,E⟩:=sj hr.2;have s:lQ i j=18+a*6+b:=by unfold lQ; rw[D,E]
 rw[s]at heq hx;rw[s];have B:a≠b:=by
  intro z;unfold nW at he;rw[d_ (by rw[l,q,z])]at he
  cases he
 have y:n<=L x a:=by
  unfold nW at he;rw[b_ (by omega)]at he;by_cases d:gF x i<n
  ·rw[f_ d]at he; cases he
  ·rw[l,oG hm a g]at d; omega
 obtain⟨e,t,w⟩:=(lD x).1 hm;have d:=adi x a b g m n;have c : ∀ p,p<18->upd x (18+a*6+b) (x (18+a*6+b)+n) p=x p:=fun p I=>gV _ _ _ _ (by omega);have o:tJ (upd x (18+a*6+b) (x (18+a*6+b)+n))=tJ x:=by unfold tJ G; rw[c 0 (by omega),c 1 (by omega),c 2 (by omega),c 3 (by omega),c 4 (by omega),c 5 (by omega)]
 have A:(cZ x n (iC i&&iC j) (nW x i j n) (18+a*6+b)).1=upd x (18+a*6+b) (x (18+a*6+b)+n):=by rw[heq]
 rw[A];refine⟨a,b,g,m,B,l,q,h1,f,y,⟨?_,d,o,?_⟩,rfl⟩
 ·rw[lD];refine⟨NK e h1 hx (by omega),fun k r => ?_,by rw[o]; exact w⟩;obtain⟨H,u,v⟩:=t k r;refine⟨?_,?_,?_⟩
  ·rw[d k r];split
   ·split <;> omega
   split
   ·rename_i hka; subst hka; omega
   omega
  ·unfold F C at *; rw[c _ (by omega),c _ (by omega)]; exact u
  unfold R at *; rw[gV _ _ _ _ (by omega)]; exact v
 unfold oH C F; simp only[c _ (show 6+0<18 by omega),c _ (show 6+1<18 by omega),c _ (show 6+2<18 by omega),c _ (show 6+3<18 by omega),c _ (show 6+4<18 by omega),c _ (show 6+5<18 by omega),c _ (show 12+0<18 by omega),c _ (show 12+1<18 by omega),c _ (show 12+2<18 by omega),c _ (show 12+3<18 by omega),c _ (show 12+4<18 by omega),c _ (show 12+5<18 by omega)]
theorem FL(x:Nat->Int)(off:Nat)(c:off<18)(v:Int)(a b:Nat):R (upd x off v) a b=R x a b:=gV _ _ _ _ (by omega)
theorem Vb(x:Nat->Int)(off:Nat)(a:off<18)(v:Int)(k:Nat):L (upd x off v) k=L x k+(G (upd x off v) k-G x k)+(F (upd x off v) k-F x k)-(C (upd x off v) k-C x k):=by
 unfold L;simp only[FL x off a v];omega
theorem ahK(x:Nat->Int)(a:Nat)(n:Int)(k:Nat):C (upd x (6+a) (x (6+a)+n)) k=C x k+(if k=a then n else 0):=by
 unfold C upd;by_cases h:k=a
 ·subst h; simp
 rw[b_ (by omega),b_ h]; omega
theorem ahL(x:Nat->Int)(a:Nat)(n:Int)(k:Nat):F (upd x (12+a) (x (12+a)+n)) k=F x k+(if k=a then n else 0):=by
 unfold F upd;by_cases h:k=a
 ·subst h; simp
 rw[b_ (by omega),b_ h]; omega
theorem ahM(x:Nat->Int)(a:Nat)(n:Int)(k:Nat):G (upd x a (x a+n)) k=G x k+(if k=a then n else 0):=by
 unfold G upd;by_cases h:k=a
 ·subst h; simp
 rw[b_ h,b_ h]; omega
theorem six(a:Nat)(ha:a<6)(n:Int):(if 0=a then n else 0)+(if 1=a then n else 0)+(if 2=a then n else 0)+(if 3=a then n else 0)+(if 4=a then n else 0)+(if 5=a then n else 0)=n:=by
 have:a=0\/a=1\/a=2\/a=3\/a=4\/a=5:=by omega
 rcases this with h|h|h|h|h|h <;> subst h <;> simp
theorem JO{x:Nat->Int}{i n:Int}(h:(bG x i n).2=0) : ∃ a:Nat,a<6/\i=(a:Int)+1/\1<=n/\n<=1125899906842624/\n<=L x a/\C x a+n<=1125899906842624/\may (bG x i n).1=true /\
 (∀ k,k<6->L (bG x i n).1 k=L x k-(if k=a then n else 0))/\tJ (bG x i n).1=tJ x/\oH (bG x i n).1=oH x+n/\(bG x i n).1=upd x (6+a) (x (6+a)+n):=by
 unfold bG at *
 rcases oI x n (iC i) (qE x i n) (6+(i.toNat-1))with ⟨_,j,_⟩|⟨⟨hm,h1,j,hr,he,hx⟩,heq⟩
 ·exact M_ h j
 obtain⟨a,l,o,p⟩:=sj hr;rw[p]at heq hx;rw[p];have t:n<=L x a:=by
  unfold qE at he;by_cases g:gF x i<n
  ·rw[f_ g]at he; cases he
  ·rw[o,oG hm a l]at g; omega
 obtain⟨e,q,s⟩:=(lD x).1 hm;have u:(cZ x n (iC i) (qE x i n) (6+a)).1=upd x (6+a) (x (6+a)+n):=by rw[heq]
 rw[u];have b:=ahK x a n;have f : ∀ k,k<6->G (upd x (6+a) (x (6+a)+n)) k=G x k:=fun k d=>gV _ _ _ _ (by omega);have c : ∀ k,k<6->F (upd x (6+a) (x (6+a)+n)) k=F x k:=fun k d=>gV _ _ _ _ (by omega);have g : ∀ k,k<6->L (upd x (6+a) (x (6+a)+n)) k=L x k-(if k=a then n else 0):=by
  intro k d;rw[Vb x (6+a) (by omega),f k d,c k d,b k]; omega
 have m:tJ (upd x (6+a) (x (6+a)+n))=tJ x:=by unfold tJ; rw[f 0 (by omega),f 1 (by omega),f 2 (by omega),f 3 (by omega),f 4 (by omega),f 5 (by omega)]
 refine⟨a,l,o,h1,j,t,hx,?_,g,m,?_,rfl⟩
 ·rw[lD];refine⟨NK e h1 hx (by omega),fun k d => ?_,by rw[m]; exact s⟩;obtain⟨v,w,r⟩:=q k d;refine⟨?_,?_,?_⟩
  ·rw[g k d];split
   ·rename_i hka; subst hka; omega
   omega
  ·rw[c k d,b k]; split <;> omega
  rw[FL x (6+a) (by omega)]; exact r
 unfold oH;rw[c 0 (by omega),c 1 (by omega),c 2 (by omega),c 3 (by omega),c 4 (by omega),c 5 (by omega),b 0,b 1,b 2,b 3,b 4,b 5];have:=six a l n;omega
theorem JQ{x:Nat->Int}{i n:Int}(h:(bI x i n).2=0) : ∃ a:Nat,a<6/\i=(a:Int)+1/\1<=n/\n<=1125899906842624/\n<=C x a-F x a/\may (bI x i n).1=true /\
 (∀ k,k<6->L (bI x i n).1 k=L x k+(if k=a then n else 0))/\tJ (bI x i n).1=tJ x/\oH (bI x i n).1=oH x-n/\(bI x i n).1=upd x (12+a) (x (12+a)+n):=by
 unfold bI at *
 rcases oI x n (iC i) (qF x i n) (12+(i.toNat-1))with ⟨_,j,_⟩|⟨⟨hm,h1,j,hr,he,hx⟩,heq⟩
 ·exact M_ h j
 obtain⟨a,m,u,l⟩:=sj hr;rw[l]at heq hx;rw[l];have s:n<=C x a-F x a:=by
  unfold qF at he;rw[l]at he;by_cases g:C x a-F x a<n
  ·rw[f_ g]at he; cases he
  ·omega
 obtain⟨e,p,r⟩:=(lD x).1 hm;have t:(cZ x n (iC i) (qF x i n) (12+a)).1=upd x (12+a) (x (12+a)+n):=by rw[heq]
 rw[t];have c:=ahL x a n;have f : ∀ k,k<6->G (upd x (12+a) (x (12+a)+n)) k=G x k:=fun k d=>gV _ _ _ _ (by omega);have b : ∀ k,k<6->C (upd x (12+a) (x (12+a)+n)) k=C x k:=fun k d=>gV _ _ _ _ (by omega);have g : ∀ k,k<6->L (upd x (12+a) (x (12+a)+n)) k=L x k+(if k=a then n else 0):=by
  intro k d;rw[Vb x (12+a) (by omega),f k d,c k,b k d]; omega
 have o:tJ (upd x (12+a) (x (12+a)+n))=tJ x:=by unfold tJ; rw[f 0 (by omega),f 1 (by omega),f 2 (by omega),f 3 (by omega),f 4 (by omega),f 5 (by omega)]
 refine⟨a,m,u,h1,j,s,?_,g,o,?_,rfl⟩
 ·rw[lD];refine⟨NK e h1 hx (by omega),fun k d => ?_,by rw[o]; exact r⟩;obtain⟨v,w,q⟩:=p k d;refine⟨?_,?_,?_⟩
  ·rw[g k d]; split <;> omega
  ·rw[c k,b k d];split
   ·rename_i hka; subst hka; omega
   omega
  rw[FL x (12+a) (by omega)]; exact q
 unfold oH;rw[b 0 (by omega),b 1 (by omega),b 2 (by omega),b 3 (by omega),b 4 (by omega),b 5 (by omega),c 0,c 1,c 2,c 3,c 4,c 5];have:=six a m n;omega
end Rt
section
namespace Rt
def dn(f:(Nat->Int)->(Nat->Int) × Int)(idx:Nat->Nat)(R:Nat->Nat->Int):Nat->(Nat->Nat->Int) × Int
 | 0=>(R,0)
 | j+1=>if(dn f idx R j).2=0 then(if(f ((dn f idx R j).1 (idx j))).2=0 then(aI (dn f idx R j).1 (idx j) (f ((dn f idx R j).1 (idx j))).1,0)else((dn f idx R j).1,(f ((dn f idx R j).1 (idx j))).2))else dn f idx R j
section
variable {f:(Nat->Int)->(Nat->Int) × Int} {idx:Nat->Nat} {R Rk:Nat->Nat->Int} {k q:Nat}
theorem FM(h:dn f idx R k=(Rk,0))(e:idx k=q)(a:(f (Rk q)).2=0):dn f idx R (k+1)=(aI Rk q (f (Rk q)).1,0):=by
 unfold dn; rw[h,d_ rfl,e,d_ a]
theorem Iu(h:dn f idx R k=(Rk,0))(e:idx k=q)(a : ¬ (f (Rk q)).2=0):(dn f idx R (k+1)).2=(f (Rk q)).2:=by
 unfold dn; rw[h,d_ rfl,e,b_ a]
theorem AO(a : ¬ (dn f idx R k).2=0) : ∀ n,k<=n->dn f idx R n=dn f idx R k
 | 0,h=>by obtain rfl:k=0:=by omega
           rfl
 | n+1,h=>by
   by_cases e:k=n+1
   ·rw[e]
   ·have:=AO a n (by omega);rw[dn,this,b_ a]
end
def lead(P:Nat->Bool):Nat->Nat
 | 0=>0
 | n+1=>if lead P n=n/\P n=true then n+1 else lead P n
theorem JR(P:Nat->Bool) : ∀ n,lead P n<=n
 | 0=>A_ _
 | n+1=>by
   unfold lead; split
   ·exact A_ _
   ·have:=JR P n; omega
theorem Lx{P:Nat->Bool} : ∀ {n:Nat},(∀ i,i<n->P i=true)->lead P n=n
 | 0,_=>rfl
 | n+1,h=>by unfold lead; rw[d_ ⟨Lx fun i a=>h i (by omega),h n (by omega)⟩]
theorem Pw{P:Nat->Bool}{K:Nat}(h1 : ∀ i,i<K->P i=true)(a:P K=false) : ∀ {n:Nat},K<=n->lead P n=K
 | 0,h=>by unfold lead; omega
 | n+1,h=>by
   unfold lead;by_cases e:K=n+1
   ·rw[d_ ⟨Lx fun i d=>h1 i (by omega),h1 n (by omega)⟩]; exact e.symm
   ·rw[Pw h1 a (n:=n) (by omega),b_];rintro ⟨c,b⟩;subst c; rw[a]at b; cases b
def fB(t:Nat->Nat->Int)(tn:Nat)(x:Int):Nat:=lead (fun i=>decide (0<=bE t tn (bH t tn i x))) 1000
theorem vQ{t:Nat->Nat->Int}{tn K D:Nat}{x:Int}(h1 : ∀ i,i<K->0<=bE t tn (bH t tn i x))(c:bE t tn (bH t tn K x)<0)(d:bE t tn (bH t tn D x)<0)(e:D<=1000):K=fB t tn x:=by
 have a:K<=1000:=by
  rcases Nat.lt_or_ge D K with h|h
  ·have:=h1 D h; omega
  ·omega
 exact(Pw (fun i b=>f_ (h1 i b)) (g_ (by omega)) a).symm
end Rt
def eP.node(L:eP)(x:Int):Int:=iq (fun i=>decide (L.id i=x)) L.nn
def eP.grant(L:eP)(o r:Int):Int:=iq (fun i=>decide (L.g i 0=o)&&decide (L.g i 1=r)) L.gn
def eP.kF(L:eP)(a:Nat)(r:Int):Int:=iq (fun i=>decide (L.rq a i=r)) (L.rn a)
namespace Rt
def oZ(L:eP)(x:Int)(i:Nat):Nat:=(L.node (bH L.t L.tn i x)).toNat
def pz(v:EvM):Nat->Int:=fun j=>if j=0 then v.o else if j=1 then v.req else if j=2 then v.node else if j=3 then v.aT else 0
def CQ(v:EvM)(x:Nat->Int):Bool:=decide (v.o<x 0) || (decide (x 0=v.o)&&decide (v.req<x 1))
def aO(v:EvM):Nat:=(v.o-1).toNat
def nS(L:eP)(v:EvM):(Nat->Nat->Int) × Int:=dn (fun x=>bG x v.o v.aT) (oZ L v.node) L.R (fB L.t L.tn v.node)
def iQ(L:eP)(v:EvM):Int:=if 0<=L.kF (aO v) v.req then 14 else if fB L.t L.tn v.node=0 then 9 else(nS L v).2
def rG(L:eP)(a:Nat)(r:Int):eP := { L with rn:=aI L.rn a (L.rn a+1),rq:=aI L.rq a (aI (L.rq a) (L.rn a) r) }
def jg(L:eP)(v:EvM):eP :=
 rG { L with R:=(nS L v).1,gn:=L.gn+1,g:=cO L.g (down (fun i=>CQ v (L.g i)) L.gn) (pz v) } (aO v) v.req
theorem CS{n q:Nat}{id par:Nat->Int}{R:Nat->Nat->Int}{r:Nat->Int} : ∀ i,i<n -> ∀ j,j<56->Fx.rR (fun a=>mZ (id a) (par a) (R a)) q (bC (mZ (id q) (par q) (R q)) 2 54 (rv .i64 r)) i j=mZ (id i) (par i) (aI R q r i) j:=fun i _ j d=>by
 unfold Fx.rR aI;by_cases h:i=q
 ·subst h;rw[d_ rfl,d_ rfl];unfold bC mZ rv;by_cases b:j=0
  ·subst b; rfl
  ·by_cases c:j=1
   ·subst c; rfl
   ·rw[d_ (by omega),b_ b,b_ c]
 ·rw[b_ h,b_ h]
theorem YU{g:Nat->Nat->Int}{k:Nat}{x:Nat->Int}:Fx.Jq (fun a=>jf (g a)) k (jf x)=fun a=>jf (cO g k x a):=by
 funext i
 unfold Fx.Jq cO;by_cases h:i<k
 ·simp only[d_ h]
 by_cases b:i=k
 ·simp only[b_ h,d_ b]
 simp only[b_ h,b_ b]
theorem NM(m:kV)(a:Option Addr)(n c:Nat):dF (kN m) 19 (.slice a n c)=kN { m with s := { m.s with ga:=a,gn:=n,gc:=c } }:=by
 funext p
 unfold dF kN;by_cases h:p=19
 ·subst h; rfl
 rw[b_ h];by_cases e:p<20
 ·rw[d_ e,d_ e]; unfold lS;by_cases b:p<6
  ·rw[d_ b,d_ b]
  by_cases d:p<12
  ·rw[b_ b,d_ d,b_ b,d_ d]
  by_cases f:p<18
  ·rw[b_ b,b_ d,d_ f,b_ b,b_ d,d_ f]
  rw[b_ b,b_ d,b_ f,d_ (by omega),b_ b,b_ d,b_ f,d_ (by omega)]
 rw[b_ e,b_ e]
theorem LA(m:kV){i q:Nat}(f:q=i+21)(a:Option Addr)(n c:Nat):dF (kN m) q (.slice a n c)=kN { m with ra:=aI m.ra i a,rn:=aI m.rn i n,rc:=aI m.rc i c }:=by
 subst f
 funext p
 unfold dF kN;by_cases h:p=i+21
 ·subst h;rw[d_ rfl,b_ (by omega),b_ (by omega),Nat.add_sub_cancel];simp[aI]
 rw[b_ h];by_cases b:p<20
 ·rw[d_ b,d_ b]
 rw[b_ b,b_ b];by_cases d:p=20
 ·rw[d_ d,d_ d]
 rw[b_ d,b_ d];have e : ¬ p-21=i:=by omega
 simp[aI,e]
theorem xq.app{w w':World}{B a g cap:Nat}{r:Int}{m d:kV}(h:xq w B 6 m)(_ha:a<6)(h1:d.ra=aI m.ra a (some ⟨g,0,none⟩))(l:d.rn=aI m.rn a (m.rn a+1))(t:d.rc=aI m.rc a cap)(u:d.rq=aI m.rq a (aI (m.rq a) (m.rn a) r))
 (z:Fx.Own w' B 23 1 (bO g (m.rn a+1) cap) (m.rn a+1) (rv .u64 (aI (m.rq a) (m.rn a) r))) (A:w.grownBy w' (uq m a).ownBlock) (C:(uq m a).ownBlock=some g\/g=w.heap.size):xq w' B 6 d:=by
 have k : ∀ i,i≠a->uq d i=uq m i:=fun i c=>by unfold uq; rw[h1,l,t]; simp[aI,c]
 have n:uq d a=bO g (m.rn a+1) cap:=by unfold uq; rw[h1,l,t]; simp[aI]
 have y : ∀ i,i<6->i≠a -> ∀ q,(uq m i).ownBlock=some q->q≠g:=fun i c D q b e=>by
  subst e
  rcases C with f|f
  ·exact h.2 i a c _ha D q b f
  ·have:=((h.1 i c).ge b).2; omega
 refine⟨fun i c => ?_,fun i j c v p q b => ?_⟩
 ·by_cases e:i=a
  ·subst e; rw[n,l,u]; simp only[aI,if_true]; exact z
  rw[k i e,l,u];simp only[aI,b_ e];refine World.ownsRow.kept (h.1 i c) A ?_;by_cases x:(uq m i).ownBlock=none
  ·exact .inl x
  right;intro f
  cases b:(uq m i).ownBlock with
  | none=>exact x b
  | some q=>rw[b]at f; exact h.2 i a c _ha e q b f.symm
 by_cases e:i=a
 ·subst e;rw[n]at b;rw[k j (fun e=>p e.symm)];intro o;exact y j v (fun e=>p e.symm) q o (C_ b).symm
 rw[k i e]at b;by_cases s:j=a
 ·subst s; rw[n]; intro o; exact y i c e q b (C_ o).symm
 rw[k j s]; exact h.2 i j c v p q b
end Rt
end
def Ky(a:World)(l:List (Nat × (Nat->Int)))(w':World):Prop:=(∀ p∈l,w'.heap[p.1]? = some (.cells (bU .i64 54 p.2) 82 (0,0)))/\Below a.heap.size a w'
namespace Rt
def vR(x:Nat->Int)(k:Nat):Nat->Int
 | 0=>G x k-C x k+F x k
 | j+1=>vR x k j+R x j k-R x k j
theorem adA(x:Nat->Int)(k:Nat):vR x k 6=L x k:=by simp only[vR,L]; omega
theorem Px{x:Nat->Int}(h:QY x)(k:Nat)(d:k<6) : ∀ j:Nat,j<=6 -> -(1125899906842624*((j:Int)+1))<=vR x k j/\vR x k j<=1125899906842624*((j:Int)+2)
 | 0,_=>by
   have a:=h k (by omega); have b:=h (6+k) (by omega); have c:=h (12+k) (by omega);simp only[vR,G,C,F]; omega
 | j+1,hj=>by
   have:=Px h k d j (by omega);have a:=h (18+j*6+k) (by omega); have b:=h (18+k*6+j) (by omega);simp only[vR,R]; omega
end Rt
theorem nX(n:Int)(w:World) :
 Calls Tryz.prog 147 #[au n] w fun e c=>e = .returned (.bool (Aq n))/\c=w:=by
 refine Kent Tryz.func147 9 ?_;refine ay<|av aF<|aD<|ay<|av (au n) ?_;by_cases a:0<=n
 ·refine Lv aG (lH a)<|av aG<|av (au n) ?_;by_cases b:n<=1125899906842624
  ·refine Lv aG (nN b)<|av aG<|av aG<|aD<|Wr<|aJ aG ?_;exact⟨iI (by simp only[Aq]; first|(symm; simp; omega)|(symm; simp; done)),rfl⟩
  refine Lv aF (oh b)<|av aF<|av aF<|aD<|Wr<|aJ aF ?_;exact⟨iI (by simp only[Aq]; first|(symm; simp; omega)|(symm; simp; done)),rfl⟩
 refine Lv aF (kR a)<|av aF<|bF<|bF<|av aF<|av aF<|aD<|Wr<|aJ aF ?_;exact⟨iI (by simp only[Aq]; first|(symm; simp; omega)|(symm; simp; done)),rfl⟩
theorem zC(n:Int)(w:World) :
 Calls Tryz.prog 99 #[au n] w fun e c=>e = .returned (.bool (iC n))/\c=w:=by
 refine Kent Tryz.func99 9 ?_;refine ay<|av aF<|aD<|ay<|av (au n) ?_;by_cases a:1<=n
 ·refine Lv aG (lH a)<|av aG<|av (au n) ?_;by_cases b:n<=6
  ·refine Lv aG (nN b)<|av aG<|av aG<|aD<|Wr<|aJ aG ?_;exact⟨iI (by simp only[iC]; first|(symm; simp; omega)|(symm; simp; done)),rfl⟩
  refine Lv aF (oh b)<|av aF<|av aF<|aD<|Wr<|aJ aF ?_;exact⟨iI (by simp only[iC]; first|(symm; simp; omega)|(symm; simp; done)),rfl⟩
 refine Lv aF (kR a)<|av aF<|bF<|bF<|av aF<|av aF<|aD<|Wr<|aJ aF ?_;exact⟨iI (by simp only[iC]; first|(symm; simp; omega)|(symm; simp; done)),rfl⟩
theorem Rt.Q9(x:Nat->Int)(k j:Nat):vR x k (j+1)=vR x k j+x (18+j*6+k)-x (18+k*6+j):=rfl
theorem Rt.Ra(x:Nat->Int)(k:Nat):vR x k 0=x k-x (6+k)+x (12+k):=rfl
theorem FN(x:Nat->Int)(k:Nat)(w:World)(E:k<6)(d:QY x) :
 Calls Tryz.prog 100 #[.agg (aA 54 (rv .i64 x)),au ((k:Int)+1)] w fun e K=>e = .returned (au (L x k))/\Below w.heap.size w K:=by
 have B:vR x k 6=L x k:=adA x k;have A:=fun j=>Px d k E j;have T:vR x k 0=x k-x (k+6)+x (k+12):=by rw[Ra,Nat.add_comm 6 k,Nat.add_comm 12 k]
 have P:=d k (by omega);have Q:=d (k+6) (by omega);have R:=d (k+12) (by omega);refine Kent Tryz.func100 44 ?_;refine ay<|om fun c l D h H Y => ?_;have s:=bD H.old (Below.refl w.heap.size w);have V:=gI D;have X:=h.lt;refine av (au 0)<|aD<|ay<|av (au ((k:Int)+1))<|Lv (au k) gN<|av (au k)<|aD<|Ws ?_;refine vG<|aU (au k)<|aU (pt c)<|Qv (pf c k) (fun b a=>jV 6 1)<|Qv (au (x k)) (fun b a=>aL (h.aH.dr a) k)<|aU (au k)<|aU (pf c 6)<|Qv (pf c (k+6)) (fun b a=>jV 6 1)<|Qv (au (x (k+6))) (fun b a=>aL (h.aH.dr a) (k+6))<|Qv (au ((x k)-(x (k+6)))) (fun b a=>gN)<|aU (au k)<|aU (pf c 12)<|Qv (pf c (k+12)) (fun b a=>jV 6 1)<|Qv (au (x (k+12))) (fun b a=>aL (h.aH.dr a) (k+12))<|Qv (au (((x k)-(x (k+6)))+(x (k+12)))) (fun b a=>fH)<|aU (au (((x k)-(x (k+6)))+(x (k+12))))<|Qn ?_;rintro _ ⟨i,rfl⟩;obtain⟨M,n⟩ : ∃ b,b=World.drewN l i:=⟨_,rfl⟩;rw[<- n];have I:Stp l.heap.size l M:=by rw[n]; exact Sb (jB l i)
 have⟨F,t⟩:=fC I.old h s;clear n;refine sN<|Ws<|ay<|av (au 0)<|aD<|Wb<|Wo (fun f z => ∃ j:Nat,j<=6/\f 2=(pt c)/\f 5=au (k:Int)/\f 6=au (vR x k j)/\f 7=au (j:Int)/\aP z c 54 (rv .i64 x) 82/\Below w.heap.size w z) (fun f _=>(6-(intOf (f 7)).toNat)) ⟨0,by omega,(by rfl),Fx.ic,Fx.ic,Fx.ic,F,t⟩ ?_;rintro S m ⟨j,W,p,q,y,g,r,u⟩;have U:=A j (by omega);have O:vR x k (j+1)=vR x k j+x (6*j+k+18)-x (j+6*k+18):=by rw[Q9,show 18+j*6+k=6*j+k+18 by omega,show 18+k*6+j=j+6*k+18 by omega]
 have s:=d (6*j+k+18);have t:=d (j+6*k+18);refine Ws<|ay<|aW g ?_;by_cases v:(j:Int)<6
 ·refine Lv aG (gY v)<|aD<|aM<|Wk<|sN<|Ws<|Wb ?_;refine vG<|eF y<|eF g<|eF q<|Qv (pf c 18) (fun b a=>gP p 18)<|Qv (pf c (6*j+18)) (fun b a=>jV 6 6)<|Qv (pf c (6*j+k+18)) (fun b a=>jV 6 1)<|Qv (au (x (6*j+k+18))) (fun b a=>aL (r.aH.dr a) (6*j+k+18))<|Qv (au ((vR x k j)+(x (6*j+k+18)))) (fun b a=>fH)<|eF q<|eF g<|Qv (pf c 18) (fun b a=>gP p 18)<|Qv (pf c (6*k+18)) (fun b a=>jV 6 6)<|Qv (pf c (j+6*k+18)) (fun b a=>jV 6 1)<|Qv (au (x (j+6*k+18))) (fun b a=>aL (r.aH.dr a) (j+6*k+18))<|Qv (au (((vR x k j)+(x (6*j+k+18)))-(x (j+6*k+18)))) (fun b a=>gN)<|aU (au (((vR x k j)+(x (6*j+k+18)))-(x (j+6*k+18))))<|Qn ?_;rintro _ ⟨i,rfl⟩;obtain⟨N,o⟩ : ∃ b,b=World.drewN m i:=⟨_,rfl⟩;rw[<- o];have J:Stp m.heap.size m N:=by rw[o]; exact Sb (jB m i)
  have⟨G,C⟩:=fC J.old r u;clear o;refine bS<|sN<|Wl<|aW g<|Lv (au ((j:Int)+1)) fH<|av (au ((j:Int)+1))<|Ln<|iG ⟨j+1,by omega,p,(q.trans Fx.ic),Fx.ic,Fx.ic,G,C⟩ ?_;show(6-(intOf (au ((j:Int)+1))).toNat)<_;simp only[g,intOf]; omega
 refine Lv aF (gZ v)<|aD<|aK<|Wx<|cB<|gW<|bZ<|sN<|ay<|aW y<|av (au (vR x k j))<|aD<|Wr<|aJ (au (vR x k j)) ?_;exact⟨pW (by rw[<- B]; exact L_ _ (by omega)),u⟩
namespace Rt
def Vd(x:Nat->Int)(i:Nat):Prop:=Aq (x i)=true/\Aq (x (i+6))=true/\Aq (x (i+12))=true/\x (i+12)<=x (i+6)/\x (7*i+18)=0
def FP(x:Nat->Int)(i j:Nat):Prop := ∀ q,q<j->Aq (x (6*i+q+18))=true
def LB(x:Nat->Int)(i:Nat):Prop := ∀ k,k<i->Vd x k/\FP x k 6
def zU(x:Nat->Int):Nat->Int
 | 0=>0
 | i+1=>zU x i+x i
theorem Rb(x:Nat->Int):LB x 0:=fun _ h=>M_ h (by omega)
theorem NP(x:Nat->Int)(i:Nat):FP x i 0:=fun _ h=>M_ h (by omega)
theorem NQ{x:Nat->Int}{i j:Nat}(h:FP x i j)(a:Aq (x (6*i+j+18))=true):FP x i (j+1):=fun q b=>by
 by_cases e:q=j
 ·subst e; exact a
 ·exact h q (by omega)
theorem Rc{x:Nat->Int}{i:Nat}(h:LB x i)(hr:Vd x i)(a:FP x i 6):LB x (i+1):=fun k b=>by
 by_cases e:k=i
 ·subst e; exact⟨hr,a⟩
 ·exact h k (by omega)
theorem LC{x:Nat->Int}(h:LB x 6):QY x:=fun p d=>by
 by_cases a:p<6
 ·exact Az (h p a).1.1
 ·by_cases b:p<12
  ·have:=Az (h (p-6) (by omega)).1.2.1; rwa [show p-6+6=p by omega]at this
  ·by_cases c:p<18
   ·have:=Az (h (p-12) (by omega)).1.2.2.1; rwa [show p-12+12=p by omega]at this
   ·have:=Az ((h ((p-18) / 6) (by omega)).2 ((p-18) % 6) (by omega)); rwa [show 6*((p-18) / 6)+(p-18) % 6+18=p by omega]at this
theorem Py{x:Nat->Int} : ∀ {i:Nat},LB x i->0<=zU x i/\zU x i<=1125899906842624*(i:Int)
 | 0,_=>by simp[zU]
 | i+1,h=>by
   have a:=Py (i:=i) (fun k c=>h k (by omega));have b:=Az (h i (by omega)).1.1;simp only[zU]; omega
theorem JU{x:Nat->Int}{p:Nat}(a:p<54)(h:Aq (x p)=false):may x=false:=by
 cases hm:may x
 ·rfl
 have:=(lD x).1 hm |>.1 p a;unfold Aq at h; simp at h; omega
theorem ahN{x:Nat->Int}{i:Nat}(hi:i<6)(h:x (i+6)<x (i+12)):may x=false:=by
 cases hm:may x
 ·rfl
 have:=((lD x).1 hm |>.2.1 i hi).2.1;unfold F C at this; rw[Nat.add_comm 12 i,Nat.add_comm 6 i]at this; omega
theorem ahO{x:Nat->Int}{i:Nat}(hi:i<6)(h : ¬ x (7*i+18)=0):may x=false:=by
 cases hm:may x
 ·rfl
 have:=((lD x).1 hm |>.2.1 i hi).2.2;unfold R at this; rw[show 18+i*6+i=7*i+18 by omega]at this; exact M_ this h
theorem adB{x:Nat->Int}{i:Nat}(hi:i<6)(h:L x i<0):may x=false:=by
 cases hm:may x
 ·rfl
 have:=((lD x).1 hm |>.2.1 i hi).1;omega
theorem Ve{x:Nat->Int}{m:Nat}(h : ∀ k,k<m->0<=L x k)(a:0<=L x m) : ∀ k,k<m+1->0<=L x k:=fun k b=>by
 by_cases e:k=m
 ·rw[e]; exact a
 ·exact h k (by omega)
theorem Pz{x:Nat->Int}(ha:LB x 6)(b : ∀ k,k<6->0<=L x k):may x=decide (zU x 6<=1125899906842624):=by
 have c:zU x 6=tJ x:=by simp only[zU,tJ,G]; omega
 rw[c,Bool.eq_iff_iff,lD,P_];refine⟨fun h=>h.2.2,fun h=>⟨LC ha,fun k a=>⟨b k a,?_,?_⟩,h⟩⟩
 ·have:=(ha k a).1.2.2.2.1; unfold F C; rwa [Nat.add_comm 12 k,Nat.add_comm 6 k]
 have:=(ha k a).1.2.2.2.2; unfold R; rwa [show 18+k*6+k=7*k+18 by omega]
end Rt
set_option maxRecDepth 10000 in
set_option maxHeartbeats 1000000 in
theorem Vf(x:Nat->Int)(w:World) :
 Calls Tryz.prog 98 #[.agg (aA 54 (rv .i64 x))] w fun e w'=>e = .returned (.bool (may x))/\Below w.heap.size w w':=by
 refine Kent Tryz.func98 81 ?_;refine ay<|om fun c w1 kM m1 s1 z1 => ?_;have b1:=bD s1.old (Below.refl w.heap.size w);have qZ:=gI kM;have sF:=m1.lt;refine av aF<|aD<|ay<|av (au 0)<|aD<|Ws<|ay<|av (au 0)<|aD<|Wb<|Wo (fun f q => ∃ i:Nat,i<=6/\LB x i/\f 1=(pt c)/\f 3=au (zU x i)/\f 4=au (i:Int)/\aP q c 54 (rv .i64 x) 82/\Below w.heap.size w q) (fun f _=>(6-(intOf (f 4)).toNat)) ⟨0,by omega,Rb x,(by rfl),Fx.ic,Fx.ic,m1,b1⟩ ?_;rintro f1 d ⟨i,hi,B,n,h2,l,o,r⟩;have hG:=Py B;have HG:zU x (i+1)=zU x i+x i:=rfl;refine Ws<|ay<|aW l ?_;by_cases Z:(i:Int)<6
 ·refine Lv aG (gY Z)<|aD<|aM<|Wk<|sN<|Ws<|Wb<|Ws<|Ws ?_;refine vG<|eF l<|Qv (pt c) (fun a b=>gP n 0)<|Qv (pf c i) (fun a b=>jV 6 1)<|Qv (au (x i)) (fun a b=>aL (o.aH.dr b) i) ?_;by_cases s:(Aq (x i))=true
  ·refine qQ (fun _ _=>nX (x i) _) aG (by rw[s])<|aU aF<|aU aF<|eF l<|Qv (pf c 6) (fun a b=>gP n 6)<|Qv (pf c (i+6)) (fun a b=>jV 6 1)<|Qv (au (x (i+6))) (fun a b=>aL (o.aH.dr b) (i+6)) ?_;by_cases v:(Aq (x (i+6)))=true
   ·refine qQ (fun _ _=>nX (x (i+6)) _) aG (by rw[v])<|aU aF<|aU aF<|aU aF<|eF l<|Qv (pf c 12) (fun a b=>gP n 12)<|Qv (pf c (i+12)) (fun a b=>jV 6 1)<|Qv (au (x (i+12))) (fun a b=>aL (o.aH.dr b) (i+12)) ?_;by_cases y:(Aq (x (i+12)))=true
    ·refine qQ (fun _ _=>nX (x (i+12)) _) aG (by rw[y])<|aU aF<|aU aF<|aU aF<|eF l<|Qv (pf c 12) (fun a b=>gP n 12)<|Qv (pf c (i+12)) (fun a b=>jV 6 1)<|Qv (au (x (i+12))) (fun a b=>aL (o.aH.dr b) (i+12))<|eF l<|Qv (pf c 6) (fun a b=>gP n 6)<|Qv (pf c (i+6)) (fun a b=>jV 6 1)<|Qv (au (x (i+6))) (fun a b=>aL (o.aH.dr b) (i+6)) ?_;by_cases H:(x (i+6))<(x (i+12))
     ·refine Qv aG (fun a b=>mo H)<|aU aG<|aU aG<|aS<|aS<|aS<|aS<|aS<|aS<|aS<|aU aG<|Qn ?_;rintro _ ⟨g,rfl⟩;obtain⟨Cv,K⟩ : ∃ a,a=World.drewN d g:=⟨_,rfl⟩;rw[<- K];have s2:Stp d.heap.size d Cv:=(by rw[K]; exact Sb (jB d g));have b3:=bD s2.old r;clear K;refine sN (aM (ay (av aF (aD (Wr (sR (bM (sR (pE (bM (sR (aJ aF (⟨iI (Eq.symm ?_),b3⟩)))))))))))));exact ahN (i:=i) (by omega) H
     refine Qv aF (fun a b=>mD H)<|aU aF<|aU aF<|eF l<|eF l<|Qv (pf c 18) (fun a b=>gP n 18)<|Qv (pf c (6*i+18)) (fun a b=>jV 6 6)<|Qv (pf c (7*i+18)) (fun a b=>jV 6 1)<|Qv (au (x (7*i+18))) (fun a b=>aL (o.aH.dr b) (7*i+18)) ?_;by_cases C:(x (7*i+18))=0
     ·refine Qv aF (fun a b=>iN C)<|aU aF<|Qn ?_;rintro _ ⟨g,rfl⟩;obtain⟨wq2,M⟩ : ∃ a,a=World.drewN d g:=⟨_,rfl⟩;rw[<- M];have s3:Stp d.heap.size d wq2:=(by rw[M]; exact Sb (jB d g));have⟨m4,b4⟩:=fC s3.old o r;clear M;refine sN<|aK<|Wk<|sN<|Ws ?_;have hR:Vd x i:=⟨s,v,y,by omega,C⟩;have b15:=Az s;refine Wl<|aW h2<|aW l<|Lv (pt c) (gP n 0)<|Lv (pf c i) (jV 6 1)<|Lv (au (x i)) (aL m4.aH i)<|Lv (au ((zU x i)+(x i))) fH<|av (au ((zU x i)+(x i)))<|aD<|ay<|av (au 0)<|aD<|Wb<|Wo (fun f q => ∃ j:Nat,j<=6/\FP x i j/\f 1=(pt c)/\f 3=au (zU x (i+1))/\f 4=au (i:Int)/\f 5=au (j:Int)/\aP q c 54 (rv .i64 x) 82/\Below w.heap.size w q) (fun f _=>(6-(intOf (f 5)).toNat)) ⟨0,by omega,NP x i,n,Fx.ic,(l.trans Fx.ic),Fx.ic,m4,b4⟩ ?_;rintro f2 w3 ⟨j,hj,T,R,h5,S,E,U,G⟩;refine Ws<|ay<|aW E ?_;by_cases X:(j:Int)<6
      ·refine Lv aG (gY X)<|aD<|aM<|Wk<|sN<|Ws<|Wb<|ay<|aW S<|aW E<|Lv (pf c 18) (gP R 18)<|Lv (pf c (6*i+18)) (jV 6 6)<|Lv (pf c (6*i+j+18)) (jV 6 1)<|Lv (au (x (6*i+j+18))) (aL U.aH (6*i+j+18)) ?_;by_cases z:(Aq (x (6*i+j+18)))=true
       ·refine mE (nX (x (6*i+j+18)) _) aG (by rw[z])<|av aF<|aD<|aK<|Wk<|bS<|sN<|Wl<|aW E<|Lv (au ((j:Int)+1)) fH<|av (au ((j:Int)+1))<|Ln<|iG ⟨j+1,by omega,NQ T z,R,(h5.trans Fx.ic),(S.trans Fx.ic),Fx.ic,U,G⟩ ?_;show(6-(intOf (au ((j:Int)+1))).toNat)<_;simp only[E,intOf]; omega
       rw[T_]at z;refine mE (nX (x (6*i+j+18)) _) aF (by rw[z]) (av aG (aD (aM (ay (av aF (aD (Wr (bM (sR (pE (bM (bM (sR (pE (bM (sR (aJ aF (⟨iI (Eq.symm ?_),G⟩))))))))))))))))));exact JU (p:=6*i+j+18) (by omega) z
      refine Lv aF (gZ X)<|aD<|aK<|Wx<|cB<|gW<|bZ<|bS<|sN<|Wl<|aW S<|Lv (au ((i:Int)+1)) fH<|av (au ((i:Int)+1))<|Ln ?_;have A:j=6:=(by omega);have hT6:FP x i 6:=(by rw[A]at T; exact T);refine iG ⟨i+1,by omega,Rc B hR hT6,R,(h5.trans Fx.ic),Fx.ic,U,G⟩ ?_;show(6-(intOf (au ((i:Int)+1))).toNat)<_;simp only[l,intOf]; omega
     refine Qv aG (fun a b=>jZ C)<|aU aG<|Qn ?_;rintro _ ⟨g,rfl⟩;obtain⟨X0,N⟩ : ∃ a,a=World.drewN d g:=⟨_,rfl⟩;rw[<- N];have s4:Stp d.heap.size d X0:=(by rw[N]; exact Sb (jB d g));have b6:=bD s4.old r;clear N;refine sN (aM (ay (av aF (aD (Wr (sR (bM (sR (pE (bM (sR (aJ aF (⟨iI (Eq.symm ?_),b6⟩)))))))))))));exact ahO (i:=i) (by omega) C
    rw[T_]at y;refine qQ (fun _ _=>nX (x (i+12)) _) aF (by rw[y])<|aU aG<|aU aG<|aU aG<|aS<|aS<|aS<|aS<|aS<|aS<|aS<|aS<|aS<|aU aG<|aU aG<|aS<|aS<|aS<|aS<|aS<|aS<|aS<|aU aG<|Qn ?_;rintro _ ⟨g,rfl⟩;obtain⟨wq4,O⟩ : ∃ a,a=World.drewN d g:=⟨_,rfl⟩;rw[<- O];have s5:Stp d.heap.size d wq4:=(by rw[O]; exact Sb (jB d g));have b7:=bD s5.old r;clear O;refine sN (aM (ay (av aF (aD (Wr (sR (bM (sR (pE (bM (sR (aJ aF (⟨iI (Eq.symm ?_),b7⟩)))))))))))));exact JU (p:=i+12) (by omega) y
   rw[T_]at v;refine qQ (fun _ _=>nX (x (i+6)) _) aF (by rw[v])<|aU aG<|aU aG<|aU aG<|aS<|aS<|aS<|aS<|aS<|aS<|aU aG<|aU aG<|aS<|aS<|aS<|aS<|aS<|aS<|aS<|aS<|aS<|aU aG<|aU aG<|aS<|aS ?_;refine aS<|aS<|aS<|aS<|aS<|aU aG<|Qn ?_;rintro _ ⟨g,rfl⟩;obtain⟨wq5,P⟩ : ∃ a,a=World.drewN d g:=⟨_,rfl⟩;rw[<- P];have s6:Stp d.heap.size d wq5:=(by rw[P]; exact Sb (jB d g));have b8:=bD s6.old r;clear P;refine sN (aM (ay (av aF (aD (Wr (sR (bM (sR (pE (bM (sR (aJ aF (⟨iI (Eq.symm ?_),b8⟩)))))))))))));exact JU (p:=i+6) (by omega) v
  rw[T_]at s;refine qQ (fun _ _=>nX (x i) _) aF (by rw[s])<|aU aG<|aU aG<|aS<|aS<|aS<|aS<|aS<|aS<|aU aG<|aU aG<|aS<|aS<|aS<|aS<|aS<|aS<|aU aG<|aU aG<|aS<|aS<|aS<|aS<|aS<|aS ?_;refine aS<|aS<|aS<|aU aG<|aU aG<|aS<|aS<|aS<|aS<|aS<|aS<|aS<|aU aG<|Qn ?_;rintro _ ⟨g,rfl⟩;obtain⟨wq6,Q⟩ : ∃ a,a=World.drewN d g:=⟨_,rfl⟩;rw[<- Q];have s7:Stp d.heap.size d wq6:=by rw[Q]; exact Sb (jB d g)
  have b9:=bD s7.old r;clear Q;refine sN (aM (ay (av aF (aD (Wr (sR (bM (sR (pE (bM (sR (aJ aF (⟨iI (Eq.symm ?_),b9⟩)))))))))))));exact JU (p:=i) (by omega) s
 refine Lv aF (gZ Z)<|aD<|aK<|Wx<|cB<|gW<|bZ<|sN<|Ws<|ay<|av (au 1)<|aD<|Wb ?_;have A:i=6:=by omega
 rw[A]at B;have HE:=LC B;have V:LB x 6:=B;refine Wo (fun f q => ∃ m:Nat,m<=6/\(∀ k,k<m->0<=L x k)/\f 1=(pt c)/\f 3=au (zU x i)/\f 6=au ((m:Int)+1)/\aP q c 54 (rv .i64 x) 82/\Below w.heap.size w q) (fun f _=>(7-(intOf (f 6)).toNat)) ⟨0,by omega,(fun _ h=>M_ h (by omega)),n,(h2.trans Fx.ic),Fx.ic,o,r⟩ ?_;rintro f3 w4 ⟨m,hm,u,h8,h9,D,m10,F⟩;refine Ws<|ay<|aW D ?_;by_cases Y:((m:Int)+1)<=6
 ·refine Lv aG (nN Y)<|aD<|aM<|Wk<|sN<|Ws<|Wb<|ay<|Lv (.agg (aA 54 (rv .i64 x))) (eT m10.aH 0 (ha:=h8))<|aW D<|dU (FN x m _ (by omega) HE) _ rfl ?_;intro w5 hb1;have⟨m11,W⟩:=fC hb1 m10 F;by_cases I:(L x m)<0
  ·refine Lv aG (gY I) (aD (aM (ay (av aF (aD (Wr (bM (sR (pE (bM (sR (aJ aF (⟨iI (Eq.symm ?_),W⟩)))))))))))));exact adB (i:=m) (by omega) I
  refine Lv aF (gZ I)<|aD<|aK<|Wk<|bS<|sN<|Wl<|aW D<|Lv (au ((m:Int)+2)) fH<|av (au ((m:Int)+2))<|Ln<|iG ⟨m+1,by omega,Ve u (by omega),h8,(h9.trans Fx.ic),Fx.ic,m11,W⟩ ?_;show(7-(intOf (au ((m:Int)+2))).toNat)<_;simp only[D,intOf]; omega
 refine Lv aF (oh Y)<|aD<|aK<|Wx<|cB<|gW<|bZ<|sN<|ay<|aW h9 ?_;by_cases t:(zU x i)<=1125899906842624
 ·refine Lv aG (nN t) (av aG (aD (Wr (aJ aG (⟨iI (Eq.symm ?_),F⟩)))));have J:m=6:=by omega
  rw[J]at u;rw[A]at t;rw[Pz V u]; exact f_ t
 refine Lv aF (oh t) (av aF (aD (Wr (aJ aF (⟨iI (Eq.symm ?_),F⟩)))));have J:m=6:=by omega
 rw[J]at u;rw[A]at t;rw[Pz V u]; exact g_ t
namespace Rt
def fu(x:Nat->Int)(i n:Int):Int:=if may x&&decide (1<=n)&&decide (n<=1125899906842624)then(if iC i then 0 else 10)else 1
end Rt
theorem FQ(x:Nat->Int)(i n:Int)(w:World) :
 Calls Tryz.prog 162 #[.agg (aA 54 (rv .i64 x)),au i,au n] w fun e p=>e = .returned (au (fu x i n))/\Below w.heap.size w p:=by
 refine Kent Tryz.func162 21 ?_;refine ay<|om fun q t k h o y => ?_;have d:=bD o.old (Below.refl w.heap.size w);have r:=gI k;have s:=h.lt;refine av (au 0)<|aD<|Ws<|ay<|Lv (.agg (aA 54 (rv .i64 x))) (eT h.aH 0) ?_;by_cases a:(may x)=true
 ·refine dU (Vf x _) aG (by rw[a]) ?_;intro u l;have c:=bD l d;refine av aF<|av aF<|av (au n) ?_;by_cases f:n<1
  ·refine Lv aG (gY f) (av aG (av aG (bF (bF (av aG (aD (aM (ay (av (au 1) (aD (Wr (sR (aJ (au 1) (⟨pW ?_,c⟩))))))))))))));unfold fu; rw[a,g_ (show ¬ 1<=n by omega)]; simp
  refine Lv aF (gZ f)<|av aF<|av aF<|av (au n) ?_;by_cases g:1125899906842624<n
  ·refine Lv aG (mo g) (av aG (aD (aM (ay (av (au 1) (aD (Wr (sR (aJ (au 1) (⟨pW ?_,c⟩))))))))));unfold fu; rw[a,f_ (show 1<=n by omega),g_ (show ¬ n<=1125899906842624 by omega)]; simp
  refine Lv aF (mD g)<|av aF<|aD<|aK<|Wk<|sN<|Ws<|ay<|av (au i) ?_;by_cases b:(iC i)=true
  ·refine mE (zC i _) aG (by rw[b]) (av aF (aD (aK (Wk (sN (ay (av (au 0) (aD (Wr (aJ (au 0) (⟨pW ?_,c⟩)))))))))));unfold fu; rw[a,f_ (show 1<=n by omega),f_ (show n<=1125899906842624 by omega),b]; simp
  rw[T_]at b;refine mE (zC i _) aF (by rw[b]) (av aG (aD (aM (ay (av (au 10) (aD (Wr (sR (aJ (au 10) (⟨pW ?_,c⟩))))))))));unfold fu; rw[a,f_ (show 1<=n by omega),f_ (show n<=1125899906842624 by omega),b]; simp
 rw[T_]at a;refine dU (Vf x _) aF (by rw[a]) ?_;intro v m;have j:=bD m d;refine av aG (av aG (bF (bF (av aG (av aG (bF (bF (av aG (aD (aM (ay (av (au 1) (aD (Wr (sR (aJ (au 1) (⟨pW ?_,j⟩)))))))))))))))));unfold fu; rw[a]; simp
namespace Rt
theorem FT{x:Nat->Int}{i n:Int}(h:fu x i n=0):may x=true/\1<=n/\n<=1125899906842624/\iC i=true:=by
 unfold fu at h;by_cases a:may x=true
 ·by_cases b:1<=n
  ·by_cases c:n<=1125899906842624
   ·rw[a,f_ b,f_ c]at h
    cases h4:iC i
    ·rw[h4]at h; simp at h
    exact⟨a,b,c,rfl⟩
   rw[g_ c]at h; simp at h
  rw[g_ b]at h; simp at h
 rw[show may x=false by simpa using a]at h; simp at h
theorem LD{x:Nat->Int}{i n b:Int}{off:Nat}(h : ¬ fu x i n=0):cZ x n (iC i) b off=(zero,fu x i n):=by
 unfold fu at *;unfold cZ;by_cases a:(may x&&decide (1<=n)&&decide (n<=1125899906842624))=true
 ·simp only[d_ a]at *
  cases h4:iC i
  ·simp
  simp[h4]at h
 simp only[b_ a]at *
theorem CU{x:Nat->Int}{n a:Int}{is:Bool}{off:Nat}(h1:may x=true)(b:1<=n)(c:n<=1125899906842624)(d:is=true) :
 cZ x n is a off=if a=0 then(if x off+n<=1125899906842624 then(upd x off (x off+n),0)else(zero,6))else(zero,a):=by
 unfold cZ; rw[h1,f_ b,f_ c,d]; simp
theorem AP{x:Nat->Int}{n a:Int}{is:Bool}{off:Nat}(h1:may x=true)(b:1<=n)(c:n<=1125899906842624)(d:is=true)(e:a=0)(f:x off+n<=1125899906842624):cZ x n is a off=(upd x off (x off+n),0):=by
 rw[CU h1 b c d,d_ e,d_ f]
theorem DC{x:Nat->Int}{n a:Int}{is:Bool}{off:Nat}(h1:may x=true)(b:1<=n)(c:n<=1125899906842624)(d:is=true)(e:a=0)(f : ¬ x off+n<=1125899906842624):cZ x n is a off=(zero,6):=by
 rw[CU h1 b c d,d_ e,b_ f]
theorem xA{x:Nat->Int}{n a e:Int}{is:Bool}{off:Nat}(h1:may x=true)(b:1<=n)(c:n<=1125899906842624)(d:is=true)(f:a=e)(g:e≠0):cZ x n is a off=(zero,e):=by
 rw[CU h1 b c d,f,b_ g]
theorem Rh{x:Nat->Int}{n a:Int}{off:Nat}(h1:may x=true)(b:1<=n)(c:n<=1125899906842624):cZ x n false a off=(zero,10):=by
 unfold cZ; rw[h1,f_ b,f_ c]; simp
theorem pl(k:Nat):((k:Int)+1).toNat-1=k:=by omega
theorem Ri{x:Nat->Int}{i j n:Int}(h : ¬ fu x i n=0):dz x i j n=(zero,fu x i n):=by
 unfold dz;unfold fu at *;unfold cZ;by_cases a:(may x&&decide (1<=n)&&decide (n<=1125899906842624))=true
 ·simp only[d_ a]at *
  cases h4:iC i
  ·simp
  simp[h4]at h
 simp only[b_ a]at *
theorem LG(k q:Nat):lQ ((k:Int)+1) ((q:Int)+1)=6*k+q+18:=by unfold lQ; omega
theorem Vg{x:Nat->Int}{k:Nat}(a:may x=true)(b:k<6):x (k+6)<=1125899906842624:=(nI a (k+6) (by omega)).2
end Rt
set_option maxRecDepth 10000 in
theorem YV(x:Nat->Int)(i n:Int)(w:World) :
 Calls Tryz.prog 159 #[.agg (aA 54 (rv .i64 x)),au i,au n] w fun e w'=>e = .returned (.tuple #[.agg (aA 54 (rv .i64 (bG x i n).1)),au (bG x i n).2])/\Below w.heap.size w w':=by
 refine Kent Tryz.func159 42 ?_;refine ay<|om fun b w1 Q p s1 z1 => ?_;have u:=bD s1.old (Below.refl w.heap.size w);have qZ:=gI Q;have sF:=p.lt;refine oC 54 (rv .i64 (fun _=>0)) fun l w2 z B s2 z2 => ?_;have⟨C,K⟩:=fC s2.old p u;have pK:=iw z u.size;have Fj:=cu z p.lt;have xR:=B.lt;refine av (au 0)<|aD<|ay<|Lv (.agg (aA 54 (rv .i64 x))) (eT C.aH 0)<|av (au i)<|av (au n)<|dU (FQ x i n _) _ rfl ?_;intro w3 S;have⟨q,D,m⟩:=gL S C B K;refine av (au (fu x i n))<|aD<|Ws<|ay<|av (au (fu x i n)) ?_;by_cases j:(fu x i n)=0
 ·refine Lv aF (iN j)<|aD<|aK<|Wk<|sN<|Ws<|Ws ?_;obtain⟨a,s,t,h⟩:=FT j;have J:=nI a;obtain⟨k,o,R,_⟩:=sj h;subst R;refine Wl<|av (au n)<|Lv (.agg (aA 54 (rv .i64 x))) (eT q.aH 0)<|av (au ((k:Int)+1))<|dU (FN x k _ (by omega) (nI a)) _ rfl ?_;intro w4 T;have⟨g,r,d⟩:=gL T q D m;by_cases f:(L x k)<n
  ·refine Lv aG (mo f)<|aD<|aM<|ay<|av (.agg (aA 54 (rv .i64 (fun _=>0))))<|dG r 0 fun w5 m8 E z3 => ?_;have m9:aP w5 l 54 (rv .i64 (fun _=>0)) 82:=aN m8;have m10:=g.bW E (by omega);have M:=E.below d d.size (by omega);refine av (au 11) (aD (Wr (sR (⟨.tuple #[.agg (aA 54 (rv .i64 (fun _=>0))),au 11],fE Tryz.results159 ⟨_,rfl,aR m9.aH (by kernel_rfl) (by kernel_rfl)⟩ (by exact rfl),?_⟩))));refine⟨?_,M⟩;have c:bG x ((k:Int)+1) n=(zero,11):=by
    unfold bG qE;rw[oG a k o,f_ f];exact xA a s t h rfl (by decide)
   rw[c]
   all_goals rfl
  refine Lv aF (mD f)<|aD<|aK<|Wk<|sN<|Ws<|Ws ?_;have q1:=J (k+6);refine Wl<|av (au ((k:Int)+1))<|Lv (au k) gN<|av (pf b 6)<|Lv (pf b (k+6)) (jV 6 1)<|Lv (au (x (k+6))) (aL g.aH (k+6))<|av (au n)<|Lv (au ((x (k+6))+n)) fH ?_;by_cases y:1125899906842624<((x (k+6))+n)
  ·refine Lv aG (mo y)<|aD<|aM<|ay<|av (.agg (aA 54 (rv .i64 (fun _=>0))))<|dG r 0 fun w6 U F z4 => ?_;have V:aP w6 l 54 (rv .i64 (fun _=>0)) 82:=aN U;have m13:=g.bW F (by omega);have N:=F.below d d.size (by omega);refine av (au 6) (aD (Wr (sR (⟨.tuple #[.agg (aA 54 (rv .i64 (fun _=>0))),au 6],fE Tryz.results159 ⟨_,rfl,aR V.aH (by kernel_rfl) (by kernel_rfl)⟩ (by exact rfl),?_⟩))));refine⟨?_,N⟩;have c:bG x ((k:Int)+1) n=(zero,6):=by
    unfold bG qE;rw[oG a k o,g_ f,pl,Nat.add_comm 6 k];exact DC a s t h rfl (by omega)
   rw[c]
   all_goals rfl
  refine Lv aF (mD y)<|aD<|aK<|Wk<|sN<|ay<|av (au ((k:Int)+1))<|Lv (au k) gN<|av (pf b 6)<|Lv (pf b (k+6)) (jV 6 1)<|Lv (au (x (k+6))) (aL g.aH (k+6))<|av (au n)<|Lv (au ((x (k+6))+n)) fH<|av (pf b 6)<|Lv (pf b (k+6)) (jV 6 1)<|jv g (k+6) (au ((x (k+6))+n)) fun w7 W G z5 => ?_;have A:aP w7 b 54 (rv .i64 (upd x (k+6) ((x (k+6))+n))) 82:=W.to (Fx.zh _ _ _ _);have X:=r.bW G (by omega);have v:=G.below d d.size (by omega);refine aD<|ay<|Lv (.agg (aA 54 (rv .i64 (upd x (k+6) ((x (k+6))+n))))) (eT A.aH 0)<|dG X 0 fun w8 Y H z6 => ?_;have Z:aP w8 l 54 (rv .i64 (upd x (k+6) ((x (k+6))+n))) 82:=aN Y;have m19:=A.bW H (by omega);have O:=H.below v v.size (by omega);refine av (au 0) (aD (Wr (⟨.tuple #[.agg (aA 54 (rv .i64 (upd x (k+6) ((x (k+6))+n)))),au 0],fE Tryz.results159 ⟨_,rfl,aR Z.aH (by kernel_rfl) (by kernel_rfl)⟩ (by exact rfl),?_⟩)));refine⟨?_,O⟩;have c:bG x ((k:Int)+1) n=(upd x (k+6) (x (k+6)+n),0):=by
   unfold bG qE;rw[oG a k o,g_ f,pl,Nat.add_comm 6 k];exact AP a s t h rfl (by omega)
  rw[c]
  all_goals rfl
 refine Lv aG (jZ j)<|aD<|aM<|ay<|av (.agg (aA 54 (rv .i64 (fun _=>0))))<|av (au (fu x i n))<|dG D 0 fun w9 aa I z7 => ?_;have ab:aP w9 l 54 (rv .i64 (fun _=>0)) 82:=aN aa;have m22:=q.bW I (by omega);have P:=I.below m m.size (by omega);refine av (au (fu x i n)) (aD (Wr (sR (⟨.tuple #[.agg (aA 54 (rv .i64 (fun _=>0))),au (fu x i n)],fE Tryz.results159 ⟨_,rfl,aR ab.aH (by kernel_rfl) (by kernel_rfl)⟩ (by exact rfl),?_⟩))));refine⟨?_,P⟩;have c:bG x i n=(zero,fu x i n):=by
  exact LD j
 rw[c]
 all_goals rfl
set_option maxRecDepth 10000 in
theorem YW(x:Nat->Int)(i n:Int)(w:World) :
 Calls Tryz.prog 161 #[.agg (aA 54 (rv .i64 x)),au i,au n] w fun e w'=>e = .returned (.tuple #[.agg (aA 54 (rv .i64 (bI x i n).1)),au (bI x i n).2])/\Below w.heap.size w w':=by
 refine Kent Tryz.func161 41 ?_;refine ay<|om fun c w1 T t s1 z1 => ?_;have y:=bD s1.old (Below.refl w.heap.size w);have qZ:=gI T;have sF:=t.lt;refine oC 54 (rv .i64 (fun _=>0)) fun s w2 D H s2 z2 => ?_;have⟨I,P⟩:=fC s2.old t y;have pK:=iw D y.size;have Fj:=cu D t.lt;have xR:=H.lt;refine av (au 0)<|aD<|ay<|Lv (.agg (aA 54 (rv .i64 x))) (eT I.aH 0)<|av (au i)<|av (au n)<|dU (FQ x i n _) _ rfl ?_;intro d V;have⟨g,u,l⟩:=gL V I H P;refine av (au (fu x i n))<|aD<|Ws<|ay<|av (au (fu x i n)) ?_;by_cases m:(fu x i n)=0
 ·refine Lv aF (iN m)<|aD<|aK<|Wk<|sN<|Ws<|Ws ?_;obtain⟨j,J,K,p⟩:=FT m;have v:=nI j;obtain⟨k,W,U,_⟩:=sj p;subst U;have q1:=v (k+6);have q2:=v (k+12);refine vG<|aU (au n)<|aU (au ((k:Int)+1))<|Qv (au k) (fun a b=>gN)<|aU (pf c 6)<|Qv (pf c (k+6)) (fun a b=>jV 6 1)<|Qv (au (x (k+6))) (fun a b=>aL (g.aH.dr b) (k+6))<|aU (au ((k:Int)+1))<|Qv (au k) (fun a b=>gN)<|aU (pf c 12)<|Qv (pf c (k+12)) (fun a b=>jV 6 1)<|Qv (au (x (k+12))) (fun a b=>aL (g.aH.dr b) (k+12))<|Qv (au ((x (k+6))-(x (k+12)))) (fun a b=>gN) ?_;by_cases o:((x (k+6))-(x (k+12)))<n
  ·refine Qv aG (fun a b=>mo o)<|Qn ?_;rintro _ ⟨h,rfl⟩;obtain⟨Cv,q⟩ : ∃ a,a=World.drewN d h:=⟨_,rfl⟩;rw[<- q];have s4:Stp d.heap.size d Cv:=(by rw[q]; exact Sb (jB d h));have⟨m6,m7,z⟩:=gL s4.old g u l;clear q;refine sN<|aM<|ay<|av (.agg (aA 54 (rv .i64 (fun _=>0))))<|dG m7 0 fun w4 m8 L z3 => ?_;have m9:aP w4 s 54 (rv .i64 (fun _=>0)) 82:=aN m8;have m10:=m6.bW L (by omega);have Q:=L.below z z.size (by omega);refine av (au 12) (aD (Wr (sR (⟨.tuple #[.agg (aA 54 (rv .i64 (fun _=>0))),au 12],fE Tryz.results161 ⟨_,rfl,aR m9.aH (by kernel_rfl) (by kernel_rfl)⟩ (by exact rfl),?_⟩))));refine⟨?_,Q⟩;have f:bI x ((k:Int)+1) n=(zero,12):=by
    unfold bI qF C F;rw[pl,Nat.add_comm 6 k,Nat.add_comm 12 k,f_ o];exact xA j J K p rfl (by decide)
   rw[f]
   all_goals rfl
  refine Qv aF (fun a b=>mD o)<|Qn ?_;rintro _ ⟨h,rfl⟩;obtain⟨wq2,r⟩ : ∃ a,a=World.drewN d h:=⟨_,rfl⟩;rw[<- r];have s6:Stp d.heap.size d wq2:=by rw[r]; exact Sb (jB d h)
  have⟨E,X,A⟩:=gL s6.old g u l;clear r;refine sN<|aK<|Wk<|sN<|ay<|av (au ((k:Int)+1))<|Lv (au k) gN<|av (pf c 12)<|Lv (pf c (k+12)) (jV 6 1)<|Lv (au (x (k+12))) (aL E.aH (k+12))<|av (au n)<|Lv (au ((x (k+12))+n)) fH<|av (pf c 12)<|Lv (pf c (k+12)) (jV 6 1)<|jv E (k+12) (au ((x (k+12))+n)) fun w5 Y M z4 => ?_;have G:aP w5 c 54 (rv .i64 (upd x (k+12) ((x (k+12))+n))) 82:=Y.to (Fx.zh _ _ _ _);have Z:=X.bW M (by omega);have B:=M.below A A.size (by omega);refine aD<|ay<|Lv (.agg (aA 54 (rv .i64 (upd x (k+12) ((x (k+12))+n))))) (eT G.aH 0)<|dG Z 0 fun w6 aa N z5 => ?_;have ab:aP w6 s 54 (rv .i64 (upd x (k+12) ((x (k+12))+n))) 82:=aN aa;have m18:=G.bW N (by omega);have R:=N.below B B.size (by omega);refine av (au 0) (aD (Wr (⟨.tuple #[.agg (aA 54 (rv .i64 (upd x (k+12) ((x (k+12))+n)))),au 0],fE Tryz.results161 ⟨_,rfl,aR ab.aH (by kernel_rfl) (by kernel_rfl)⟩ (by exact rfl),?_⟩)));refine⟨?_,R⟩;have f:bI x ((k:Int)+1) n=(upd x (k+12) (x (k+12)+n),0):=by
   unfold bI qF C F;rw[pl,Nat.add_comm 6 k,Nat.add_comm 12 k,g_ o];exact AP j J K p rfl (by have:=Vg j W; omega)
  rw[f]
  all_goals rfl
 refine Lv aG (jZ m)<|aD<|aM<|ay<|av (.agg (aA 54 (rv .i64 (fun _=>0))))<|av (au (fu x i n))<|dG u 0 fun w7 ac O z6 => ?_;have ad:aP w7 s 54 (rv .i64 (fun _=>0)) 82:=aN ac;have m21:=g.bW O (by omega);have S:=O.below l l.size (by omega);refine av (au (fu x i n)) (aD (Wr (sR (⟨.tuple #[.agg (aA 54 (rv .i64 (fun _=>0))),au (fu x i n)],fE Tryz.results161 ⟨_,rfl,aR ad.aH (by kernel_rfl) (by kernel_rfl)⟩ (by exact rfl),?_⟩))));refine⟨?_,S⟩;have f:bI x i n=(zero,fu x i n):=by
  exact LD m
 rw[f]
 all_goals rfl
set_option maxRecDepth 10000 in
theorem YX(x:Nat->Int)(i j n:Int)(w:World) :
 Calls Tryz.prog 127 #[.agg (aA 54 (rv .i64 x)),au i,au j,au n] w fun e w'=>e = .returned (.tuple #[.agg (aA 54 (rv .i64 (dz x i j n).1)),au (dz x i j n).2])/\Below w.heap.size w w':=by
 refine Kent Tryz.func127 59 ?_;refine ay<|om fun c w1 aa z s1 z1 => ?_;have B:=bD s1.old (Below.refl w.heap.size w);have qZ:=gI aa;have sF:=z.lt;refine oC 54 (rv .i64 (fun _=>0)) fun h w2 F H s2 z2 => ?_;have⟨J,W⟩:=fC s2.old z B;have pK:=iw F B.size;have Fj:=cu F z.lt;have xR:=H.lt;refine av (au 0)<|aD<|ay<|Lv (.agg (aA 54 (rv .i64 x))) (eT J.aH 0)<|av (au i)<|av (au n)<|dU (FQ x i n _) _ rfl ?_;intro w3 hb1;have⟨p,u,f⟩:=gL hb1 J H W;refine av (au (fu x i n))<|aD<|Ws<|ay<|av (au (fu x i n)) ?_;by_cases t:(fu x i n)=0
 ·refine Lv aF (iN t)<|aD<|aK<|Wk<|sN<|Ws<|Ws ?_;obtain⟨b,r,s,l⟩:=FT t;have S:=nI b;obtain⟨k,y,ei,_⟩:=sj l;subst ei;refine Wl<|av (au j) ?_;by_cases d:(iC j)=true
  ·refine mE (zC j _) aG (by rw[d])<|av aF<|aD<|aK<|Wk<|sN<|Ws<|Ws ?_;obtain⟨q,hq,ej,_⟩:=sj d;subst ej;refine Wl<|av (au ((k:Int)+1))<|av (au ((q:Int)+1)) ?_;by_cases g:((k:Int)+1)=((q:Int)+1)
   ·refine Lv aG (dP g)<|aD<|aM<|ay<|av (.agg (aA 54 (rv .i64 (fun _=>0))))<|dG u 0 fun w4 m6 O z3 => ?_;have m7:aP w4 h 54 (rv .i64 (fun _=>0)) 82:=aN m6;have m8:=p.bW O (by omega);have X:=O.below f f.size (by omega);refine av (au 1) (aD (Wr (sR (⟨.tuple #[.agg (aA 54 (rv .i64 (fun _=>0))),au 1],fE Tryz.results127 ⟨_,rfl,aR m7.aH (by kernel_rfl) (by kernel_rfl)⟩ (by exact rfl),?_⟩))));refine⟨?_,X⟩;have a:dz x ((k:Int)+1) ((q:Int)+1) n=(zero,1):=by
     unfold dz nW;rw[d_ g];exact xA b r s (by rw[l,d]; rfl) rfl (by decide)
    rw[a]
    all_goals rfl
   refine Lv aF (eO g)<|aD<|aK<|Wk<|sN<|Ws<|ay<|av (au n)<|Lv (.agg (aA 54 (rv .i64 x))) (eT p.aH 0)<|av (au ((k:Int)+1))<|dU (FN x k _ (by omega) (nI b)) _ rfl ?_;intro w5 hb2;have⟨v,A,m⟩:=gL hb2 p u f;by_cases o:(L x k)<n
   ·refine Lv aG (mo o)<|aD<|aM<|ay<|av (.agg (aA 54 (rv .i64 (fun _=>0))))<|dG A 0 fun w6 m11 P z4 => ?_;have m12:aP w6 h 54 (rv .i64 (fun _=>0)) 82:=aN m11;have m13:=v.bW P (by omega);have Y:=P.below m m.size (by omega);refine av (au 11) (aD (Wr (sR (⟨.tuple #[.agg (aA 54 (rv .i64 (fun _=>0))),au 11],fE Tryz.results127 ⟨_,rfl,aR m12.aH (by kernel_rfl) (by kernel_rfl)⟩ (by exact rfl),?_⟩))));refine⟨?_,Y⟩;have a:dz x ((k:Int)+1) ((q:Int)+1) n=(zero,11):=by
     unfold dz nW;rw[b_ g,oG b k y,f_ o];exact xA b r s (by rw[l,d]; rfl) rfl (by decide)
    rw[a]
    all_goals rfl
   refine Lv aF (mD o)<|aD<|aK<|Wk<|sN<|Ws<|Ws ?_;have q1:=S (6*k+q+18);refine Wl<|av (au ((k:Int)+1))<|Lv (au k) gN<|av (au ((q:Int)+1))<|Lv (au q) gN<|av (pf c 18)<|Lv (pf c (6*k+18)) (jV 6 6)<|Lv (pf c (6*k+q+18)) (jV 6 1)<|Lv (au (x (6*k+q+18))) (aL v.aH (6*k+q+18))<|av (au n)<|Lv (au ((x (6*k+q+18))+n)) fH ?_;by_cases E:1125899906842624<((x (6*k+q+18))+n)
   ·refine Lv aG (mo E)<|aD<|aM<|ay<|av (.agg (aA 54 (rv .i64 (fun _=>0))))<|dG A 0 fun w7 m14 Q z5 => ?_;have m15:aP w7 h 54 (rv .i64 (fun _=>0)) 82:=aN m14;have m16:=v.bW Q (by omega);have Z:=Q.below m m.size (by omega);refine av (au 6) (aD (Wr (sR (⟨.tuple #[.agg (aA 54 (rv .i64 (fun _=>0))),au 6],fE Tryz.results127 ⟨_,rfl,aR m15.aH (by kernel_rfl) (by kernel_rfl)⟩ (by exact rfl),?_⟩))));refine⟨?_,Z⟩;have a:dz x ((k:Int)+1) ((q:Int)+1) n=(zero,6):=by
     unfold dz nW;rw[b_ g,oG b k y,g_ o,LG];exact DC b r s (by rw[l,d]; rfl) rfl (by omega)
    rw[a]
    all_goals rfl
   refine Lv aF (mD E)<|aD<|aK<|Wk<|sN<|Ws ?_;refine Wt 13 (by kernel_rfl) (by kernel_rfl) fun qC dN iE => ?_;have⟨G,m18,C⟩:=gL dN v A m;refine EY (au ((k:Int)+1))<|qU (au k) gN<|EY (au ((q:Int)+1))<|qU (au q) gN<|EY (pf c 18)<|qU (pf c (6*k+18)) (jV 6 6)<|qU (pf c (6*k+q+18)) (jV 6 1)<|qU (au (x (6*k+q+18))) (aL G.aH (6*k+q+18))<|EY (au n)<|qU (au ((x (6*k+q+18))+n)) fH<|EY (pf c 18)<|qU (pf c (6*k+18)) (jV 6 6)<|qU (pf c (6*k+q+18)) (jV 6 1)<|Fx.St.nil ?_;refine jv G (6*k+q+18) (au ((x (6*k+q+18))+n)) fun w8 m19 R z6 => ?_;have I:aP w8 c 54 (rv .i64 (upd x (6*k+q+18) ((x (6*k+q+18))+n))) 82:=m19.to (Fx.zh _ _ _ _);have m21:=m18.bW R (by omega);have D:=R.below C C.size (by omega);refine aD<|ay<|Lv (.agg (aA 54 (rv .i64 (upd x (6*k+q+18) ((x (6*k+q+18))+n))))) (eT I.aH 0)<|dG m21 0 fun w9 m22 K z7 => ?_;have m23:aP w9 h 54 (rv .i64 (upd x (6*k+q+18) ((x (6*k+q+18))+n))) 82:=aN m22;have m24:=I.bW K (by omega);have T:=K.below D D.size (by omega);refine av (au 0) (aD (Wr (⟨.tuple #[.agg (aA 54 (rv .i64 (upd x (6*k+q+18) ((x (6*k+q+18))+n)))),au 0],fE Tryz.results127 ⟨_,rfl,aR m23.aH (by kernel_rfl) (by kernel_rfl)⟩ (by exact rfl),?_⟩)));refine⟨?_,T⟩;have a:dz x ((k:Int)+1) ((q:Int)+1) n=(upd x (6*k+q+18) (x (6*k+q+18)+n),0):=by
    unfold dz nW;rw[b_ g,oG b k y,g_ o,LG];exact AP b r s (by rw[l,d]; rfl) rfl (by omega)
   rw[a]
   all_goals rfl
  rw[T_]at d;refine mE (zC j _) aF (by rw[d])<|av aG<|aD<|aM<|ay<|av (.agg (aA 54 (rv .i64 (fun _=>0))))<|dG u 0 fun rW mM M z8 => ?_;have mU:aP rW h 54 (rv .i64 (fun _=>0)) 82:=aN mM;have oo:=p.bW M (by omega);have U:=M.below f f.size (by omega);refine av (au 10) (aD (Wr (sR (⟨.tuple #[.agg (aA 54 (rv .i64 (fun _=>0))),au 10],fE Tryz.results127 ⟨_,rfl,aR mU.aH (by kernel_rfl) (by kernel_rfl)⟩ (by exact rfl),?_⟩))));refine⟨?_,U⟩;have a:dz x ((k:Int)+1) j n=(zero,10):=by
   unfold dz;rw[d,I_];exact Rh b r s
  rw[a]
  all_goals rfl
 refine Lv aG (jZ t)<|aD<|aM<|ay<|av (.agg (aA 54 (rv .i64 (fun _=>0))))<|av (au (fu x i n))<|dG u 0 fun Ec ou N z9 => ?_;have nG:aP Ec h 54 (rv .i64 (fun _=>0)) 82:=aN ou;have nk:=p.bW N (by omega);have V:=N.below f f.size (by omega);refine av (au (fu x i n)) (aD (Wr (sR (⟨.tuple #[.agg (aA 54 (rv .i64 (fun _=>0))),au (fu x i n)],fE Tryz.results127 ⟨_,rfl,aR nG.aH (by kernel_rfl) (by kernel_rfl)⟩ (by exact rfl),?_⟩))));refine⟨?_,V⟩;have a:dz x i j n=(zero,fu x i n):=by
  exact Ri t
 rw[a]
 all_goals rfl
namespace Rt
theorem EB{m:kV}{x:Int}(h:0<=m.node x) : ∃ q:Nat,q<m.s.nn/\iq (fun i=>decide (m.id i=x)) m.s.nn=(q:Int)/\m.id q=x:=by
 rcases iF (fun i=>decide (m.id i=x)) m.s.nn with ⟨q,b,e,a⟩|⟨e,_⟩
 ·exact⟨q,b,e,h_ a⟩
 unfold kV.node at h; omega
theorem PD{n:Nat}{x:Nat->Int}{r:Int} : ∀ j,j<(n+1)*1->iM (rv .u64 x) (n*1) (bC (fun j=>rv .u64 (fun _=>0) (j % 1)) (0*1) 1 (fun _=>aC r)) j=rv .u64 (aI x n r) j:=by
 intro j a;unfold iM rv aI;by_cases h:j<n*1
 ·rw[d_ h,b_ (by omega)]
 rw[b_ h,d_ (by omega)];unfold bC;rw[d_ (by omega)]
theorem LH{P:Nat->Bool}{n k j:Nat}(e:k=j+1)(h : ∀ i,k<=i->i<n->P i=true)(c:P j=true) : ∀ i,j<=i->i<n->P i=true:=fun i d b=>by
 by_cases a:i=j
 ·subst a; exact c
 ·exact h i (by omega) b
end Rt
theorem BL(m:kV)(p a:Nat)(o r:Int)(w:World)(h:Cx w p m)(ha:a<6)(b:o=(a:Int)+1) :
 Calls Tryz.prog 158 #[(pt p),au o,aC r] w fun e c=>e = .returned (.bool (decide (0<=m.kF a r)))/\Below w.heap.size w c:=by
 subst b; exact YI m p a r w h ha
set_option maxRecDepth 20000 in
set_option maxHeartbeats 2000000 in
theorem YZ(m:kV)(B p a D:Nat)(v:EvM)(w:World)(M:rX w B p m)(E:B<=w.heap.size)(ha:a<6)(ho:v.o=(a:Int)+1)(bgg:m.s.gn<=900000)(brr : ∀ i,i<6->m.rn i<=900000)(hTN : ∀ x,m.node x=bE m.t m.tn x)(hD:bE m.t m.tn (bH m.t m.tn D v.node)<0)(hD2:D<=1000) :
 Calls Tryz.prog 125 #[(pt p),.agg (aA 14 (bJ v))] w fun e w'=>e = .returned (au (iQ m.core v))/\Below B w w'/\(iQ m.core v=0 -> ∃ m',m'.core=jg m.core v/\rX w' B p m'):=by
 have U0:=M.c;have hLn:=M.n;have hLg:=M.g;have U1:=M.tc;have U2:=M.t;have hLr:=M.r;have U3:=M.pB;have Ei:=M.tB;have bn:=M.bn;have bg:=M.bg;have bt:=M.bt;have YR:p<w.heap.size:=U0.lt;have R8:m.tb<w.heap.size:=U1.lt;refine Kent Tryz.func125 188 ?_;refine ay<|om fun G w1 kM m1 s1 z1 => ?_;have⟨m2,m3,m4,m5,m6,m7⟩:=qY s1.old U0 hLn hLg U1 U2 hLr;have b1:=fA s1.old (Below.refl B w) E;have qZ:=iw kM (Below.refl B w).size;have⟨mJ,xV⟩:=oQ kM U0.lt U1.lt;have sF:=m1.lt;refine av (au 0)<|aD<|Ws<|ay<|av (pt p)<|av (pt G)<|Lv (au v.o) (aL m1.aH 0)<|av (pf G 12)<|Lv (aC v.req) (aL m1.aH 12) ?_;have NR:Cx w1 p m := { c:=m2.aH,an:=m3.arr,ag:=m4.arr,tc:=m5.aH,at2:=m6.arr,ar:=fun i L=>(m7.1 i L).arr,bn:=(by show m.s.nn<=1000000; omega),bg:=bg,bt:=(by show m.tn<=1000000; omega),br:=M.br };by_cases c17:(decide (0<=m.kF a v.req))=true
 ·refine dU (BL m p a v.o v.req _ NR ha ho) aG (by rw[c17]) ?_;intro w2 hb1;have b2:=fA hb1 b1 E;refine aD<|aM<|ay<|av (au 14)<|aD<|Wr<|sR<|aJ (au 14) ?_;have eN:aO v=a:=by unfold aO; omega
  have V:iQ m.core v=14:=by unfold iQ; rw[eN]; exact d_ (h_ c17)
  exact⟨pW V.symm,b2,fun h0=>by rw[V]at h0; cases h0⟩
 rw[T_]at c17;refine dU (BL m p a v.o v.req _ NR ha ho) aF (by rw[c17]) ?_;intro w3 hb2;have⟨m15,m16,m17,m18,m19,m20,m21⟩:=kg hb2 m2 m3 m4 m5 m6 m7 m1;have b3:=fA hb2 b1 E;refine aD<|aK<|Wk<|sN<|Ws ?_;refine ko [0,1,2,4,3,5,6,7] [0,0,0,4,0,4,3,0] [(6,3,[3]),(6,5,[5]),(7,6,[6])] fun qC dN iE => ?_;have⟨m22,m23,m24,mM,mU,oo,ou⟩:=kg dN m15 m16 m17 m18 m19 m20 m21;have b4:=fA dN b3 E;refine aX (pt p)<|aX (pt p)<|aX (pf p 20)<|aX (pf G 9)<|Rs (pt m.tb) (aL m22.aH 20) ?_;refine Rs (aC v.node) (aL ou.aH 9) ?_;refine ig<|kU (JK m.tb m.ta m.tn m.tc m.t v.node D _ (uK mM mU bt) hD hD2) ?_;rintro e w4 ⟨K,vv,he,hown,tu,hK1,hb3⟩;obtain⟨a1,A,rfl⟩:=hown.val;refine⟨.slice a1 K A,he,?_⟩;clear he;have X3:K=fB m.t m.tn v.node:=vQ tu hK1 hD hD2;have hKD:K<=1000:=by rw[X3]; exact JR _ _
 have⟨nG,nk,lI,m32,oU,nH,nR⟩:=kg hb3 m22 m23 m24 mM mU oo ou;have b5:=fA hb3 b4 E;refine Ln<|aX (.slice a1 (K) (A))<|bQ<|Ws<|ay<|av (.slice a1 (K) (A))<|av (au K) ?_;by_cases c27:(K:Int)=0
 ·refine Lv aG (dP c27)<|aD<|aM<|ay<|av (au 9)<|aD<|Wr<|sR<|aJ (au 9) ?_;have eN:aO v=a:=by unfold aO; omega
  have ne1 : ¬ 0<=m.core.kF (aO v) v.req:=by rw[eN]; exact j_ c17
  have V:iQ m.core v=9:=by unfold iQ; rw[b_ ne1]; exact d_ (X3.symm.trans (by omega))
  exact⟨pW V.symm,b5,fun h0=>by rw[V]at h0; cases h0⟩
 refine Lv aF (eO c27)<|aD<|aK<|Wk<|sN<|Ws<|ay<|av (au 0)<|aD<|Wb<|Wo (fun f F => ∃ k:Nat,∃ Rk:Nat->Nat->Int,k<=K/\dn (fun x=>bG x v.o v.aT) (oZ m.core v.node) m.R k=(Rk,0)/\f 0=(pt p)/\f 3=(pt G)/\f 5 = .slice a1 (K) (A)/\f 6=au (k:Int)/\aP F p 27 (kN m) 56/\Fx.Own F B 106 5 (.slice m.s.ga (m.s.gn) (m.s.gc)) m.s.gn (JI m)/\aP F m.tb 1 (fun _ => .slice m.ta m.tn m.tc) 156/\Fx.Own F B 153 2 (.slice m.ta (m.tn) (m.tc)) m.tn (QZ m.t)/\xq F B 6 m/\aP F G 14 (bJ v) 37/\Fx.Own F qC.heap.size 23 1 (.slice a1 (K) (A)) K (rv .u64 (fun i=>bH m.t m.tn i v.node))/\Fx.Own F B 84 56 (.slice m.s.na (m.s.nn) (m.s.nc)) m.s.nn (flat 56 (fun l=>mZ (m.id l) (m.par l) (Rk l)))/\Below B w F) (fun f _=>(K-(intOf (f 6)).toNat)) ⟨0,m.R,by omega,rfl,(by rfl),(by rfl),(by rfl),Fx.ic,nG,lI,m32,oU,nH,nR,hown,nk,b5⟩ ?_;rintro f1 w5 ⟨k,Rk,hk,hRk,Z,O,h3,h4,mO,qy,pX,pY,tZ,mP,mQ,mV,b6⟩;refine Ws<|ay<|aW h4<|aW h3<|av (au K) ?_;by_cases c31:(k:Int)<(K:Int)
 ·refine Lv aG (gY c31)<|aD<|aM<|Wk<|sN<|Ws<|Wb<|Ws ?_;obtain⟨q,hq,eq0,_⟩:=EB (m:=m) (x:=bH m.t m.tn k v.node) (by rw[hTN]; exact tu k (by omega));have ex1:oZ m.core v.node k=q:=by show(iq (fun i=>decide (m.id i=bH m.t m.tn k v.node)) m.s.nn).toNat=q; rw[eq0]; rfl
  refine Wl<|aW Z<|aW h3<|aW h4 ?_;obtain⟨GN,eq1⟩:=mQ.addr (by omega);have pI:Fx.Own w5 qC.heap.size 23 1 (bO GN K A) K (rv .u64 (fun i=>bH m.t m.tn i v.node)):=mQ.fU (L_ (fun q=>Value.slice q K A) eq1);refine Lv (pf GN k) (dh 1 (hx:=(rfl.trans (L_ (fun q=>Value.slice q (K) (A)) eq1))))<|Lv (aC (bH m.t m.tn k v.node)) (aL pI.aH k) ?_;have qb:Fx.Own w5 qC.heap.size 23 1 (.slice a1 (K) (A)) K (rv .u64 (fun i=>bH m.t m.tn i v.node)):=pI.fU (L_ (fun q=>Value.slice q K A) eq1.symm);have Vh:Cx w5 p { m with R:=Rk } := { c:=mO.aH,an:=mV.arr,ag:=qy.arr,tc:=pX.aH,at2:=pY.arr,ar:=fun i L=>(tZ.1 i L).arr,bn:=(by show m.s.nn<=1000000; omega),bg:=bg,bt:=(by show m.tn<=1000000; omega),br:=M.br };refine dU ((JJ { m with R:=Rk } p (bH m.t m.tn k v.node) _ Vh).mono (fun e w2 O=>(⟨O.1.trans (pW eq0),O.2⟩:e = .returned (au (q:Int))/\_))) _ rfl ?_;intro w6 hb4;have⟨oV,sG,uQ,sH,qD,sI,uR,sJ⟩:=nO hb4 mO qy pX pY tZ mP mV qb;have b7:=fA hb4 b6 E;refine av (au q)<|aD<|Ws ?_;obtain⟨Y,FU⟩:=uR.addr (by omega);have uS:Fx.Own w6 B 84 56 (bO Y m.s.nn m.s.nc) m.s.nn (flat 56 (fun l=>mZ (m.id l) (m.par l) (Rk l))):=uR.fU (L_ (fun q=>Value.slice q m.s.nn m.s.nc) FU);refine qW (T:=82) (T':=82) (a := .tmp 8) (v := .tmp 55) (m:=54) (z:=rv .i64 (fun _=>0)) (y:=rv .i64 ((bG (Rk q) v.o v.aT).1)) (u := .agg (aA 54 (rv .i64 ((bG (Rk q) v.o v.aT).1)))) 17 18 (List.replicate 20 (0,2,[],[])) #[(pt p),(pt p),(pt p),(pf p 18),.slice m.s.na (m.s.nn) (m.s.nc),au (q:Int),(pf Y (56*q)),(pf Y (56*q+2)),.agg (aA 54 (rv .i64 (Rk q))),(pt G),au v.o,(pf G 11),au v.aT,.tuple #[.agg (aA 54 (rv .i64 ((bG (Rk q) v.o v.aT).1))),au ((bG (Rk q) v.o v.aT).2)],.tuple #[.agg (aA 54 (rv .i64 ((bG (Rk q) v.o v.aT).1))),au ((bG (Rk q) v.o v.aT).2)],.agg (aA 54 (rv .i64 ((bG (Rk q) v.o v.aT).1))),au ((bG (Rk q) v.o v.aT).2),undef,undef,au ((bG (Rk q) v.o v.aT).2)] (by kernel_rfl) (by kernel_rfl) (by kernel_rfl) (by kernel_rfl) (by kernel_rfl) (by kernel_rfl) rfl (by kernel_rfl) rfl rfl (by kernel_rfl) (fun W=>(show ev _ (.tmp 8)=(pt W)from by kernel_rfl)) (fun W=>(show ev _ (.tmp 55) = .agg (aA 54 (rv .i64 ((bG (Rk q) v.o v.aT).1)))from by kernel_rfl)) (bK _ _) (fun _ _=>rfl) (by kernel_rfl) (fun W => ?_) ?_
  ·refine⟨?_,?_,?_,?_,?_,?_,?_,?_,?_,?_,?_,?_,?_,?_,?_,?_,?_,?_,?_,?_,trivial⟩
   ·exact .inr (.inr (oP (pt p) fun d b=>fI rfl ((bX (by kernel_rfl)).trans Z)))
   ·exact .inr (.inr mI)
   ·exact .inr (.inr mI)
   ·exact .inr (.inr mI)
   ·exact .inr (.inr (oP (.slice m.s.na (m.s.nn) (m.s.nc)) fun d b=>aZ (x:=kN m) rfl (show ev _ (.tmp 44)=(pf p 18)from by kernel_rfl) (by kernel_rfl) (oV.aH.below b (by have:=oV.lt; omega)) (i:=18) (by omega) (by omega) rfl))
   ·exact .inr (.inr mI)
   ·exact .inr (.inr (oP (pf Y (56*q)) fun d b=>dY rfl ((show ev _ (.tmp 45) = .slice m.s.na (m.s.nn) (m.s.nc)from by kernel_rfl).trans (L_ (fun q=>Value.slice q (m.s.nn) (m.s.nc)) FU)) (show ev _ (.tmp 46)=au (q:Int)from by kernel_rfl) Tryz.underlying47 (s:=56) (by kernel_rfl) (by omega) (by omega) (by omega)))
   ·exact .inr (.inr mI)
   ·exact .inr (.inr (oP (.agg (aA 54 (rv .i64 (Rk q)))) fun d b=>dR (x:=flat 56 (fun l=>mZ (m.id l) (m.par l) (Rk l))) (y:=rv .i64 (Rk q)) rfl (show ev _ (.tmp 48)=(pf Y (56*q+2))from by kernel_rfl) (by kernel_rfl) (by kernel_rfl) (uS.aH.below b (by have:=uS.lt; omega)) (i:=56*q+2) (by omega) (by omega) (fun X hjq=>(Fx.iH (k:=q) (j:=2+X) (by omega) (by omega)).trans ((fun X _=>JH _ _ _ X) X hjq))))
   ·exact .inr (.inr (oP (pt G) fun d b=>gu rfl ((bX (by kernel_rfl)).trans O) Tryz.underlying37 rfl (s:=1) (by kernel_rfl) rfl rfl))
   ·exact .inr (.inr (oP (au v.o) fun d b=>aZ (x:=bJ v) rfl (show ev _ (.tmp 50)=(pt G)from by kernel_rfl) (by kernel_rfl) (sI.aH.below b (by have:=sI.lt; omega)) (i:=0) (by omega) (by omega) rfl))
   ·exact .inr (.inr (oP (pf G 11) fun d b=>gu rfl ((bX (by kernel_rfl)).trans O) Tryz.underlying37 rfl (s:=1) (by kernel_rfl) rfl (by show _+11=_; omega)))
   ·exact .inr (.inr (oP (au v.aT) fun d b=>aZ (x:=bJ v) rfl (show ev _ (.tmp 52)=(pf G 11)from by kernel_rfl) (by kernel_rfl) (sI.aH.below b (by have:=sI.lt; omega)) (i:=11) (by omega) (by omega) rfl))
   ·exact .inr (.inr (Fx.Jl (v := .tuple #[.agg (aA 54 (rv .i64 ((bG (Rk q) v.o v.aT).1))),au ((bG (Rk q) v.o v.aT).2)]) (by kernel_rfl) (by kernel_rfl) (Fx.qbC (fun d b=>rC (args := [.agg (aA 54 (rv .i64 (Rk q))),au v.o,au v.aT]) rfl (Fx.OQ (show ev _ (.tmp 49) = .agg (aA 54 (rv .i64 (Rk q)))from by kernel_rfl) (show ev _ (.tmp 51)=au v.o from by kernel_rfl) (show ev _ (.tmp 53)=au v.aT from by kernel_rfl)) Tryz.func159 rfl rfl) (fun d b=>(YV (Rk q) v.o v.aT _).mono fun e v2 h=>⟨h.1,h.2⟩))))
   ·exact .inr (.inr mI)
   ·exact .inr (.inr mI)
   ·exact .inr (.inr mI)
   ·exact .inl rfl
   ·exact .inr (.inl rfl)
   exact .inr (.inr mI)
  rintro W w7 f2 hf1 pK wo hb5;have FC:p≠W:=u_ (n_ (oV.lt) pK);have anc:m.tb≠W:=u_ (n_ (uQ.lt) pK);have adq:G≠W:=u_ (n_ (sI.lt) pK);have ane:Y≠W:=u_ (n_ (uS.lt) pK);have⟨uf,sK,ug,wS,rz,uo,pJ,uh⟩:=nO hb5 oV sG uQ sH qD sI sJ uS;have b8:=fA hb5 b7 E;have pK:w.heap.size<=W:=m_ b7.size pK;have xR:=wo.lt;have q1:f2 0=(pt p):=by rw[hf1]; exact(bX (by kernel_rfl)).trans Z
  have q2:f2 3=(pt G):=by rw[hf1]; exact(bX (by kernel_rfl)).trans O
  have q3:f2 5 = .slice a1 (K) (A):=by rw[hf1]; exact(bX (by kernel_rfl)).trans h3
  have q4:f2 6=au (k:Int):=by rw[hf1]; exact(bX (by kernel_rfl)).trans h4
  have q15:f2 7=au (q:Int):=by rw[hf1]; kernel_rfl
  have q33:f2 8=(pt W):=by rw[hf1]; kernel_rfl
  have q34:f2 9=au ((bG (Rk q) v.o v.aT).2):=by rw[hf1]; kernel_rfl
  clear hf1;refine sN<|Ws<|ay<|aW q34 ?_;by_cases c58:((bG (Rk q) v.o v.aT).2)=0
  ·refine Lv aF (iN c58)<|aD<|aK<|Wk<|sN ?_;refine ko [0,1,2,3,5,4,6,7,8,9] [0,0,0,0,4,0,4,0,0,3] [(9,4,[4]),(9,6,[6])] fun Cr gK nU => ?_;have⟨m64,wT,wu,uT,yh,sM,wz,uH,wB⟩:=Ck gK uf sK ug wS rz uo pJ uh wo;have b9:=fA gK b8 E;refine bV q1<|aX (pt p)<|aX (pt p)<|aX (pf p 18)<|bV q15<|Rs (.slice m.s.na (m.s.nn) (m.s.nc)) (aL m64.aH 18) ?_;refine Rs (.agg (aA 54 (rv .i64 ((bG (Rk q) v.o v.aT).1)))) (eT wB.aH 0 (ha:=q33)) ?_;refine Rp (pf Y (56*q)) (fun _=>dh 56 (hx:=(rfl.trans (L_ (fun q=>Value.slice q (m.s.nn) (m.s.nc)) FU))))<|aX (pf Y (56*q+2))<|ig<|Ao uH (56*q+2) fun w8 wC s9 z2 => ?_;have fO:=fQ s9 uH.KN;have⟨Ah,wD,zR,yJ,zw,xQ,wU⟩:=Ta fO m64 wT wu uT yh sM wz;have b10:=s9.below b9 (m_ E b9.size) uH.blk.1;have yK:Fx.Own w8 B 84 56 (bO Y m.s.nn m.s.nc) m.s.nn (flat 56 (fun l=>mZ (m.id l) (m.par l) (aI Rk q ((bG (Rk q) v.o v.aT).1) l))):=wC.congr (fun U S=>(Fx.Cj (k:=q) (j:=2) (by omega) (by omega) U S).trans (bL (fun i L j hj=>CS i L j hj) U S));refine Ln<|Rn<|bS<|sN<|Wl<|aW q4<|Lv (au ((k:Int)+1)) fH<|av (au ((k:Int)+1))<|Ln ?_;have Ar:Fx.Own w8 B 84 56 (.slice m.s.na (m.s.nn) (m.s.nc)) m.s.nn (flat 56 (fun l=>mZ (m.id l) (m.par l) (aI Rk q ((bG (Rk q) v.o v.aT).1) l))):=yK.fU (L_ (fun q=>Value.slice q m.s.nn m.s.nc) FU.symm);refine iG ⟨k+1,(aI Rk q (bG (Rk q) v.o v.aT).1),by omega,(FM hRk ex1 (by first|exact c58|exact Classical.not_not.1 c58)),q1,q2,q3,Fx.ic,Ah,wD,zR,yJ,zw,xQ,wU,Ar,b10⟩ ?_
   show(K-(intOf (au ((k:Int)+1))).toNat)<_;simp only[h4,intOf]; omega
  refine Lv aG (jZ c58)<|aD<|aM<|ay<|aW q34<|av (au ((bG (Rk q) v.o v.aT).2))<|aD<|Wr<|sR<|bM<|sR<|pE<|bM<|sR<|aJ (au ((bG (Rk q) v.o v.aT).2)) ?_;have eN:aO v=a:=by unfold aO; omega
  have ne1 : ¬ 0<=m.core.kF (aO v) v.req:=by rw[eN]; exact j_ c17
  have ne2 : ¬ fB m.core.t m.core.tn v.node=0:=fun e=>c27 (by rw[show K=0 from X3.trans e]; rfl);have ew:nS m.core v=dn (fun x=>bG x v.o v.aT) (oZ m.core v.node) m.R K:=by unfold nS; rw[show fB m.core.t m.core.tn v.node=K from X3.symm]; rfl
  have V:iQ m.core v=(bG (Rk q) v.o v.aT).2:=by
   unfold iQ; rw[b_ ne1,b_ ne2,ew];have e1:=Iu hRk ex1 c58;rw[AO (k:=k+1) (by rw[e1]; exact c58) K (by omega)]; exact e1
  exact⟨pW V.symm,b8,fun h0=>M_ (V.symm.trans h0) c58⟩
 refine Lv aF (gZ c31)<|aD<|aK<|Wx<|cB<|gW<|bZ<|sN<|Ws ?_;have hRK:dn (fun x=>bG x v.o v.aT) (oZ m.core v.node) m.R K=(Rk,0):=by rw[show K=k by omega]; exact hRk
 refine Wl<|Lv (pt G) (gP O 0)<|Lv (au v.o) (aL mP.aH 0)<|Lv (pf G 12) (gP O 12)<|Lv (aC v.req) (aL mP.aH 12)<|Lv (pf G 9) (gP O 9)<|Lv (aC v.node) (aL mP.aH 9)<|Lv (pf G 11) (gP O 11)<|Lv (au v.aT) (aL mP.aH 11)<|av (.agg (aA 5 (bC (bC (bC (bC zR0 0 1 (fun _=>au v.o)) 1 1 (fun _=>aC v.req)) 2 1 (fun _=>aC v.node)) 3 1 (fun _=>au v.aT))))<|oC 5 zR0 fun Q w9 uI yL s10 z3 => ?_;have⟨BA,Bf,Bg,Au,Av,BD,Eh⟩:=kg s10.old mO qy pX pY tZ mP mV;have b11:=fA s10.old b6 E;have Ae:=iw uI b6.size;have adr:=cu uI mO.lt;have JL:(.slice m.s.ga (m.s.gn) (m.s.gc):Value).ownBlock≠some Q:=by rw[uI]; exact qy.kP (A_ _)
 have⟨ads,anf⟩:=oQ uI pX.lt mP.lt;have Ed:=yL.lt;refine dG yL 0 (h1:=(bB (bB (bB (bB (fun X _=>by show(zR0 X).oneCell'=true; simp only[zR0]; repeat (first|rfl|split)) (fun _ _=>rfl)) (fun _ _=>rfl)) (fun _ _=>rfl)) (fun _ _=>rfl))) fun rW CB s11 z4 => ?_
 have Dz:aP rW Q 5 (bC (bC (bC (bC zR0 0 1 (fun _=>au v.o)) 1 1 (fun _=>aC v.req)) 2 1 (fun _=>aC v.node)) 3 1 (fun _=>au v.aT)) 106:=aN CB;have jJ:=fQ s11 yL.ty;have AB:=iW jJ BA;have GJ:=Bf.bW s11 JL;have⟨EA,GL,GZ,xu,xw⟩:=rT jJ Bg Au Av BD Eh;have b12:=s11.below b11 (m_ E b11.size) (by omega);refine aD<|Ws ?_;have uU:aP rW Q 5 (jf (pz v)) 106:=Dz.congr (fun j hj=>by rcases j with _|_|_|_|_|j <;> first|rfl|omega)
 refine Wl<|aW Z<|av (pt p)<|av (pt p)<|av (pf p 19)<|Lv (.slice m.s.ga (m.s.gn) (m.s.gc)) (aL AB.aH 19)<|av (au m.s.gn)<|av (au m.s.gn)<|aD<|Ws ?_;refine zY [0,1,2,3,4,5,6,7,8,9,10,11,12] [0,0,0,0,0,1,4,2,2,0,0,0,3] (jm [106]) wm Fx.jm.trans (fK := [(12,5,[5]),(7,6,[6]),(8,6,[7,6]),(12,6,[6]),(8,7,[7]),(9,7,[7]),(10,7,[7]),(11,7,[7]),(12,7,[7]),(9,8,[8]),(10,8,[8]),(11,8,[8]),(12,8,[8])]) (by kernel_rfl) (by kernel_rfl) (by kernel_rfl) (by kernel_rfl) (by kernel_rfl) fun R9 mK Bv => ?_;have⟨qG,qj,rE,qH,rY,tN,vO,rZ⟩:=nO mK AB GJ EA GL GZ xu xw uU;have b13:=fA mK b12 E;refine bV Z<|bV Z<|aX (pt p)<|aX (pt p)<|aX (pf p 19)<|Rd (v := .slice m.s.ga (m.s.gn) (m.s.gc)) (by rfl) (by rfl) (wm _) (fun d b=>aZ (x:=kN m) rfl rfl (by kernel_rfl) (qG.lu b (by decide)).aH (i:=19) (by omega) (by omega) rfl) ?_;refine Rs (.agg (aA 5 (jf (pz v)))) (eT rZ.aH 0) ?_;refine yw<|zi (vs := [(0,.agg (aA 5 (jf (pz v))))]) (s:=5) (zc:=fun H=>if H<1 then au 0 else if H<3 then aC 0 else if H<4 then au 0 else aC 0) (y:=bC (fun j=>zR0 (j % 5)) (0*5) 5 (jf (pz v))) (by rfl) rfl rfl Tryz.underlying48 (by kernel_rfl) (by rfl) (by rfl) (by kernel_rfl) (by rw[bf (off:=0*5) (s:=5) (y:=jf (pz v)) rfl (bK _ _) (by rfl)]; rfl) rfl fun g4 Ec Ku uV s13 z5 => ?_;have⟨zS,vP,zT,CF,yj,uW,rF,yP⟩:=nO s13.old qG qj rE qH rY tN vO rZ;have b14:=fA s13.old b13 E;have PE:=iw Ku b13.size;have Y0:=cu Ku qG.lt;have Y1:(.slice m.s.ga (m.s.gn) (m.s.gc):Value).ownBlock≠some g4:=by rw[Ku]; exact qj.kP (A_ _)
 have⟨akC,Y2,akD⟩:=Bq Ku rE.lt tN.lt rZ.lt;have NS:=uV.lt;refine Ln ⟨Fx.jm.of_below s13.old,?_⟩;refine yw<|zP (B:=B) (s:=5) (bytes:=40) (k:=m.s.gn) (m:=1) (v := .slice m.s.ga (m.s.gn) (m.s.gc)) (x:=JI m) (by rfl) rfl rfl rfl Tryz.underlying48 (by kernel_rfl) (by kernel_rfl) rfl rfl vP uV.aH (zB (qz _)) (by omega) (by omega) (by omega) (m_ E b14.size) fun C A Bd ho1 hg1 wR hlt1 => ?_;have nQ:=zQ hg1 vP;have⟨uX,CG,JM,FD,BI,FE⟩:=S9 nQ zS zT CF yj uW rF;have G6:=yP.grown hg1 JL;have akE:Q≠C:=fun e=>wR.elim (fun e2=>JL (by rw[e]; exact e2)) (fun e2=>by have:=yP.lt; omega);have yQ:Fx.Own Bd B 106 5 (bO C (m.s.gn+1) A) (m.s.gn+1) (flat 5 (Fx.KP (fun l=>jf (m.g l)) (jf (pz v)) m.s.gn m.s.gn)):=(ho1.congr (fun j hj=>(Fx.yD j hj).trans (bL (fun i L q _=>Fx.yE i L q) j hj)));have b15:Below B w Bd:=zO b14 hg1 (m_ E b14.size) (fun q hq=>(vP.ge hq).1);refine Ln ⟨nQ,?_⟩;refine aX (pt p)<|aX (pt p)<|aX (pf p 19)<|ig<|jv uX 19 (bO C (m.s.gn+1) A) fun Fh CJ Af z6 => ?_;have ru:=fQ Af uX.ty;have⟨AJ,JV,Lu,FH,FI,G7,G8⟩:=Ta ru CG JM FD BI FE G6 yQ;have b16:=Af.below b15 (m_ E b15.size) (by omega);refine Ln<|bQ<|zn (fun f F => ∃ k:Nat,k<=m.s.gn/\k=down (fun i=>CQ v (m.g i)) m.s.gn/\f 0=(pt p)/\f 3=(pt G)/\f 10=(pt Q)/\f 11=au (k:Int)/\aP F m.tb 1 (fun _ => .slice m.ta m.tn m.tc) 156/\Fx.Own F B 153 2 (.slice m.ta (m.tn) (m.tc)) m.tn (QZ m.t)/\xq F B 6 m/\aP F G 14 (bJ v) 37/\Fx.Own F B 84 56 (.slice m.s.na (m.s.nn) (m.s.nc)) m.s.nn (flat 56 (fun l=>mZ (m.id l) (m.par l) (Rk l)))/\aP F Q 5 (jf (pz v)) 106/\aP F p 27 (dF (kN m) 19 (bO C (m.s.gn+1) A)) 56/\Fx.Own F B 106 5 (bO C (m.s.gn+1) A) (m.s.gn+1) (flat 5 (Fx.KP (fun l=>jf (m.g l)) (jf (pz v)) m.s.gn k))/\Below B w F) ?_ ?_
 ·refine Wb<|Wo (fun f F => ∃ k:Nat,k<=m.s.gn/\(∀ i,k<=i->i<m.s.gn->CQ v (m.g i)=true)/\f 0=(pt p)/\f 3=(pt G)/\f 10=(pt Q)/\f 11=au (k:Int)/\aP F m.tb 1 (fun _ => .slice m.ta m.tn m.tc) 156/\Fx.Own F B 153 2 (.slice m.ta (m.tn) (m.tc)) m.tn (QZ m.t)/\xq F B 6 m/\aP F G 14 (bJ v) 37/\Fx.Own F B 84 56 (.slice m.s.na (m.s.nn) (m.s.nc)) m.s.nn (flat 56 (fun l=>mZ (m.id l) (m.par l) (Rk l)))/\aP F Q 5 (jf (pz v)) 106/\aP F p 27 (dF (kN m) 19 (bO C (m.s.gn+1) A)) 56/\Fx.Own F B 106 5 (bO C (m.s.gn+1) A) (m.s.gn+1) (flat 5 (Fx.KP (fun l=>jf (m.g l)) (jf (pz v)) m.s.gn k))/\Below B w F) (fun f _=>(intOf (f 11)).toNat) ⟨m.s.gn,by omega,(fun i Z O=>M_ Z (by omega)),Z,O,(by rfl),Fx.ic,AJ,JV,Lu,FH,FI,G7,CJ,G8,b16⟩ ?_;rintro f3 I ⟨k,hk,hgt,P,h6,h7,J,CK,FJ,CO,FV,FK,AL,CP,BJ,b17⟩;refine Ws<|Ws ?_;refine vG<|eF J ?_;by_cases c97:0<(k:Int)
  ·obtain⟨j,ej⟩ : ∃ j,k=j+1:=⟨k-1,by omega⟩;refine Qv aG (fun d b=>mo c97)<|aU aG<|eF P<|aU (pt p)<|aU (pt p)<|aU (pf p 19)<|Qv (bO C (m.s.gn+1) A) (fun d b=>aL (CP.aH.dr b) 19 (Fx.lZ (by omega)))<|eF J<|Qv (au j) (fun d b=>gN)<|Qv (pf C (5*j)) (fun d b=>dh 5)<|aU (pf C (5*j))<|Qv (au ((m.g j) 0)) (fun d b=>aL (BJ.aH.dr b) (5*j) (Fx.gX (k:=j) (j:=0) (by omega) (by omega) ((congrFun (Fx.zZ (by omega) (by omega)) 0).trans rfl)))<|Qv (pt Q) (fun d b=>gP h7 0)<|Qv (au v.o) (fun d b=>aL (AL.aH.dr b) 0) ?_;by_cases Vi:v.o<((m.g j) 0)
   ·refine Qv aG (fun d b=>mo Vi)<|aU aG<|aS<|aS<|aS<|aS<|aS<|aS<|aS<|aS<|aS<|aS<|aS<|aS<|aS<|aS<|aS<|aS<|aS<|aS<|aS<|aS<|aS<|aS<|aS ?_;refine aS<|aS<|aS<|aS<|aS<|aU aG<|aU aG<|Qn ?_;rintro _ ⟨N,rfl⟩;obtain⟨Cv,qh⟩ : ∃ d,d=World.drewN I N:=⟨_,rfl⟩;rw[<- qh];have s15:Stp I.heap.size I Cv:=(by rw[qh]; exact Sb (jB I N));have⟨JN,U4,Vj,U5,U6,adF,U7,adt⟩:=nO s15.old CK FJ CO FV FK AL CP BJ;have b18:=fA s15.old b17 E;clear qh;refine sN<|aM<|Wk<|sN<|Wb<|Ws ?_;refine ko [0,1,2,3,5,6,7,8,9,11,12,4,10,13,14,15,16] [0,0,0,0,4,0,0,0,0,0,4,0,0,0,4,0,3] [(16,4,[4]),(16,10,[10]),(16,14,[14])] fun wt4 rJ Ig => ?_;have⟨U8,Q7,U9,Va,adu,adv,adG,Q8⟩:=nO rJ JN U4 Vj U5 U6 adF U7 adt;have b19:=fA rJ b18 E;refine bV P<|aX (pt p)<|aX (pt p)<|aX (pf p 19)<|bV J<|bV P<|aX (pt p)<|aX (pt p)<|aX (pf p 19)<|bV J<|Rp (au j) (fun _=>gN)<|Rs (bO C (m.s.gn+1) A) (aL adG.aH 19 (Fx.lZ (by omega))) ?_;refine Rs (bO C (m.s.gn+1) A) (aL adG.aH 19 (Fx.lZ (by omega))) ?_;refine Rp (pf C (5*j)) (fun _=>dh 5)<|Rs (.agg (aA 5 (jf (m.g j)))) (eT Q8.aH (5*j) (fun X hjq=>(Fx.iH (k:=j) (by omega) hjq).trans (congrFun (Fx.zZ (by omega) (by omega)) X))) ?_;refine Rp (pf C (5*k)) (fun _=>dh 5)<|ig<|Ao Q8 (5*k) (h1:=(fun j _=>qz _ j)) fun Kv adw Ie z7 => ?_;have yc:=fQ Ie Q8.KN;have⟨ahJ,adx,ady,adz,ang⟩:=rT yc U8 Q7 U9 Va adu;have anh:=adv.bW Ie (by omega);have ani:=iW yc adG;have b20:=Ie.below b19 (m_ E b19.size) Q8.blk.1;have anj:Fx.Own Kv B 106 5 (bO C (m.s.gn+1) A) (m.s.gn+1) (flat 5 (Fx.KP (fun l=>jf (m.g l)) (jf (pz v)) m.s.gn j)):=adw.congr (fun U S=>(Fx.vF (k:=k) (by omega) U S).trans (bL (fun i L q _=>Fx.zk ej (by omega) i L q) U S));refine Ln<|bQ<|Wl<|aW J<|Lv (au j) gN<|av (au j)<|Ln<|bS<|iG ⟨j,by omega,(LH ej hgt (by unfold CQ; rw[f_ Vi]; rfl)),P,h6,h7,Fx.ic,ahJ,adx,ady,adz,ang,anh,ani,anj,b20⟩ ?_;show(intOf (au j)).toNat<_;simp only[J,intOf]; omega
   refine Qv aF (fun d b=>mD Vi)<|aU aF<|eF P<|aU (pt p)<|aU (pt p)<|aU (pf p 19)<|Qv (bO C (m.s.gn+1) A) (fun d b=>aL (CP.aH.dr b) 19 (Fx.lZ (by omega)))<|eF J<|Qv (au j) (fun d b=>gN)<|Qv (pf C (5*j)) (fun d b=>dh 5)<|aU (pf C (5*j))<|Qv (au ((m.g j) 0)) (fun d b=>aL (BJ.aH.dr b) (5*j) (Fx.gX (k:=j) (j:=0) (by omega) (by omega) ((congrFun (Fx.zZ (by omega) (by omega)) 0).trans rfl)))<|Qv (pt Q) (fun d b=>gP h7 0)<|Qv (au v.o) (fun d b=>aL (AL.aH.dr b) 0) ?_;by_cases Y3:((m.g j) 0)=v.o
   ·refine Qv aG (fun d b=>dP Y3)<|aU aG<|eF P<|aU (pt p)<|aU (pt p)<|aU (pf p 19)<|Qv (bO C (m.s.gn+1) A) (fun d b=>aL (CP.aH.dr b) 19 (Fx.lZ (by omega)))<|eF J<|Qv (au j) (fun d b=>gN)<|Qv (pf C (5*j)) (fun d b=>dh 5)<|aU (pf C (5*j+1))<|Qv (aC ((m.g j) 1)) (fun d b=>aL (BJ.aH.dr b) (5*j+1) (Fx.gX (k:=j) (j:=1) (by omega) (by omega) ((congrFun (Fx.zZ (by omega) (by omega)) 1).trans rfl)))<|Qv (pf Q 1) (fun d b=>gP h7 1)<|Qv (aC v.req) (fun d b=>aL (AL.aH.dr b) 1) ?_;by_cases c139:v.req<((m.g j) 1)
    ·refine Qv aG (fun d b=>mo c139)<|aU aG<|aU aG<|aU aG<|Qn ?_;rintro _ ⟨N,rfl⟩;obtain⟨wq2,tL⟩ : ∃ d,d=World.drewN I N:=⟨_,rfl⟩;rw[<- tL];have M8:Stp I.heap.size I wq2:=(by rw[tL]; exact Sb (jB I N));have⟨ank,anl,anm,ano,anp,anq,anr,ant⟩:=nO M8.old CK FJ CO FV FK AL CP BJ;have ND:=fA M8.old b17 E;clear tL;refine sN<|aM<|Wk<|sN<|Wb<|Ws ?_;refine ko [0,1,2,3,5,6,7,8,9,11,12,4,10,13,14,15,16] [0,0,0,0,4,0,0,0,0,0,4,0,0,0,4,0,3] [(16,4,[4]),(16,10,[10]),(16,14,[14])] fun wt5 Ag TN => ?_;have⟨anu,anv,anw,anx,anz,anA,adH,Y4⟩:=nO Ag ank anl anm ano anp anq anr ant;have M6:=fA Ag ND E;refine bV P<|aX (pt p)<|aX (pt p)<|aX (pf p 19)<|bV J<|bV P<|aX (pt p)<|aX (pt p)<|aX (pf p 19)<|bV J<|Rp (au j) (fun _=>gN)<|Rs (bO C (m.s.gn+1) A) (aL adH.aH 19 (Fx.lZ (by omega))) ?_;refine Rs (bO C (m.s.gn+1) A) (aL adH.aH 19 (Fx.lZ (by omega))) ?_;refine Rp (pf C (5*j)) (fun _=>dh 5)<|Rs (.agg (aA 5 (jf (m.g j)))) (eT Y4.aH (5*j) (fun X hjq=>(Fx.iH (k:=j) (by omega) hjq).trans (congrFun (Fx.zZ (by omega) (by omega)) X))) ?_;refine Rp (pf C (5*k)) (fun _=>dh 5)<|ig<|Ao Y4 (5*k) (h1:=(fun j _=>qz _ j)) fun w16 anB s20 z8 => ?_;have yg:=fQ s20 Y4.KN;have⟨anC,anD,anE,anF,anG⟩:=rT yg anu anv anw anx anz;have anH:=anA.bW s20 (by omega);have anI:=iW yg adH;have Yt:=s20.below M6 (m_ E M6.size) Y4.blk.1;have anJ:Fx.Own w16 B 106 5 (bO C (m.s.gn+1) A) (m.s.gn+1) (flat 5 (Fx.KP (fun l=>jf (m.g l)) (jf (pz v)) m.s.gn j)):=anB.congr (fun U S=>(Fx.vF (k:=k) (by omega) U S).trans (bL (fun i L q _=>Fx.zk ej (by omega) i L q) U S));refine Ln<|bQ<|Wl<|aW J<|Lv (au j) gN<|av (au j)<|Ln<|bS<|iG ⟨j,by omega,(LH ej hgt (by unfold CQ; rw[f_ Y3,f_ c139]; cases decide (v.o<m.g j 0) <;> rfl)),P,h6,h7,Fx.ic,anC,anD,anE,anF,anG,anH,anI,anJ,Yt⟩ ?_
     show(intOf (au j)).toNat<_;simp only[J,intOf]; omega
    refine Qv aF (fun d b=>mD c139)<|aU aF<|aU aF<|aU aF<|Qn ?_;rintro _ ⟨N,rfl⟩;obtain⟨X0,AQ⟩ : ∃ d,d=World.drewN I N:=⟨_,rfl⟩;rw[<- AQ];have s21:Stp I.heap.size I X0:=(by rw[AQ]; exact Sb (jB I N));have⟨anK,anL,anM,anN,anO,anP,anQ,anR⟩:=nO s21.old CK FJ CO FV FK AL CP BJ;have Yu:=fA s21.old b17 E;clear AQ;refine sN<|aK<|Wx<|cB<|gW<|bZ ?_;exact nE ⟨k,hk,(Fx.qw hk hgt (.inr (fun j2 e=>by rw[show j2=j by omega]; unfold CQ; rw[g_ Vi,g_ c139,I_]; rfl))),P,h6,h7,(J.trans Fx.ic),anK,anL,anM,anN,anO,anP,anQ,anR,Yu⟩
   refine Qv aF (fun d b=>eO Y3)<|aU aF<|aS<|aS<|aS<|aS<|aS<|aS<|aS<|aS<|aS<|aS<|aS<|aS<|aS<|aU aF<|aU aF<|aU aF<|Qn ?_;rintro _ ⟨N,rfl⟩;obtain⟨wq4,FW⟩ : ∃ d,d=World.drewN I N:=⟨_,rfl⟩;rw[<- FW];have s22:Stp I.heap.size I wq4:=(by rw[FW]; exact Sb (jB I N));have⟨anS,anT,anU,anV,anW,anX,anY,anZ⟩:=nO s22.old CK FJ CO FV FK AL CP BJ;have b25:=fA s22.old b17 E;clear FW;refine sN<|aK<|Wx<|cB<|gW<|bZ ?_;exact nE ⟨k,hk,(Fx.qw hk hgt (.inr (fun j2 e=>by rw[show j2=j by omega]; unfold CQ; rw[g_ Vi,g_ Y3]; rfl))),P,h6,h7,(J.trans Fx.ic),anS,anT,anU,anV,anW,anX,anY,anZ,b25⟩
  refine Qv aF (fun d b=>mD c97)<|aU aF<|aS<|aS<|aS<|aS<|aS<|aS<|aS<|aS<|aS<|aS<|aS<|aS<|aS<|aS<|aS<|aS<|aS<|aS<|aS<|aS<|aS<|aS<|aS ?_;refine aS<|aS<|aS<|aS<|aS<|aS<|aS<|aS<|aS<|aS<|aS<|aS<|aS<|aS<|aS<|aS<|aS<|aS<|aS<|aS<|aU aF<|Qn ?_;rintro _ ⟨N,rfl⟩;obtain⟨wq5,NT⟩ : ∃ d,d=World.drewN I N:=⟨_,rfl⟩;rw[<- NT];have s23:Stp I.heap.size I wq5:=by rw[NT]; exact Sb (jB I N)
  have⟨aoa,aob,aoc,aod,aoe,aof,aog,aoh⟩:=nO s23.old CK FJ CO FV FK AL CP BJ;have b26:=fA s23.old b17 E;clear NT;refine sN<|aK<|Wx<|cB<|gW<|bZ ?_;exact nE ⟨k,hk,(Fx.qw hk hgt (.inl (by omega))),P,h6,h7,(J.trans Fx.ic),aoa,aob,aoc,aod,aoe,aof,aog,aoh,b26⟩
 rintro f4 Sd ⟨k,hk,ek,h9,h10,h11,h12,aoi,aoj,aok,aol,aom,aon,aoo,aop,b27⟩;refine Ws ?_;refine ko [0,1,2,3,5,4,6,7,8] [0,0,0,0,4,0,4,0,3] [(8,4,[4]),(8,6,[6])] fun wt6 K9 ahj => ?_;have⟨aoq,aor,aos,aot,aou,ahT,ahU,adI⟩:=nO K9 aoi aoj aok aol aom aon aoo aop;have b28:=fA K9 b27 E;refine bV h9<|aX (pt p)<|aX (pt p)<|aX (pf p 19)<|bV h12<|Rs (bO C (m.s.gn+1) A) (aL ahU.aH 19 (Fx.lZ (by omega))) ?_;refine Rs (.agg (aA 5 (jf (pz v)))) (eT ahT.aH 0 (ha:=h11)) ?_;refine Rp (pf C (5*k)) (fun _=>dh 5)<|ig<|Ao adI (5*k) (h1:=(fun j _=>qz _ j)) fun TR aov s25 z9 => ?_;have BH:=fQ s25 adI.KN;have⟨aow,aox,ahV,aoy,aoz⟩:=rT BH aoq aor aos aot aou;have aoA:=ahT.bW s25 (by omega);have aoB:=iW BH ahU;have b29:=s25.below b28 (m_ E b28.size) adI.blk.1;have aoC:Fx.Own TR B 106 5 (bO C (m.s.gn+1) A) (m.s.gn+1) (flat 5 (Fx.Jq (fun l=>jf (m.g l)) k (jf (pz v)))):=aov.congr (fun U S=>(Fx.vF (k:=k) (by omega) U S).trans (bL (fun i L q _=>Fx.uz (by omega) i L q) U S));refine Ln<|bQ<|Ws ?_;have aoD:Fx.Own TR B 23 1 (.slice (m.ra a) (m.rn a) (m.rc a)) (m.rn a) (rv .u64 (m.rq a)):=ahV.1 a ha;have bra:=M.br a ha;refine zY [0,1,4,5,8,9,12,16,17,2,3,6,7,10,11,13,14,15,18,19] [0,0,1,0,0,0,1,0,0,0,0,1,0,4,2,2,0,0,0,3] (jm [23]) wm Fx.jm.trans (fK := [(19,2,[2]),(19,6,[6]),(19,11,[11]),(14,13,[13]),(15,13,[14,13]),(19,13,[13]),(15,14,[14]),(18,14,[14]),(19,14,[14]),(18,15,[15]),(19,15,[15])]) (by kernel_rfl) (by kernel_rfl) (by kernel_rfl) (by kernel_rfl) (by kernel_rfl) fun wt7 La ahk => ?_;have⟨ahW,aoE,aoF,Y5,aoG,aoH,adJ,ahX,ahY⟩:=Ck La aow aox ahV aoy aoz aoA aoB aoC aoD;have b30:=fA La b29 E;refine bV h9<|Rp (pt G) (fun _=>gP h10 0)<|bV h9<|Rp (pt G) (fun _=>gP h10 0)<|aX (pt p)<|aX (pf p 21)<|Rp (pf G 12) (fun _=>gP h10 12)<|aX (pt p)<|aX (pf p 21)<|Rd (v:=au v.o) (by rfl) (by rfl) (wm _) (fun d b=>aZ (x:=bJ v) rfl rfl (by kernel_rfl) (Y5.lu b (by decide)).aH (i:=0) (by omega) (by omega) rfl) ?_;refine Rp (au a) (fun _=>gN)<|Rd (v:=au v.o) (by rfl) (by rfl) (wm _) (fun d b=>aZ (x:=bJ v) rfl rfl (by kernel_rfl) (Y5.lu b (by decide)).aH (i:=0) (by omega) (by omega) rfl) ?_;refine Rp (au a) (fun _=>gN)<|Rp (pf p (a+21)) (fun _=>jV 6 1)<|Rd (v := .slice (m.ra a) (m.rn a) (m.rc a)) (by rfl) (by rfl) (wm _) (fun d b=>aZ (x:=dF (kN m) 19 (bO C (m.s.gn+1) A)) rfl rfl (by kernel_rfl) (adJ.lu b (by decide)).aH (i:=a+21) (by omega) (by omega) (Fx.Bj (by omega) (xk _ (by omega)))) ?_;refine Rs (aC v.req) (aL Y5.aH 12) ?_;refine yw<|zi (vs := [(0,aC v.req)]) (s:=1) (zc:=rv .u64 (fun _=>0)) (y:=bC (fun j=>(rv .u64 (fun _=>0)) (j % 1)) (0*1) 1 (fun _=>aC v.req)) (by rfl) rfl rfl Tryz.underlying53 (by kernel_rfl) (by rfl) (by rfl) (by kernel_rfl) (by rw[bf (off:=0*1) (s:=1) (y:=fun _=>aC v.req) rfl (cells_one (by rfl)) (by rfl)]; rfl) rfl fun g6 w19 eg6 ahZ s27 z10 => ?_;have⟨aoI,aoJ,aoK,aoL,aoM,aoN,adL⟩:=kg s27.old ahW aoE aoF aoG adJ ahX ahY;have b31:=fA s27.old b30 E;have lg6:=iw eg6 b30.size;have⟨akF,akG,akH,akI,akJ⟩:=Ap eg6 ahW.lt Y5.lt aoH.lt adJ.lt ahX.lt;have akK:(.slice (m.ra a) (m.rn a) (m.rc a):Value).ownBlock≠some g6:=by rw[eg6]; exact ahY.kP (A_ _)
 have tg6:=ahZ.lt;refine Ln ⟨Fx.jm.of_below s27.old,?_⟩;refine yw<|zP (B:=B) (s:=1) (bytes:=8) (k:=(m.rn a)) (m:=1) (v := .slice (m.ra a) (m.rn a) (m.rc a)) (x:=rv .u64 (m.rq a)) (by rfl) rfl rfl rfl Tryz.underlying53 (by kernel_rfl) (by kernel_rfl) rfl rfl adL ahZ.aH (zB (fun _=>rfl)) (by omega) (by omega) (by omega) (m_ E b31.size) fun g7 cap2 XY ho2 hg2 NI hlt2 => ?_;have FB:=zQ hg2 adL;have⟨aoQ,aoR,aoS,aia,aoT⟩:=rT FB aoI aoJ aoL aoM aoN;have aoU:Fx.Own XY B 23 1 (.slice (some ⟨g7,0,none⟩) ((m.rn a)+1) cap2) ((m.rn a)+1) (rv .u64 (aI (m.rq a) (m.rn a) v.req)):=(ho2.congr (fun j hj=>PD j hj));have b32:Below B w XY:=zO b31 hg2 (m_ E b31.size) (fun q hq=>(adL.ge hq).1);have aoV:xq XY B 6 { m with ra:=aI m.ra a (some ⟨g7,0,none⟩),rn:=aI m.rn a (m.rn a+1),rc:=aI m.rc a cap2,rq:=aI m.rq a (aI (m.rq a) (m.rn a) v.req) }:=xq.app aoK ha rfl rfl rfl rfl aoU hg2 NI;refine Ln ⟨FB,?_⟩;refine Rp (pf p (a+21)) (fun _=>jV 6 1)<|ig<|jv aia (a+21) (.slice (some ⟨g7,0,none⟩) ((m.rn a)+1) (cap2)) fun w21 aoW s28 z11 => ?_;have adM:=fQ s28 aia.ty;have⟨aoX,aoY,aoZ,apa,apb⟩:=rT adM aoQ aoR aoS aoT aoV;have b33:=s28.below b32 (m_ E b32.size) (by omega);refine Ln<|bQ<|ay<|av (au 0)<|aD<|Wr<|aJ (au 0) ?_;have eN:aO v=a:=by unfold aO; omega
 have ne1 : ¬ 0<=m.core.kF (aO v) v.req:=by rw[eN]; exact j_ c17
 have ne2 : ¬ fB m.core.t m.core.tn v.node=0:=fun e=>c27 (by rw[show K=0 from X3.trans e]; rfl);have ew:nS m.core v=dn (fun x=>bG x v.o v.aT) (oZ m.core v.node) m.R K:=by unfold nS; rw[show fB m.core.t m.core.tn v.node=K from X3.symm]; rfl
 have V:iQ m.core v=0:=by unfold iQ; rw[b_ ne1,b_ ne2,ew,hRK]
 have eW:nS m.core v=(Rk,0):=ew.trans hRK;have apc:Fx.Own w21 B 106 5 (bO C (m.s.gn+1) A) (m.s.gn+1) (flat 5 fun l=>jf (cO m.g k (pz v) l)):=by rw[<- YU]; exact apa
 refine⟨pW V.symm,b33,fun _=>⟨{ m with s := { m.s with ga:=some ⟨C,0,none⟩,gn:=m.s.gn+1,gc:=A },R:=Rk,g:=cO m.g k (pz v),ra:=aI m.ra a (some ⟨g7,0,none⟩),rn:=aI m.rn a (m.rn a+1),rc:=aI m.rc a cap2,rq:=aI m.rq a (aI (m.rq a) (m.rn a) v.req) },?_,?_⟩⟩
 ·unfold jg rG; rw[eW,eN]; rw[show down (fun i=>CQ v (m.core.g i)) m.core.gn=k from ek.symm]; rfl
 exact { c:=aoW.to ((L_ (fun z=>dF z (a+21) _) (NM m _ _ _)).trans (LA _ rfl _ _ _)),n:=aoZ,g:=apc,tc:=aoX,t:=aoY,r:=apb,pB:=U3,tB:=Ei,bn:=bn,bg:=(by show m.s.gn+1<=1000000; omega),bt:=bt,br:=(fun i L=>by show aI m.rn a (m.rn a+1) i<=1000000; have:=brr i L; have:=brr a ha; unfold aI; split <;> omega) }
namespace Rt
def xW(L:eP)(v:EvM):Nat:=(L.grant v.o v.of).toNat
def mX(L:eP)(v:EvM):(Nat->Nat->Int) × Int:=dn (fun x=>bI x v.o (L.g (xW L v) 3)) (oZ L (L.g (xW L v) 2)) L.R (fB L.t L.tn (L.g (xW L v) 2))
def iJ(L:eP)(v:EvM):Int:=if 0<=L.kF (aO v) v.req then 14 else if L.grant v.o v.of<0\/L.g (xW L v) 4≠0 then 12 else(mX L v).2
def gG(L:eP)(v:EvM):eP:=rG { L with R:=(mX L v).1,g:=aI L.g (xW L v) (aI (L.g (xW L v)) 4 v.req) } (aO v) v.req
theorem Vk{m:kV}{o r:Int}(h : ¬ m.grant o r<0) : ∃ q:Nat,q<m.s.gn/\m.grant o r=(q:Int)/\m.g q 0=o/\m.g q 1=r:=by
 rcases iF (fun i=>decide (m.g i 0=o)&&decide (m.g i 1=r)) m.s.gn with ⟨q,b,e,a⟩|⟨e,_⟩
 ·rw[S_]at a;exact⟨q,b,e,h_ a.1,h_ a.2⟩
 unfold kV.grant at h; omega
theorem Rj{n q:Nat}{g:Nat->Nat->Int}{r:Int} : ∀ i,i<n -> ∀ j,j<5->Fx.rR (fun a=>jf (g a)) q (dF (jf (g q)) 4 (aC r)) i j=jf (aI g q (aI (g q) 4 r) i) j:=fun i _ j b=>by
 unfold Fx.rR;by_cases h:i=q
 ·subst h;rw[d_ rfl];unfold aI dF jf;rw[d_ rfl]
  rcases j with _|_|_|_|_|j <;> first|rfl|omega
 ·rw[b_ h]; unfold aI; rw[b_ h]
end Rt
set_option maxRecDepth 20000 in
set_option maxHeartbeats 2000000 in
theorem Y6(m:kV)(B p a:Nat)(v:EvM)(w:World)(F:rX w B p m)(A:B<=w.heap.size)(ha:a<6)(ho:v.o=(a:Int)+1)(bgg:m.s.gn<=900000)(brr : ∀ i,i<6->m.rn i<=900000)(hTN : ∀ x,m.node x=bE m.t m.tn x)(hDx : ∀ x,∃ D,D<=1000/\bE m.t m.tn (bH m.t m.tn D x)<0) :
 Calls Tryz.prog 126 #[(pt p),.agg (aA 14 (bJ v))] w fun e w'=>e = .returned (au (iJ m.core v))/\Below B w w'/\(iJ m.core v=0 -> ∃ m',m'.core=gG m.core v/\rX w' B p m'):=by
 have U0:=F.c;have hLn:=F.n;have hLg:=F.g;have U1:=F.tc;have U2:=F.t;have hLr:=F.r;have U3:=F.pB;have Ei:=F.tB;have bn:=F.bn;have bg:=F.bg;have bt:=F.bt;have YR:p<w.heap.size:=U0.lt;have R8:m.tb<w.heap.size:=U1.lt;refine Kent Tryz.func126 128 ?_;refine ay<|om fun E w1 kM m1 s1 z1 => ?_;have⟨m2,m3,m4,m5,m6,m7⟩:=qY s1.old U0 hLn hLg U1 U2 hLr;have b1:=fA s1.old (Below.refl B w) A;have qZ:=iw kM (Below.refl B w).size;have⟨mJ,xV⟩:=oQ kM U0.lt U1.lt;have sF:=m1.lt;refine av (au 0)<|aD<|Ws<|ay<|av (pt p)<|av (pt E)<|Lv (au v.o) (aL m1.aH 0)<|av (pf E 12)<|Lv (aC v.req) (aL m1.aH 12) ?_;have NR:Cx w1 p m := { c:=m2.aH,an:=m3.arr,ag:=m4.arr,tc:=m5.aH,at2:=m6.arr,ar:=fun i J=>(m7.1 i J).arr,bn:=(by show m.s.nn<=1000000; omega),bg:=bg,bt:=(by show m.tn<=1000000; omega),br:=F.br };by_cases S:(decide (0<=m.kF a v.req))=true
 ·refine dU (BL m p a v.o v.req _ NR ha ho) aG (by rw[S]) ?_;intro w2 hb1;have b2:=fA hb1 b1 A;refine aD<|aM<|ay<|av (au 14)<|aD<|Wr<|sR<|aJ (au 14) ?_;have L:aO v=a:=by unfold aO; omega
  have H:iJ m.core v=14:=by unfold iJ; rw[L]; exact d_ (h_ S)
  exact⟨pW H.symm,b2,fun M=>by rw[H]at M; cases M⟩
 rw[T_]at S;refine dU (BL m p a v.o v.req _ NR ha ho) aF (by rw[S]) ?_;intro w3 hb2;have⟨m15,m16,m17,m18,m19,m20,m21⟩:=kg hb2 m2 m3 m4 m5 m6 m7 m1;have b3:=fA hb2 b1 A;refine aD<|aK<|Wk<|sN<|ay<|av (pt p)<|av (pt E)<|Lv (au v.o) (aL m21.aH 0)<|av (pf E 13)<|Lv (aC v.of) (aL m21.aH 13) ?_;have Vh:Cx w3 p m := { c:=m15.aH,an:=m16.arr,ag:=m17.arr,tc:=m18.aH,at2:=m19.arr,ar:=fun i J=>(m20.1 i J).arr,bn:=(by show m.s.nn<=1000000; omega),bg:=bg,bt:=(by show m.tn<=1000000; omega),br:=F.br };refine dU (YH m p v.o v.of _ Vh) _ rfl ?_;intro w4 hb3;have⟨m22,m23,m24,mM,mU,oo,ou⟩:=kg hb3 m15 m16 m17 m18 m19 m20 m21;have b4:=fA hb3 b3 A;refine av (au (m.grant v.o v.of))<|aD<|Ws<|ay<|av (au (m.grant v.o v.of)) ?_;by_cases aa:(m.grant v.o v.of)<0
 ·refine Lv aG (gY aa)<|av aG<|bF<|bF<|bF<|bF<|bF<|bF<|bF<|bF<|bF<|bF<|av aG<|aD<|aM<|ay<|av (au 12)<|aD<|Wr<|sR<|aJ (au 12) ?_;have L:aO v=a:=by unfold aO; omega
  have Y : ¬ 0<=m.core.kF (aO v) v.req:=by rw[L]; exact j_ S
  have H:iJ m.core v=12:=by unfold iJ; rw[b_ Y]; exact d_ (.inl aa)
  exact⟨pW H.symm,b4,fun M=>by rw[H]at M; cases M⟩
 obtain⟨b,hkg,ekg,_,_⟩:=Vk aa;have ab:xW m.core v=b:=by show(m.grant v.o v.of).toNat=b; rw[ekg]; rfl
 refine Lv aF (gZ aa)<|av aF<|av (pt p)<|av (pt p)<|av (pt p)<|av (pf p 19)<|Lv (.slice m.s.ga (m.s.gn) (m.s.gc)) (aL m22.aH 19)<|aW (L_ (Value.int .i64) ekg) ?_;obtain⟨af,eq1⟩:=m24.addr (by omega);have nG:Fx.Own w4 B 106 5 (bO af m.s.gn m.s.gc) m.s.gn (JI m):=m24.fU (L_ (fun q=>Value.slice q m.s.gn m.s.gc) eq1);refine Lv (pf af (5*b)) (dh 5 (hx:=(rfl.trans (L_ (fun q=>Value.slice q (m.s.gn) (m.s.gc)) eq1))))<|av (pf af (5*b+4))<|Lv (aC ((m.g b) 4)) (aL nG.aH (5*b+4) (Fx.gX (k:=b) (j:=4) (by omega) (by omega) rfl)) ?_;by_cases ae:((m.g b) 4)=0
 ·refine Lv aF (iN ae)<|av aF<|aD<|aK<|Wk<|sN<|Ws ?_;obtain⟨D,hD2,hD⟩:=hDx (m.g b 2);refine ko [0,1,2,4,5,6,7,9,3,8,10,11,12,13,14] [0,0,0,4,0,0,0,0,4,0,0,0,4,3,0] [(13,3,[3]),(13,8,[12,11,10,8]),(13,12,[12]),(14,13,[13])] fun qC dN iE => ?_;have⟨nk,lI,m32,oU,nH,nR,mO⟩:=kg dN m22 m23 mM mU oo ou nG;have b5:=fA dN b4 A;refine aX (pt p)<|aX (pt p)<|aX (pf p 20)<|aX (pt p)<|aX (pt p)<|aX (pt p)<|aX (pf p 19)<|bV (L_ (Value.int .i64) ekg)<|Rs (pt m.tb) (aL nk.aH 20) ?_;refine Rs (.slice m.s.ga (m.s.gn) (m.s.gc)) (aL nk.aH 19) ?_;refine Rp (pf af (5*b)) (fun _=>dh 5 (hx:=(rfl.trans (L_ (fun q=>Value.slice q (m.s.gn) (m.s.gc)) eq1))))<|aX (pf af (5*b+2))<|Rs (aC ((m.g b) 2)) (aL mO.aH (5*b+2) (Fx.gX (k:=b) (j:=2) (by omega) (by omega) rfl)) ?_;refine ig<|kU (JK m.tb m.ta m.tn m.tc m.t (m.g b 2) D _ (uK m32 oU bt) hD hD2) ?_;rintro e w5 ⟨K,vv,he,hown,tu,hK1,hb4⟩;obtain⟨Z,C,rfl⟩:=hown.val;refine⟨.slice Z K C,he,?_⟩;clear he;have X3:K=fB m.t m.tn (m.g b 2):=vQ tu hK1 hD hD2;have hKD:K<=1000:=by rw[X3]; exact JR _ _
  have⟨qy,pX,pY,tZ,mP,mQ,mV⟩:=kg hb4 nk lI m32 oU nH nR mO;have b6:=fA hb4 b5 A;refine Ln<|aX (.slice Z (K) (C))<|bQ<|Ws<|ay<|av (au 0)<|aD<|Wb ?_;have pI:Fx.Own w5 B 106 5 (.slice m.s.ga (m.s.gn) (m.s.gc)) m.s.gn (JI m):=mV.fU (L_ (fun q=>Value.slice q m.s.gn m.s.gc) eq1.symm);refine Wo (fun f Q => ∃ k:Nat,∃ Rk:Nat->Nat->Int,k<=K/\dn (fun x=>bI x v.o (m.g b 3)) (oZ m.core (m.g b 2)) m.R k=(Rk,0)/\f 0=(pt p)/\f 3=(pt E)/\f 6 = .slice Z (K) (C)/\f 7=au (k:Int)/\f 5=au (b:Int)/\aP Q p 27 (kN m) 56/\aP Q m.tb 1 (fun _ => .slice m.ta m.tn m.tc) 156/\Fx.Own Q B 153 2 (.slice m.ta (m.tn) (m.tc)) m.tn (QZ m.t)/\xq Q B 6 m/\aP Q E 14 (bJ v) 37/\Fx.Own Q B 106 5 (.slice m.s.ga (m.s.gn) (m.s.gc)) m.s.gn (JI m)/\Fx.Own Q qC.heap.size 23 1 (.slice Z (K) (C)) K (rv .u64 (fun i=>bH m.t m.tn i (m.g b 2)))/\Fx.Own Q B 84 56 (.slice m.s.na (m.s.nn) (m.s.nc)) m.s.nn (flat 56 (fun l=>mZ (m.id l) (m.par l) (Rk l)))/\Below B w Q) (fun f _=>(K-(intOf (f 7)).toNat)) ⟨0,m.R,by omega,rfl,(by rfl),(by rfl),(by rfl),Fx.ic,((L_ (Value.int .i64) ekg).trans Fx.ic),qy,pY,tZ,mP,mQ,pI,hown,pX,b6⟩ ?_;rintro f1 w6 ⟨k,Rk,hk,hRk,W,O,h3,h4,h5,qb,oV,sG,uQ,sH,qD,sI,uR,b7⟩;refine Ws<|ay<|aW h4<|aW h3<|av (au K) ?_;by_cases c54:(k:Int)<(K:Int)
  ·refine Lv aG (gY c54)<|aD<|aM<|Wk<|sN<|Ws<|Wb<|Ws ?_;obtain⟨q,hq,eq0,_⟩:=EB (m:=m) (x:=bH m.t m.tn k (m.g b 2)) (by rw[hTN]; exact tu k (by omega));have ex1:oZ m.core (m.g b 2) k=q:=(by show(iq (fun i=>decide (m.id i=bH m.t m.tn k (m.g b 2))) m.s.nn).toNat=q; rw[eq0]; rfl);refine Wl<|aW W<|aW h3<|aW h4 ?_;obtain⟨Vl,FU⟩:=sI.addr (by omega);have sJ:Fx.Own w6 qC.heap.size 23 1 (bO Vl K C) K (rv .u64 (fun i=>bH m.t m.tn i (m.g b 2))):=sI.fU (L_ (fun q=>Value.slice q K C) FU);refine Lv (pf Vl k) (dh 1 (hx:=(rfl.trans (L_ (fun q=>Value.slice q (K) (C)) FU))))<|Lv (aC ((fun i=>bH m.t m.tn i (m.g b 2)) k)) (aL sJ.aH k) ?_;have uS:Fx.Own w6 qC.heap.size 23 1 (.slice Z (K) (C)) K (rv .u64 (fun i=>bH m.t m.tn i (m.g b 2))):=sJ.fU (L_ (fun q=>Value.slice q K C) FU.symm);have apd:Cx w6 p { m with R:=Rk } := { c:=qb.aH,an:=uR.arr,ag:=qD.arr,tc:=oV.aH,at2:=sG.arr,ar:=fun i J=>(uQ.1 i J).arr,bn:=(by show m.s.nn<=1000000; omega),bg:=bg,bt:=(by show m.tn<=1000000; omega),br:=F.br };refine dU ((JJ { m with R:=Rk } p (bH m.t m.tn k (m.g b 2)) _ apd).mono (fun e w2 O=>(⟨O.1.trans (pW eq0),O.2⟩:e = .returned (au (q:Int))/\_))) _ rfl ?_;intro w7 hb5;have⟨ad,uf,sK,ug,wS,rz,uo,pJ⟩:=nO hb5 qb oV sG uQ sH qD uR uS;have b8:=fA hb5 b7 A;refine av (au q)<|aD<|Ws ?_;obtain⟨N,X6⟩:=uo.addr (by omega);have uh:Fx.Own w7 B 84 56 (bO N m.s.nn m.s.nc) m.s.nn (flat 56 (fun l=>mZ (m.id l) (m.par l) (Rk l))):=uo.fU (L_ (fun q=>Value.slice q m.s.nn m.s.nc) X6);obtain⟨ac,eq4⟩:=rz.addr (by omega);have m64:Fx.Own w7 B 106 5 (bO ac m.s.gn m.s.gc) m.s.gn (JI m):=rz.fU (L_ (fun q=>Value.slice q m.s.gn m.s.gc) eq4);refine qW (T:=82) (T':=82) (a := .tmp 9) (v := .tmp 85) (m:=54) (z:=rv .i64 (fun _=>0)) (y:=rv .i64 ((bI (Rk q) v.o ((m.g b) 3)).1)) (u := .agg (aA 54 (rv .i64 ((bI (Rk q) v.o ((m.g b) 3)).1)))) 24 25 (List.replicate 27 (0,2,[],[])) #[(pt p),(pt p),(pt p),(pf p 18),.slice m.s.na (m.s.nn) (m.s.nc),au (q:Int),(pf N (56*q)),(pf N (56*q+2)),.agg (aA 54 (rv .i64 (Rk q))),(pt E),au v.o,(pt p),(pt p),(pt p),(pf p 19),.slice m.s.ga (m.s.gn) (m.s.gc),au (b:Int),(pf ac (5*b)),(pf ac (5*b+3)),au ((m.g b) 3),.tuple #[.agg (aA 54 (rv .i64 ((bI (Rk q) v.o ((m.g b) 3)).1))),au ((bI (Rk q) v.o ((m.g b) 3)).2)],.tuple #[.agg (aA 54 (rv .i64 ((bI (Rk q) v.o ((m.g b) 3)).1))),au ((bI (Rk q) v.o ((m.g b) 3)).2)],.agg (aA 54 (rv .i64 ((bI (Rk q) v.o ((m.g b) 3)).1))),au ((bI (Rk q) v.o ((m.g b) 3)).2),undef,undef,au ((bI (Rk q) v.o ((m.g b) 3)).2)] (by kernel_rfl) (by kernel_rfl) (by kernel_rfl) (by kernel_rfl) (by kernel_rfl) (by kernel_rfl) rfl (by kernel_rfl) rfl rfl (by kernel_rfl) (fun I=>(show ev _ (.tmp 9)=(pt I)from by kernel_rfl)) (fun I=>(show ev _ (.tmp 85) = .agg (aA 54 (rv .i64 ((bI (Rk q) v.o ((m.g b) 3)).1)))from by kernel_rfl)) (bK _ _) (fun _ _=>rfl) (by kernel_rfl) (fun I => ?_) ?_
   ·refine⟨?_,?_,?_,?_,?_,?_,?_,?_,?_,?_,?_,?_,?_,?_,?_,?_,?_,?_,?_,?_,?_,?_,?_,?_,?_,?_,?_,trivial⟩
    ·exact .inr (.inr (oP (pt p) fun G d=>fI rfl ((bX (by kernel_rfl)).trans W)))
    ·exact .inr (.inr mI)
    ·exact .inr (.inr mI)
    ·exact .inr (.inr mI)
    ·exact .inr (.inr (oP (.slice m.s.na (m.s.nn) (m.s.nc)) fun G d=>aZ (x:=kN m) rfl (show ev _ (.tmp 67)=(pf p 18)from by kernel_rfl) (by kernel_rfl) (ad.aH.below d (by have:=ad.lt; omega)) (i:=18) (by omega) (by omega) rfl))
    ·exact .inr (.inr mI)
    ·exact .inr (.inr (oP (pf N (56*q)) fun G d=>dY rfl ((show ev _ (.tmp 68) = .slice m.s.na (m.s.nn) (m.s.nc)from by kernel_rfl).trans (L_ (fun q=>Value.slice q (m.s.nn) (m.s.nc)) X6)) (show ev _ (.tmp 69)=au (q:Int)from by kernel_rfl) Tryz.underlying47 (s:=56) (by kernel_rfl) (by omega) (by omega) (by omega)))
    ·exact .inr (.inr mI)
    ·exact .inr (.inr (oP (.agg (aA 54 (rv .i64 (Rk q)))) fun G d=>dR (x:=flat 56 (fun l=>mZ (m.id l) (m.par l) (Rk l))) (y:=rv .i64 (Rk q)) rfl (show ev _ (.tmp 71)=(pf N (56*q+2))from by kernel_rfl) (by kernel_rfl) (by kernel_rfl) (uh.aH.below d (by have:=uh.lt; omega)) (i:=56*q+2) (by omega) (by omega) (fun jq hjq=>(Fx.iH (k:=q) (j:=2+jq) (by omega) (by omega)).trans ((fun jq _=>JH _ _ _ jq) jq hjq))))
    ·exact .inr (.inr (oP (pt E) fun G d=>gu rfl ((bX (by kernel_rfl)).trans O) Tryz.underlying37 rfl (s:=1) (by kernel_rfl) rfl rfl))
    ·exact .inr (.inr (oP (au v.o) fun G d=>aZ (x:=bJ v) rfl (show ev _ (.tmp 73)=(pt E)from by kernel_rfl) (by kernel_rfl) (wS.aH.below d (by have:=wS.lt; omega)) (i:=0) (by omega) (by omega) rfl))
    ·exact .inr (.inr (oP (pt p) fun G d=>fI rfl ((bX (by kernel_rfl)).trans W)))
    ·exact .inr (.inr mI)
    ·exact .inr (.inr mI)
    ·exact .inr (.inr mI)
    ·exact .inr (.inr (oP (.slice m.s.ga (m.s.gn) (m.s.gc)) fun G d=>aZ (x:=kN m) rfl (show ev _ (.tmp 78)=(pf p 19)from by kernel_rfl) (by kernel_rfl) (ad.aH.below d (by have:=ad.lt; omega)) (i:=19) (by omega) (by omega) rfl))
    ·exact .inr (.inr (oP (au b) fun G d=>fI rfl ((bX (by kernel_rfl)).trans h5)))
    ·exact .inr (.inr (oP (pf ac (5*b)) fun G d=>dY rfl ((show ev _ (.tmp 79) = .slice m.s.ga (m.s.gn) (m.s.gc)from by kernel_rfl).trans (L_ (fun q=>Value.slice q (m.s.gn) (m.s.gc)) eq4)) (show ev _ (.tmp 80)=au (b:Int)from by kernel_rfl) Tryz.underlying48 (s:=5) (by kernel_rfl) (by omega) (by omega) (by omega)))
    ·exact .inr (.inr mI)
    ·exact .inr (.inr (oP (au ((m.g b) 3)) fun G d=>aZ (x:=JI m) rfl (show ev _ (.tmp 82)=(pf ac (5*b+3))from by kernel_rfl) (by kernel_rfl) (m64.aH.below d (by have:=m64.lt; omega)) (i:=5*b+3) (by omega) (by omega) (Fx.gX (k:=b) (j:=3) (by omega) (by omega) rfl)))
    ·exact .inr (.inr (Fx.Jl (v := .tuple #[.agg (aA 54 (rv .i64 ((bI (Rk q) v.o ((m.g b) 3)).1))),au ((bI (Rk q) v.o ((m.g b) 3)).2)]) (by kernel_rfl) (by kernel_rfl) (Fx.qbC (fun G d=>rC (args := [.agg (aA 54 (rv .i64 (Rk q))),au v.o,au ((m.g b) 3)]) rfl (Fx.OQ (show ev _ (.tmp 72) = .agg (aA 54 (rv .i64 (Rk q)))from by kernel_rfl) (show ev _ (.tmp 74)=au v.o from by kernel_rfl) (show ev _ (.tmp 83)=au ((m.g b) 3)from by kernel_rfl)) Tryz.func161 rfl rfl) (fun G d=>(YW (Rk q) v.o ((m.g b) 3) _).mono fun e v2 h=>⟨h.1,h.2⟩))))
    ·exact .inr (.inr mI)
    ·exact .inr (.inr mI)
    ·exact .inr (.inr mI)
    ·exact .inl rfl
    ·exact .inr (.inl rfl)
    exact .inr (.inr mI)
   rintro I w8 U P X wT hb6;have adN:p≠I:=u_ (n_ (ad.lt) X);have adO:m.tb≠I:=u_ (n_ (uf.lt) X);have adP:E≠I:=u_ (n_ (wS.lt) X);have adQ:N≠I:=u_ (n_ (uh.lt) X);have ape:ac≠I:=u_ (n_ (m64.lt) X);have⟨wu,uT,yh,sM,wz,uH,wB,wC⟩:=nO hb6 ad uf sK ug wS pJ uh m64;have b9:=fA hb6 b8 A;have X:w.heap.size<=I:=m_ b8.size X;have xR:=wT.lt;have q1:U 0=(pt p):=(by rw[P]; exact(bX (by kernel_rfl)).trans W);have q2:U 3=(pt E):=(by rw[P]; exact(bX (by kernel_rfl)).trans O);have q3:U 6 = .slice Z (K) (C):=(by rw[P]; exact(bX (by kernel_rfl)).trans h3);have q4:U 7=au (k:Int):=(by rw[P]; exact(bX (by kernel_rfl)).trans h4);have q5:U 5=au (b:Int):=(by rw[P]; exact(bX (by kernel_rfl)).trans h5);have q16:U 8=au (q:Int):=(by rw[P]; kernel_rfl);have q41:U 9=(pt I):=(by rw[P]; kernel_rfl);have q42:U 10=au ((bI (Rk q) v.o ((m.g b) 3)).2):=(by rw[P]; kernel_rfl);clear P;refine sN<|Ws<|ay<|aW q42 ?_;by_cases V:((bI (Rk q) v.o ((m.g b) 3)).2)=0
   ·refine Lv aF (iN V)<|aD<|aK<|Wk<|sN ?_;refine ko [0,1,2,3,5,4,6,7,8,9] [0,0,0,0,4,0,4,0,0,3] [(9,4,[4]),(9,6,[6])] fun Cr gK nU => ?_;have⟨Ah,wD,zR,yJ,zw,xQ,wU,wV,yK⟩:=Ck gK wu uT yh sM wz uH wB wC wT;have b10:=fA gK b9 A;refine bV q1<|aX (pt p)<|aX (pt p)<|aX (pf p 18)<|bV q16<|Rs (.slice m.s.na (m.s.nn) (m.s.nc)) (aL Ah.aH 18) ?_;refine Rs (.agg (aA 54 (rv .i64 ((bI (Rk q) v.o ((m.g b) 3)).1)))) (eT yK.aH 0 (ha:=q41)) ?_;refine Rp (pf N (56*q)) (fun _=>dh 56 (hx:=(rfl.trans (L_ (fun q=>Value.slice q (m.s.nn) (m.s.nc)) X6))))<|aX (pf N (56*q+2))<|ig<|Ao wU (56*q+2) fun w9 Ar s10 z2 => ?_;have fO:=fQ s10 wU.KN;have⟨yL,BA,Bf,Bg,Au,Av,BD⟩:=Ta fO Ah wD zR yJ zw xQ wV;have b11:=s10.below b10 (m_ A b10.size) wU.blk.1;have Eh:Fx.Own w9 B 84 56 (bO N m.s.nn m.s.nc) m.s.nn (flat 56 (fun l=>mZ (m.id l) (m.par l) (aI Rk q ((bI (Rk q) v.o ((m.g b) 3)).1) l))):=Ar.congr (fun pq hp=>(Fx.Cj (k:=q) (j:=2) (by omega) (by omega) pq hp).trans (bL (fun i J j hj=>CS i J j hj) pq hp));refine Ln<|Rn<|bS<|sN<|Wl<|aW q4<|Lv (au ((k:Int)+1)) fH<|av (au ((k:Int)+1))<|Ln ?_;have CB:Fx.Own w9 B 106 5 (.slice m.s.ga (m.s.gn) (m.s.gc)) m.s.gn (JI m):=BD.fU (L_ (fun q=>Value.slice q m.s.gn m.s.gc) eq4.symm);have Dz:Fx.Own w9 B 84 56 (.slice m.s.na (m.s.nn) (m.s.nc)) m.s.nn (flat 56 (fun l=>mZ (m.id l) (m.par l) (aI Rk q ((bI (Rk q) v.o ((m.g b) 3)).1) l))):=Eh.fU (L_ (fun q=>Value.slice q m.s.nn m.s.nc) X6.symm);refine iG ⟨k+1,(aI Rk q (bI (Rk q) v.o (m.g b 3)).1),by omega,(FM hRk ex1 (by first|exact V|exact Classical.not_not.1 V)),q1,q2,q3,Fx.ic,(q5.trans Fx.ic),yL,BA,Bf,Bg,Au,CB,Av,Dz,b11⟩ ?_
    show(K-(intOf (au ((k:Int)+1))).toNat)<_;simp only[h4,intOf]; omega
   refine Lv aG (jZ V)<|aD<|aM<|ay<|aW q42<|av (au ((bI (Rk q) v.o ((m.g b) 3)).2))<|aD<|Wr<|sR<|bM<|sR<|pE<|bM<|sR<|aJ (au ((bI (Rk q) v.o ((m.g b) 3)).2)) ?_;have L:aO v=a:=(by unfold aO; omega);have Y : ¬ 0<=m.core.kF (aO v) v.req:=(by rw[L]; exact j_ S);have ne2 : ¬ (m.core.grant v.o v.of<0\/m.core.g (xW m.core v) 4≠0):=(by rw[ab]; exact fun h=>h.elim aa (fun h=>h ae));have ew:mX m.core v=dn (fun x=>bI x v.o (m.g b 3)) (oZ m.core (m.g b 2)) m.R K:=(by unfold mX; rw[ab,show fB m.core.t m.core.tn (m.core.g b 2)=K from X3.symm]; rfl);have H:iJ m.core v=(bI (Rk q) v.o (m.g b 3)).2:=by
    unfold iJ; rw[b_ Y,b_ ne2,ew];have e1:=Iu hRk ex1 V;rw[AO (k:=k+1) (by rw[e1]; exact V) K (by omega)]; exact e1
   exact⟨pW H.symm,b9,fun M=>M_ (H.symm.trans M) V⟩
  refine Lv aF (gZ c54)<|aD<|aK<|Wx<|cB<|gW<|bZ<|sN<|Ws ?_;have hRK:dn (fun x=>bI x v.o (m.g b 3)) (oZ m.core (m.g b 2)) m.R K=(Rk,0):=by rw[show K=k by omega]; exact hRk
  refine ko [0,1,2,3,5,6,4,7,8,9,10] [0,0,0,0,4,0,0,4,0,0,3] [(10,4,[4]),(10,7,[7])] fun R9 mK Bv => ?_;have⟨AB,GJ,EA,GL,GZ,xu,xw⟩:=kg mK qb oV sG uQ sH qD uR;have b12:=fA mK b7 A;refine bV W<|aX (pt p)<|aX (pt p)<|aX (pf p 19)<|bV h5<|Rp (pf E 12) (fun _=>gP O 12)<|Rs (.slice m.s.ga (m.s.gn) (m.s.gc)) (aL AB.aH 19) ?_;refine Rs (aC v.req) (aL GZ.aH 12) ?_;obtain⟨gq5,eq5⟩:=xu.addr (by omega);have uU:Fx.Own R9 B 106 5 (bO gq5 m.s.gn m.s.gc) m.s.gn (JI m):=xu.fU (L_ (fun q=>Value.slice q m.s.gn m.s.gc) eq5);refine Rp (pf gq5 (5*b)) (fun _=>dh 5 (hx:=(rfl.trans (L_ (fun q=>Value.slice q (m.s.gn) (m.s.gc)) eq5))))<|aX (pf gq5 (5*b+4))<|ig<|qR uU (5*b+4) (aC v.req) fun rW qG s12 z3 => ?_;have jJ:=fQ s12 uU.KN;have⟨qj,rE,qH,rY,tN,rZ⟩:=S9 jJ AB GJ EA GL GZ xw;have b13:=s12.below b12 (m_ A b12.size) uU.blk.1;have uV:Fx.Own rW B 106 5 (bO gq5 m.s.gn m.s.gc) m.s.gn (flat 5 (fun l=>jf (aI m.g b (aI (m.g b) 4 v.req) l))):=qG.congr (fun pq hp=>(Fx.Hy (k:=b) (j:=4) (by omega) (by omega) pq hp).trans (bL (fun i J j hj=>Rj i J j hj) pq hp));refine Ln<|bQ<|Ws ?_;have zS:Fx.Own rW B 106 5 (.slice m.s.ga (m.s.gn) (m.s.gc)) m.s.gn (flat 5 (fun l=>jf (aI m.g b (aI (m.g b) 4 v.req) l))):=uV.fU (L_ (fun q=>Value.slice q m.s.gn m.s.gc) eq5.symm);have vP:Fx.Own rW B 23 1 (.slice (m.ra a) (m.rn a) (m.rc a)) (m.rn a) (rv .u64 (m.rq a)):=rY.1 a ha;have bra:=F.br a ha;refine zY [0,1,4,5,8,9,12,16,17,2,3,6,7,10,11,13,14,15,18,19] [0,0,1,0,0,0,1,0,0,0,0,1,0,4,2,2,0,0,0,3] (jm [23]) wm Fx.jm.trans (fK := [(19,2,[2]),(19,6,[6]),(19,11,[11]),(14,13,[13]),(15,13,[14,13]),(19,13,[13]),(15,14,[14]),(18,14,[14]),(19,14,[14]),(18,15,[15]),(19,15,[15])]) (by kernel_rfl) (by kernel_rfl) (by kernel_rfl) (by kernel_rfl) (by kernel_rfl) fun wt4 rJ Ig => ?_;have⟨zT,CF,yj,uW,rF,yP,yQ,uX⟩:=nO rJ qj rE qH rY tN rZ zS vP;have b14:=fA rJ b13 A;refine bV W<|Rp (pt E) (fun _=>gP O 0)<|bV W<|Rp (pt E) (fun _=>gP O 0)<|aX (pt p)<|aX (pf p 21)<|Rp (pf E 12) (fun _=>gP O 12)<|aX (pt p)<|aX (pf p 21)<|Rd (v:=au v.o) (by rfl) (by rfl) (wm _) (fun G d=>aZ (x:=bJ v) rfl rfl (by kernel_rfl) (rF.lu d (by decide)).aH (i:=0) (by omega) (by omega) rfl) ?_;refine Rp (au a) (fun _=>gN)<|Rd (v:=au v.o) (by rfl) (by rfl) (wm _) (fun G d=>aZ (x:=bJ v) rfl rfl (by kernel_rfl) (rF.lu d (by decide)).aH (i:=0) (by omega) (by omega) rfl) ?_;refine Rp (au a) (fun _=>gN)<|Rp (pf p (a+21)) (fun _=>jV 6 1)<|Rd (v := .slice (m.ra a) (m.rn a) (m.rc a)) (by rfl) (by rfl) (wm _) (fun G d=>aZ (x:=kN m) rfl rfl (by kernel_rfl) (zT.lu d (by decide)).aH (i:=a+21) (by omega) (by omega) (xk _ (by omega))) ?_;refine Rs (aC v.req) (aL rF.aH 12) ?_;refine yw<|zi (vs := [(0,aC v.req)]) (s:=1) (zc:=rv .u64 (fun _=>0)) (y:=bC (fun j=>(rv .u64 (fun _=>0)) (j % 1)) (0*1) 1 (fun _=>aC v.req)) (by rfl) rfl rfl Tryz.underlying53 (by kernel_rfl) (by rfl) (by rfl) (by kernel_rfl) (by rw[bf (off:=0*1) (s:=1) (y:=fun _=>aC v.req) rfl (cells_one (by rfl)) (by rfl)]; rfl) rfl fun g3 Ec uI CG Af z4 => ?_;have⟨JM,FD,BI,FE,CJ,AJ,JV⟩:=kg Af.old zT CF yj uW yP yQ uX;have b15:=fA Af.old b14 A;have Ae:=iw uI b14.size;have⟨akO,akP,akQ⟩:=Bq uI zT.lt CF.lt rF.lt;have akR:(.slice (m.ra a) (m.rn a) (m.rc a):Value).ownBlock≠some g3:=by rw[uI]; exact uX.kP (A_ _)
  have Ed:=CG.lt;refine Ln ⟨Fx.jm.of_below Af.old,?_⟩;refine yw<|zP (B:=B) (s:=1) (bytes:=8) (k:=(m.rn a)) (m:=1) (v := .slice (m.ra a) (m.rn a) (m.rc a)) (x:=rv .u64 (m.rq a)) (by rfl) rfl rfl rfl Tryz.underlying53 (by kernel_rfl) (by kernel_rfl) rfl rfl JV CG.aH (zB (fun _=>rfl)) (by omega) (by omega) (by omega) (m_ A b15.size) fun g4 C Bd ho1 hg1 wR hlt1 => ?_;have nQ:=zQ hg1 JV;have⟨FH,FI,G7,CK,FJ⟩:=rT nQ JM FD BI CJ AJ;have Lu:Fx.Own Bd B 23 1 (.slice (some ⟨g4,0,none⟩) ((m.rn a)+1) C) ((m.rn a)+1) (rv .u64 (aI (m.rq a) (m.rn a) v.req)):=(ho1.congr (fun j hj=>PD j hj));have b16:Below B w Bd:=zO b15 hg1 (m_ A b15.size) (fun q hq=>(JV.ge hq).1);have CO:xq Bd B 6 { m with ra:=aI m.ra a (some ⟨g4,0,none⟩),rn:=aI m.rn a (m.rn a+1),rc:=aI m.rc a C,rq:=aI m.rq a (aI (m.rq a) (m.rn a) v.req) }:=xq.app FE ha rfl rfl rfl rfl Lu hg1 wR;refine Ln ⟨nQ,?_⟩;refine Rp (pf p (a+21)) (fun _=>jV 6 1)<|ig<|jv FH (a+21) (.slice (some ⟨g4,0,none⟩) ((m.rn a)+1) (C)) fun Fh FV s15 z5 => ?_;have ru:=fQ s15 FH.ty;have⟨FK,AL,BJ,JN,Vj⟩:=rT ru FI G7 CK FJ CO;have b17:=s15.below b16 (m_ A b16.size) (by omega);refine Ln<|bQ<|ay<|av (au 0)<|aD<|Wr<|aJ (au 0) ?_;have L:aO v=a:=by unfold aO; omega
  have Y : ¬ 0<=m.core.kF (aO v) v.req:=by rw[L]; exact j_ S
  have ne2 : ¬ (m.core.grant v.o v.of<0\/m.core.g (xW m.core v) 4≠0):=by rw[ab]; exact fun h=>h.elim aa (fun h=>h ae)
  have ew:mX m.core v=dn (fun x=>bI x v.o (m.g b 3)) (oZ m.core (m.g b 2)) m.R K:=by unfold mX; rw[ab,show fB m.core.t m.core.tn (m.core.g b 2)=K from X3.symm]; rfl
  have H:iJ m.core v=0:=by unfold iJ; rw[b_ Y,b_ ne2,ew,hRK]
  have eW:mX m.core v=(Rk,0):=ew.trans hRK;refine⟨pW H.symm,b17,fun _=>⟨{ m with s := { m.s with ga:=m.s.ga,gn:=m.s.gn,gc:=m.s.gc },R:=Rk,g:=aI m.g b (aI (m.g b) 4 v.req),ra:=aI m.ra a (some ⟨g4,0,none⟩),rn:=aI m.rn a (m.rn a+1),rc:=aI m.rc a C,rq:=aI m.rq a (aI (m.rq a) (m.rn a) v.req) },?_,?_⟩⟩
  ·unfold gG rG; rw[eW,L]; rw[ab]; rfl
  exact { c:=FV.to (LA _ rfl _ _ _),n:=BJ,g:=JN,tc:=FK,t:=AL,r:=Vj,pB:=U3,tB:=Ei,bn:=bn,bg:=(by show m.s.gn<=1000000; omega),bt:=bt,br:=(fun i J=>by show aI m.rn a (m.rn a+1) i<=1000000; have:=brr i J; have:=brr a ha; unfold aI; split <;> omega) }
 refine Lv aG (jZ ae)<|av aG<|aD<|aM<|ay<|av (au 12)<|aD<|Wr<|sR<|aJ (au 12) ?_;have L:aO v=a:=by unfold aO; omega
 have Y : ¬ 0<=m.core.kF (aO v) v.req:=by rw[L]; exact j_ S
 have H:iJ m.core v=12:=by unfold iJ; rw[b_ Y,ab]; exact d_ (.inr ae)
 exact⟨pW H.symm,b4,fun M=>by rw[H]at M; cases M⟩
namespace Rt
def xB(L:eP)(v:EvM):Int:=if L.node v.node<0 then 9 else if 140737488355328<L.R (L.node v.node).toNat (aO v)+v.aT then 6 else 0
def FX(L:eP)(v:EvM):eP := { L with R:=aI L.R (L.node v.node).toNat (upd (L.R (L.node v.node).toNat) (aO v) (L.R (L.node v.node).toNat (aO v)+v.aT)) }
def yR(L:eP)(v:EvM):(Nat->Int) × Int:=dz (L.R (L.node v.node).toNat) v.o v.dst v.aT
def ql(L:eP)(v:EvM):Int:=if L.node v.node<0 then 9 else if v.dst<1\/6<v.dst\/L.inn (v.dst-1).toNat=false then 10 else(yR L v).2
def FY(L:eP)(v:EvM):eP := { L with R:=aI L.R (L.node v.node).toNat (yR L v).1 }
noncomputable def dW(L:eP)(v:EvM):Int :=
 if v.kind=1 then kW L v else if v.kind=2 then xB L v else if v.kind=3 then iQ L v else if v.kind=4 then iJ L v else if v.kind=5 then ql L v else 0
def gH(L:eP)(v:EvM):eP :=
 if v.kind=1 then rD L v else if v.kind=2 then FX L v else if v.kind=3 then jg L v else if v.kind=4 then gG L v else if v.kind=5 then FY L v
 else if v.kind=6 then { L with inn:=aI L.inn (v.dst-1).toNat true } else { L with left:=aI L.left (aO v) true }
theorem NU{n q a:Nat}{id par:Nat->Int}{R:Nat->Nat->Int}{x:Int} : ∀ i,i<n -> ∀ j,j<56->Fx.rR (fun b=>mZ (id b) (par b) (R b)) q (dF (mZ (id q) (par q) (R q)) (a+2) (au x)) i j=mZ (id i) (par i) (aI R q (upd (R q) a x) i) j:=fun i _ j _=>by
 unfold Fx.rR;by_cases h:i=q
 ·subst h; rw[d_ rfl,Pt rfl]; unfold aI; rw[d_ rfl]
 ·rw[b_ h]; unfold aI; rw[b_ h]
theorem Y7(m:kV){i:Nat}(hi:i<6):dF (kN m) i (.bool true)=kN { m with s := { m.s with inn:=aI m.s.inn i true } }:=by
 funext p
 unfold dF kN;by_cases h:p=i
 ·subst h; rw[d_ rfl,d_ (by omega)]; unfold lS; rw[d_ hi]; simp[aI]
 rw[b_ h];by_cases a:p<20
 ·rw[d_ a,d_ a]; unfold lS;by_cases b:p<6
  ·rw[d_ b,d_ b]; simp[aI,h]
  rw[b_ b,b_ b]
 rw[b_ a,b_ a]
theorem Vm(m:kV){i q:Nat}(hi:i<6)(d:q=i+6):dF (kN m) q (.bool true)=kN { m with s := { m.s with left:=aI m.s.left i true } }:=by
 subst d
 funext p
 unfold dF kN;by_cases h:p=i+6
 ·subst h; rw[d_ rfl,d_ (by omega)]; unfold lS; rw[b_ (by omega),d_ (by omega)]; simp[aI]
 rw[b_ h];by_cases a:p<20
 ·rw[d_ a,d_ a]; unfold lS;by_cases b:p<6
  ·rw[d_ b,d_ b]
  rw[b_ b,b_ b];by_cases c:p<12
  ·rw[d_ c,d_ c]; simp[aI,show ¬ p-6=i by omega]
  rw[b_ c,b_ c]
 rw[b_ a,b_ a]
theorem Rl(m:kV){i q:Nat}(hi:i<6)(e:q=i+12)(x:Int):dF (kN m) q (aC x)=kN { m with s := { m.s with known:=aI m.s.known i x } }:=by
 subst e
 funext p
 unfold dF kN;by_cases h:p=i+12
 ·subst h; rw[d_ rfl,d_ (by omega)]; unfold lS; rw[b_ (by omega),b_ (by omega),d_ (by omega)]; simp[aI]
 rw[b_ h];by_cases a:p<20
 ·rw[d_ a,d_ a]; unfold lS;by_cases b:p<6
  ·rw[d_ b,d_ b]
  rw[b_ b,b_ b];by_cases c:p<12
  ·rw[d_ c,d_ c]
  rw[b_ c,b_ c];by_cases d:p<18
  ·rw[d_ d,d_ d]; simp[aI,show ¬ p-12=i by omega]
  rw[b_ d,b_ d]
 rw[b_ a,b_ a]
theorem jE{v:EvM}(h:bR v=true):1<=v.kind/\v.kind<=7:=by
 unfold bR at h;simp only[S_]at h;have a:=h.2;unfold dJ at a;split at a; · omega
 split at a; · omega
 split at a; · omega
 split at a; · omega
 split at a; · omega
 split at a; · omega
 have:=h_ a; omega
theorem lV{v:EvM}(h:bR v=true)(c:v.kind=2\/v.kind=3\/v.kind=5):1<=v.aT/\v.aT<=1125899906842624:=by
 unfold bR at h;simp only[S_]at h;have a:=h.2;unfold dJ at a;rw[b_ (by omega)]at a;have b:someE v=true->1<=v.aT/\v.aT<=1125899906842624:=fun h=>by unfold someE at h; simpa using h
 split at a; · exact b a
 split at a; · rw[S_]at a; exact b a.1
 rw[b_ (by omega)]at a;split at a; · rw[S_]at a; exact b a.1
 omega
theorem Iw{v:EvM}(h:bR v=true)(c:v.kind=6) : ∃ b:Nat,b<6/\v.dst=(b:Int)+1:=by
 unfold bR at h;simp only[S_]at h;have a:=h.2;unfold dJ at a;rw[b_ (by omega),b_ (by omega),b_ (by omega),b_ (by omega),b_ (by omega),d_ c]at a;unfold mW at a;rw[S_]at a;exact fq a.1
end Rt
set_option maxRecDepth 20000 in
set_option maxHeartbeats 2000000 in
theorem adR(m:kV)(B p a:Nat)(v:EvM)(w:World)(S:rX w B p m)(H:B<=w.heap.size)(ha:a<6)(ho:v.o=(a:Int)+1)(bnn:m.s.nn<=900)(bgg:m.s.gn<=900000)(brr : ∀ i,i<6->m.rn i<=900000)(hTN : ∀ x,m.node x=bE m.t m.tn x)(hDx : ∀ x,∃ D,D<=1000/\bE m.t m.tn (bH m.t m.tn D x)<0)(hv:gD v)(hmay:bR v=true)(hR : ∀ k,k<m.s.nn->may (m.R k)=true) :
 Calls Tryz.prog 82 #[(pt p),.agg (aA 14 (bJ v))] w fun e w'=>e = .returned (au (dW m.core v))/\Below B w w'/\(dW m.core v=0 -> ∃ m',m'.core=gH m.core v/\rX w' B p m'):=by
 have U3:=S.pB;have Ei:=S.tB;have bn:=S.bn;have bg:=S.bg;have bt:=S.bt;have YR:p<w.heap.size:=S.c.lt;have R8:m.tb<w.heap.size:=S.tc.lt;have hvk:=hv.kind;have hvt:=hv.dst;have hkr:=jE hmay;obtain⟨D,hD2,hD⟩:=hDx v.node;refine Kent Tryz.func82 152 ?_;refine ay<|om fun I w1 kM W s1 z1 => ?_;have C:=bD s1.old S;have X:=fA s1.old (Below.refl B w) H;have qZ:=iw kM (Below.refl B w).size;have sF:=W.lt;refine av (au 0)<|aD<|Ws<|ay<|av (pf I 8)<|Lv (.int .u8 (v.kind)) (aL W.aH 8)<|aD<|Wb<|ay ?_;by_cases F:v.kind=1
 ·refine Lv aG (dP F)<|av aG<|aD<|aM<|ay<|av (pt p)<|Lv (.agg (aA 14 (bJ v))) (eT W.aH 0)<|dU (YQ m B p a D v _ C (m_ H X.size) ha ho bnn hD hD2) _ rfl ?_;rintro w2 ⟨hb1,hr1⟩;have b2:Below B w w2:=X.trans hb1;refine av (au (kW m.core v))<|aD<|Wr<|bM<|sR<|aJ (au (kW m.core v)) ?_;have A:dW m.core v=kW m.core v:=by unfold dW; rw[d_ F]
  have ec:gH m.core v=rD m.core v:=by unfold gH; rw[d_ F]
  exact⟨pW A.symm,b2,fun E=>by rw[ec]; exact hr1 (A.symm.trans E)⟩
 refine Lv aF (eO F)<|av aF<|aD<|aK<|ay ?_;by_cases G:v.kind=2
 ·refine Lv aG (dP G)<|av aG<|aD<|aM<|Ws ?_;have aa:=C.c;have ac:=C.n;have ab:=C.g;have ae:=C.tc;have af:=C.t;have ad:=C.r;refine Wl<|av (pt p)<|av (pf I 9)<|Lv (aC v.node) (aL W.aH 9) ?_;have NR:Cx w1 p m := { c:=aa.aH,an:=ac.arr,ag:=ab.arr,tc:=ae.aH,at2:=af.arr,ar:=fun i hi=>(ad.1 i hi).arr,bn:=(by show m.s.nn<=1000000; omega),bg:=bg,bt:=(by show m.tn<=1000000; omega),br:=S.br };refine dU (JJ m p v.node _ NR) _ rfl ?_;intro w3 hb2;have⟨m3,m4,m5,m6,m7,m8,m9⟩:=kg hb2 W aa ac ab ae af ad;have b3:=fA hb2 X H;refine av (au (m.node v.node))<|aD<|Ws<|ay<|av (au (m.node v.node)) ?_;by_cases c23:(m.node v.node)<0
  ·refine Lv aG (gY c23)<|aD<|aM<|ay<|av (au 9)<|aD<|Wr<|sR<|bM<|sR<|aJ (au 9) ?_;have P:aO v=a:=(by unfold aO; omega);have A:dW m.core v=9:=(by unfold dW; rw[b_ F,d_ G]; unfold xB; exact d_ c23);exact⟨pW A.symm,b3,fun E=>by rw[A]at E; cases E⟩
  obtain⟨d,hkq,V,_⟩:=EB (m:=m) (x:=v.node) (by omega);have V:m.node v.node=(d:Int):=V;have ekN:(m.core.node v.node).toNat=d:=by show(m.node v.node).toNat=d; rw[V]; rfl
  refine Lv aF (gZ c23)<|aD<|aK<|Wk<|sN<|Ws<|Ws ?_;have hRb:=nI (hR d hkq) a (by omega);have hab:=lV hmay (.inl G);refine vG<|aU (pt p)<|aU (pt p)<|aU (pt p)<|aU (pf p 18)<|Qv (.slice m.s.na (m.s.nn) (m.s.nc)) (fun l f=>aL (m4.aH.dr f) 18)<|eF (L_ (Value.int .i64) V)<|aU (pt I)<|Qv (au v.o) (fun l f=>aL (m3.aH.dr f) 0)<|Qv (au a) (fun l f=>gN) ?_;obtain⟨Q,eq1⟩:=m5.addr (by omega);have m10:Fx.Own w3 B 84 56 (bO Q m.s.nn m.s.nc) m.s.nn (Kw m):=m5.fU (L_ (fun q=>Value.slice q m.s.nn m.s.nc) eq1);refine Qv (pf Q (56*d)) (fun l f=>dh 56 (hx:=(rfl.trans (L_ (fun q=>Value.slice q (m.s.nn) (m.s.nc)) eq1))))<|aU (pf Q (56*d+2))<|aU (pf Q (56*d+2))<|Qv (pf Q (a+56*d+2)) (fun l f=>jV 6 1)<|Qv (au ((m.R d) a)) (fun l f=>aL (m10.aH.dr f) (a+56*d+2) (Fx.gX (k:=d) (j:=a+2) (by omega) (by omega) (NJ _ _ _ (by omega))))<|aU (pf I 11)<|Qv (au v.aT) (fun l f=>aL (m3.aH.dr f) 11)<|Qv (au (((m.R d) a)+v.aT)) (fun l f=>fH) ?_;by_cases c41:140737488355328<(((m.R d) a)+v.aT)
  ·refine Qv aG (fun l f=>mo c41)<|Qn ?_;rintro _ ⟨L,rfl⟩;obtain⟨Cv,qh⟩ : ∃ l,l=World.drewN w3 L:=⟨_,rfl⟩;rw[<- qh];have s3:Stp w3.heap.size w3 Cv:=(by rw[qh]; exact Sb (jB w3 L));have b4:=fA s3.old b3 H;clear qh;refine sN<|aM<|ay<|av (au 6)<|aD<|Wr<|sR<|bM<|sR<|aJ (au 6) ?_;have P:aO v=a:=(by unfold aO; omega);have A:dW m.core v=6:=(by unfold dW; rw[b_ F,d_ G]; unfold xB; rw[ekN,P,b_ (show ¬ m.core.node v.node<0 from c23)]; exact d_ c41);exact⟨pW A.symm,b4,fun E=>by rw[A]at E; cases E⟩
  refine Qv aF (fun l f=>mD c41)<|Qn ?_;rintro _ ⟨L,rfl⟩;obtain⟨wq2,tL⟩ : ∃ l,l=World.drewN w3 L:=⟨_,rfl⟩;rw[<- tL];have s4:Stp w3.heap.size w3 wq2:=by rw[tL]; exact Sb (jB w3 L)
  have⟨m18,m19,m20,m21,m22,m23,m24⟩:=kg s4.old m3 m4 m6 m7 m8 m9 m10;have b5:=fA s4.old b3 H;clear tL;refine sN<|aK<|Wk<|sN ?_;refine ko [0,1,2,3,5,6,14,4,9,10,11,17,18,19,7,8,12,13,15,16,20,21] [0,0,0,0,4,0,0,4,0,0,0,0,0,4,0,4,0,0,0,0,0,3] [(21,4,[4]),(21,7,[7]),(21,13,[13]),(21,15,[15])] fun qC dN iE => ?_;have⟨mM,mU,oo,ou,nG,nk,lI⟩:=kg dN m18 m19 m20 m21 m22 m23 m24;have b6:=fA dN b5 H;refine aX (pt p)<|aX (pt p)<|aX (pt p)<|aX (pf p 18)<|bV (L_ (Value.int .i64) V)<|aX (pt I)<|aX (pf I 11)<|Rs (.slice m.s.na (m.s.nn) (m.s.nc)) (aL mU.aH 18) ?_;refine Rp (pf Q (56*d)) (fun _=>dh 56 (hx:=(rfl.trans (L_ (fun q=>Value.slice q (m.s.nn) (m.s.nc)) eq1))))<|aX (pf Q (56*d+2))<|aX (pf Q (56*d+2))<|Rp (pf Q (56*d)) (fun _=>dh 56 (hx:=(rfl.trans (L_ (fun q=>Value.slice q (m.s.nn) (m.s.nc)) eq1))))<|aX (pf Q (56*d+2))<|aX (pf Q (56*d+2))<|Rs (au v.o) (aL mM.aH 0) ?_;refine Rp (au a) (fun _=>gN)<|Rp (pf Q (a+56*d+2)) (fun _=>jV 6 1)<|Rs (au ((m.R d) a)) (aL lI.aH (a+56*d+2) (Fx.gX (k:=d) (j:=a+2) (by omega) (by omega) (NJ _ _ _ (by omega)))) ?_;refine Rs (au v.aT) (aL mM.aH 11) ?_;refine Rp (au (((m.R d) a)+v.aT)) (fun _=>fH)<|Rp (pf Q (a+56*d+2)) (fun _=>jV 6 1)<|ig<|qR lI (a+56*d+2) (au (((m.R d) a)+v.aT)) fun w4 m32 s6 z2 => ?_;have fO:=fQ s6 lI.KN;have⟨nH,nR,mO,qy,pX⟩:=rT fO mU oo ou nG nk;have b7:=s6.below b6 (m_ H b6.size) lI.blk.1;have pY:Fx.Own w4 B 84 56 (bO Q m.s.nn m.s.nc) m.s.nn (flat 56 (fun O=>mZ (m.id O) (m.par O) (aI m.R d (upd (m.R d) a (((m.R d) a)+v.aT)) O))):=m32.congr (fun pq hp=>(Fx.Hy (k:=d) (j:=a+2) (by omega) (by omega) pq hp).trans (bL (fun i hi j hj=>NU (a:=a) (x:=((m.R d) a)+v.aT) (q:=d) (id:=m.id) (par:=m.par) (R:=m.R) i hi j hj) pq hp));refine Ln<|Rn<|bS<|sN<|ay<|av (au 0)<|aD<|Wr<|aJ (au 0) ?_;have P:aO v=a:=by unfold aO; omega
  have tZ:Fx.Own w4 B 84 56 (.slice m.s.na (m.s.nn) (m.s.nc)) m.s.nn (flat 56 (fun O=>mZ (m.id O) (m.par O) (aI m.R d (upd (m.R d) a (((m.R d) a)+v.aT)) O))):=pY.fU (L_ (fun q=>Value.slice q m.s.nn m.s.nc) eq1.symm);have A:dW m.core v=0:=by unfold dW; rw[b_ F,d_ G]; unfold xB; rw[ekN,P,b_ (show ¬ m.core.node v.node<0 from c23)]; exact b_ c41
  refine⟨pW A.symm,b7,fun _=>⟨{ m with R:=aI m.R d (upd (m.R d) a (m.R d a+v.aT)) },by symm; unfold gH; rw[b_ F,d_ G]; unfold FX; rw[ekN,P]; rfl,?_⟩⟩;exact { c:=nH,n:=tZ,g:=nR,tc:=mO,t:=qy,r:=pX,pB:=U3,tB:=Ei,bn:=bn,bg:=bg,bt:=bt,br:=S.br }
 refine Lv aF (eO G)<|av aF<|aD<|aK<|ay ?_;by_cases K:v.kind=3
 ·refine Lv aG (dP K)<|av aG<|aD<|aM<|ay<|av (pt p)<|Lv (.agg (aA 14 (bJ v))) (eT W.aH 0)<|dU (YZ m B p a D v _ C (m_ H X.size) ha ho bgg brr hTN hD hD2) _ rfl ?_;rintro w5 ⟨hb3,hr2⟩;have b8:Below B w w5:=X.trans hb3;refine av (au (iQ m.core v))<|aD<|Wr<|bM<|sR<|aJ (au (iQ m.core v)) ?_;have A:dW m.core v=iQ m.core v:=by unfold dW; rw[b_ F,b_ G,d_ K]
  have ec:gH m.core v=jg m.core v:=by unfold gH; rw[b_ F,b_ G,d_ K]
  exact⟨pW A.symm,b8,fun E=>by rw[ec]; exact hr2 (A.symm.trans E)⟩
 refine Lv aF (eO K)<|av aF<|aD<|aK<|ay ?_;by_cases N:v.kind=4
 ·refine Lv aG (dP N)<|av aG<|aD<|aM<|ay<|av (pt p)<|Lv (.agg (aA 14 (bJ v))) (eT W.aH 0)<|dU (Y6 m B p a  v _ C (m_ H X.size) ha ho bgg brr hTN hDx) _ rfl ?_;rintro w6 ⟨hb4,hr3⟩;have J:Below B w w6:=X.trans hb4;refine av (au (iJ m.core v))<|aD<|Wr<|bM<|sR<|aJ (au (iJ m.core v)) ?_;have A:dW m.core v=iJ m.core v:=by unfold dW; rw[b_ F,b_ G,b_ K,d_ N]
  have ec:gH m.core v=gG m.core v:=by unfold gH; rw[b_ F,b_ G,b_ K,d_ N]
  exact⟨pW A.symm,J,fun E=>by rw[ec]; exact hr3 (A.symm.trans E)⟩
 refine Lv aF (eO N)<|av aF<|aD<|aK<|ay ?_;by_cases U:v.kind=5
 ·refine Lv aG (dP U)<|av aG<|aD<|aM<|Ws ?_;have aa:=C.c;have ac:=C.n;have ab:=C.g;have ae:=C.tc;have af:=C.t;have ad:=C.r;refine Wl<|av (pt p)<|av (pf I 9)<|Lv (aC v.node) (aL W.aH 9) ?_;have Vh:Cx w1 p m := { c:=aa.aH,an:=ac.arr,ag:=ab.arr,tc:=ae.aH,at2:=af.arr,ar:=fun i hi=>(ad.1 i hi).arr,bn:=(by show m.s.nn<=1000000; omega),bg:=bg,bt:=(by show m.tn<=1000000; omega),br:=S.br };refine dU (JJ m p v.node _ Vh) _ rfl ?_;intro M hb5;have⟨mP,mQ,mV,pI,qb,oV,sG⟩:=kg hb5 W aa ac ab ae af ad;have b10:=fA hb5 X H;refine av (au (m.node v.node))<|aD<|Ws<|ay<|av (au (m.node v.node)) ?_;by_cases c80:(m.node v.node)<0
  ·refine Lv aG (gY c80)<|aD<|aM<|ay<|av (au 9)<|aD<|Wr<|sR<|bM<|sR<|aJ (au 9) ?_;have P:aO v=a:=(by unfold aO; omega);have A:dW m.core v=9:=(by unfold dW; rw[b_ F,b_ G,b_ K,b_ N,d_ U]; unfold ql; exact d_ c80);exact⟨pW A.symm,b10,fun E=>by rw[A]at E; cases E⟩
  obtain⟨d,hkq,V,_⟩:=EB (m:=m) (x:=v.node) (by omega);have V:m.node v.node=(d:Int):=V;have ekN:(m.core.node v.node).toNat=d:=by show(m.node v.node).toNat=d; rw[V]; rfl
  refine Lv aF (gZ c80)<|aD<|aK<|Wk<|sN<|Ws<|Ws ?_;refine vG<|aU (pf I 10)<|Qv (au v.dst) (fun l f=>aL (mP.aH.dr f) 10) ?_;by_cases c83:v.dst<1
  ·refine Qv aG (fun l f=>gY c83)<|aU aG<|aS<|aS<|aS<|aU aG<|aU aG<|aS<|aS<|aS<|aS<|aS<|aS<|aS<|aS<|aS<|aS<|aU aG<|Qn ?_;rintro _ ⟨L,rfl⟩;obtain⟨X0,AQ⟩ : ∃ l,l=World.drewN M L:=⟨_,rfl⟩;rw[<- AQ];have s8:Stp M.heap.size M X0:=(by rw[AQ]; exact Sb (jB M L));have b11:=fA s8.old b10 H;clear AQ;refine sN<|aM<|ay<|av (au 10)<|aD<|Wr<|sR<|bM<|sR<|aJ (au 10) ?_;have P:aO v=a:=(by unfold aO; omega);have A:dW m.core v=10:=(by unfold dW; rw[b_ F,b_ G,b_ K,b_ N,d_ U]; unfold ql; rw[b_ (show ¬ m.core.node v.node<0 from c80)]; exact d_ (.inl c83));exact⟨pW A.symm,b11,fun E=>by rw[A]at E; cases E⟩
  refine Qv aF (fun l f=>gZ c83)<|aU aF<|aU (pf I 10)<|Qv (au v.dst) (fun l f=>aL (mP.aH.dr f) 10) ?_;by_cases c87:6<v.dst
  ·refine Qv aG (fun l f=>mo c87)<|aU aG<|aU aG<|aS<|aS<|aS<|aS<|aS<|aS<|aS<|aS<|aS<|aS<|aU aG<|Qn ?_;rintro _ ⟨L,rfl⟩;obtain⟨wq4,FW⟩ : ∃ l,l=World.drewN M L:=⟨_,rfl⟩;rw[<- FW];have s9:Stp M.heap.size M wq4:=(by rw[FW]; exact Sb (jB M L));have b12:=fA s9.old b10 H;clear FW;refine sN<|aM<|ay<|av (au 10)<|aD<|Wr<|sR<|bM<|sR<|aJ (au 10) ?_;have P:aO v=a:=(by unfold aO; omega);have A:dW m.core v=10:=(by unfold dW; rw[b_ F,b_ G,b_ K,b_ N,d_ U]; unfold ql; rw[b_ (show ¬ m.core.node v.node<0 from c80)]; exact d_ (.inr (.inl c87)));exact⟨pW A.symm,b12,fun E=>by rw[A]at E; cases E⟩
  obtain⟨J,hb9,eb9⟩ : ∃ b:Nat,b<6/\v.dst=(b:Int)+1:=⟨(v.dst-1).toNat,by omega,by omega⟩;refine Qv aF (fun l f=>mD c87)<|aU aF<|aU aF<|aU (pt p)<|aU (pf I 10)<|Qv (au v.dst) (fun l f=>aL (mP.aH.dr f) 10)<|Qv (au J) (fun l f=>gN)<|aU (pt p)<|aU (pt p)<|aU (pt p)<|Qv (pf p J) (fun l f=>jV 6 1) ?_;by_cases Y8:(m.s.inn J)=true
  ·refine Qv aG (fun l f=>aL (mQ.aH.dr f) J ((jX _ (by omega) (AA _ (by omega))).trans (L_ Value.bool Y8)))<|aU aF<|aU aF<|Qn ?_;rintro _ ⟨L,rfl⟩;obtain⟨wq5,NT⟩ : ∃ l,l=World.drewN M L:=⟨_,rfl⟩;rw[<- NT];have s10:Stp M.heap.size M wq5:=(by rw[NT]; exact Sb (jB M L));have⟨pJ,uh,m64,wT,wu,uT,yh⟩:=kg s10.old mP mQ mV pI qb oV sG;have b13:=fA s10.old b10 H;clear NT;refine sN<|aK<|Wk<|sN<|Ws ?_;obtain⟨Z,FU⟩:=m64.addr (by omega);have sM:Fx.Own wq5 B 84 56 (bO Z m.s.nn m.s.nc) m.s.nn (Kw m):=m64.fU (L_ (fun q=>Value.slice q m.s.nn m.s.nc) FU);refine qW (T:=82) (T':=82) (a := .tmp 7) (v := .tmp 118) (m:=54) (z:=rv .i64 (fun _=>0)) (y:=rv .i64 ((dz (m.R d) v.o v.dst v.aT).1)) (u := .agg (aA 54 (rv .i64 ((dz (m.R d) v.o v.dst v.aT).1)))) 19 20 (List.replicate 22 (0,2,[],[])) #[(pt p),(pt p),(pt p),(pf p 18),.slice m.s.na (m.s.nn) (m.s.nc),au (d:Int),(pf Z (56*d)),(pf Z (56*d+2)),.agg (aA 54 (rv .i64 (m.R d))),(pt I),au v.o,(pf I 10),au v.dst,(pf I 11),au v.aT,.tuple #[.agg (aA 54 (rv .i64 ((dz (m.R d) v.o v.dst v.aT).1))),au ((dz (m.R d) v.o v.dst v.aT).2)],.tuple #[.agg (aA 54 (rv .i64 ((dz (m.R d) v.o v.dst v.aT).1))),au ((dz (m.R d) v.o v.dst v.aT).2)],.agg (aA 54 (rv .i64 ((dz (m.R d) v.o v.dst v.aT).1))),au ((dz (m.R d) v.o v.dst v.aT).2),undef,undef,au ((dz (m.R d) v.o v.dst v.aT).2)] (by kernel_rfl) (by kernel_rfl) (by kernel_rfl) (by kernel_rfl) (by kernel_rfl) (by kernel_rfl) rfl (by kernel_rfl) rfl rfl (by kernel_rfl) (fun Y=>(show ev _ (.tmp 7)=(pt Y)from by kernel_rfl)) (fun Y=>(show ev _ (.tmp 118) = .agg (aA 54 (rv .i64 ((dz (m.R d) v.o v.dst v.aT).1)))from by kernel_rfl)) (bK _ _) (fun _ _=>rfl) (by kernel_rfl) (fun Y => ?_) ?_
   ·refine⟨?_,?_,?_,?_,?_,?_,?_,?_,?_,?_,?_,?_,?_,?_,?_,?_,?_,?_,?_,?_,?_,?_,trivial⟩
    ·exact .inr (.inr mI)
    ·exact .inr (.inr mI)
    ·exact .inr (.inr mI)
    ·exact .inr (.inr mI)
    ·exact .inr (.inr (oP (.slice m.s.na (m.s.nn) (m.s.nc)) fun l f=>aZ (x:=kN m) rfl (show ev _ (.tmp 105)=(pf p 18)from by kernel_rfl) (by kernel_rfl) (uh.aH.below f (by have:=uh.lt; omega)) (i:=18) (by omega) (by omega) rfl))
    ·exact .inr (.inr (oP (au d) fun l f=>fI rfl ((bX (by kernel_rfl)).trans (L_ (Value.int .i64) V))))
    ·exact .inr (.inr (oP (pf Z (56*d)) fun l f=>dY rfl ((show ev _ (.tmp 106) = .slice m.s.na (m.s.nn) (m.s.nc)from by kernel_rfl).trans (L_ (fun q=>Value.slice q (m.s.nn) (m.s.nc)) FU)) (show ev _ (.tmp 107)=au (d:Int)from by kernel_rfl) Tryz.underlying47 (s:=56) (by kernel_rfl) (by omega) (by omega) (by omega)))
    ·exact .inr (.inr mI)
    ·exact .inr (.inr (oP (.agg (aA 54 (rv .i64 (m.R d)))) fun l f=>dR (x:=Kw m) (y:=rv .i64 (m.R d)) rfl (show ev _ (.tmp 109)=(pf Z (56*d+2))from by kernel_rfl) (by kernel_rfl) (by kernel_rfl) (sM.aH.below f (by have:=sM.lt; omega)) (i:=56*d+2) (by omega) (by omega) (fun jq hjq=>(Fx.iH (k:=d) (j:=2+jq) (by omega) (by omega)).trans ((fun jq _=>JH _ _ _ jq) jq hjq))))
    ·exact .inr (.inr mI)
    ·exact .inr (.inr (oP (au v.o) fun l f=>aZ (x:=bJ v) rfl (show ev _ (.tmp 111)=(pt I)from by kernel_rfl) (by kernel_rfl) (pJ.aH.below f (by have:=pJ.lt; omega)) (i:=0) (by omega) (by omega) rfl))
    ·exact .inr (.inr mI)
    ·exact .inr (.inr (oP (au v.dst) fun l f=>aZ (x:=bJ v) rfl (show ev _ (.tmp 113)=(pf I 10)from by kernel_rfl) (by kernel_rfl) (pJ.aH.below f (by have:=pJ.lt; omega)) (i:=10) (by omega) (by omega) rfl))
    ·exact .inr (.inr mI)
    ·exact .inr (.inr (oP (au v.aT) fun l f=>aZ (x:=bJ v) rfl (show ev _ (.tmp 115)=(pf I 11)from by kernel_rfl) (by kernel_rfl) (pJ.aH.below f (by have:=pJ.lt; omega)) (i:=11) (by omega) (by omega) rfl))
    ·exact .inr (.inr (Fx.Jl (v := .tuple #[.agg (aA 54 (rv .i64 ((dz (m.R d) v.o v.dst v.aT).1))),au ((dz (m.R d) v.o v.dst v.aT).2)]) (by kernel_rfl) (by kernel_rfl) (Fx.qbC (fun l f=>rC (args := [.agg (aA 54 (rv .i64 (m.R d))),au v.o,au v.dst,au v.aT]) rfl (Fx.Sr (show ev _ (.tmp 110) = .agg (aA 54 (rv .i64 (m.R d)))from by kernel_rfl) (show ev _ (.tmp 112)=au v.o from by kernel_rfl) (show ev _ (.tmp 114)=au v.dst from by kernel_rfl) (show ev _ (.tmp 116)=au v.aT from by kernel_rfl)) Tryz.func127 rfl rfl) (fun l f=>(YX (m.R d) v.o v.dst v.aT _).mono fun e v2 h=>⟨h.1,h.2⟩))))
    ·exact .inr (.inr mI)
    ·exact .inr (.inr mI)
    ·exact .inr (.inr mI)
    ·exact .inl rfl
    ·exact .inr (.inl rfl)
    exact .inr (.inr mI)
   rintro Y w8 f1 hf1 pK wz hb6;have apg:I≠Y:=u_ (n_ (pJ.lt) pK);have adQ:p≠Y:=u_ (n_ (uh.lt) pK);have aph:m.tb≠Y:=u_ (n_ (wu.lt) pK);have apj:Z≠Y:=u_ (n_ (sM.lt) pK);have⟨wB,wC,Ah,wD,zR,yJ⟩:=qY hb6 uh wT wu uT yh sM;have b14:=fA hb6 b13 H;have pK:w.heap.size<=Y:=m_ b13.size pK;have xR:=wz.lt;have q1:f1 0=(pt p):=(by rw[hf1]; kernel_rfl);have q3:f1 6=au (d:Int):=(by rw[hf1]; exact(bX (by kernel_rfl)).trans (L_ (Value.int .i64) V));have q4:f1 7=(pt Y):=(by rw[hf1]; kernel_rfl);have q5:f1 8=au ((dz (m.R d) v.o v.dst v.aT).2):=(by rw[hf1]; kernel_rfl);clear hf1;refine sN<|Ws<|ay<|aW q5 ?_;by_cases Y9:((dz (m.R d) v.o v.dst v.aT).2)=0
   ·refine Lv aF (iN Y9)<|aD<|aK<|Wk<|sN ?_;refine ko [0,1,2,3,5,4,6,7,8,9] [0,0,0,0,4,0,4,0,0,3] [(9,4,[4]),(9,6,[6])] fun Cr gK nU => ?_;have⟨xQ,wU,wV,yK,Ar,yL,BA⟩:=kg gK wB wC Ah wD zR yJ wz;have b15:=fA gK b14 H;refine bV q1<|aX (pt p)<|aX (pt p)<|aX (pf p 18)<|bV q3<|Rs (.slice m.s.na (m.s.nn) (m.s.nc)) (aL xQ.aH 18) ?_;refine Rs (.agg (aA 54 (rv .i64 ((dz (m.R d) v.o v.dst v.aT).1)))) (eT BA.aH 0 (ha:=q4)) ?_;refine Rp (pf Z (56*d)) (fun _=>dh 56 (hx:=(rfl.trans (L_ (fun q=>Value.slice q (m.s.nn) (m.s.nc)) FU))))<|aX (pf Z (56*d+2))<|ig<|Ao yL (56*d+2) fun w9 Bf s13 z3 => ?_;have jJ:=fQ s13 yL.KN;have⟨Au,Av,BD,Fp,Eh⟩:=rT jJ xQ wU wV yK Ar;have b16:=s13.below b15 (m_ H b15.size) yL.blk.1;have Dz:Fx.Own w9 B 84 56 (bO Z m.s.nn m.s.nc) m.s.nn (flat 56 (fun O=>mZ (m.id O) (m.par O) (aI m.R d ((dz (m.R d) v.o v.dst v.aT).1) O))):=Bf.congr (fun pq hp=>(Fx.Cj (k:=d) (j:=2) (by omega) (by omega) pq hp).trans (bL (fun i hi j hj=>CS (r:=(dz (m.R d) v.o v.dst v.aT).1) (q:=d) (id:=m.id) (par:=m.par) (R:=m.R) i hi j hj) pq hp));refine Ln<|Rn<|bS<|sN<|ay<|av (au 0)<|aD<|Wr<|aJ (au 0) ?_;have P:aO v=a:=(by unfold aO; omega);have eto : ¬ (v.dst<1\/6<v.dst\/m.core.inn (v.dst-1).toNat=false):=fun h=>h.elim c83 (fun h=>h.elim c87 (fun h=>by rw[show(v.dst-1).toNat=J by omega]at h; rw[show m.core.inn J=true from Y8]at h; cases h))
    have eW:yR m.core v=dz (m.R d) v.o v.dst v.aT:=(by unfold yR; rw[ekN]; rfl);have AB:Fx.Own w9 B 84 56 (.slice m.s.na (m.s.nn) (m.s.nc)) m.s.nn (flat 56 (fun O=>mZ (m.id O) (m.par O) (aI m.R d ((dz (m.R d) v.o v.dst v.aT).1) O))):=Dz.fU (L_ (fun q=>Value.slice q m.s.nn m.s.nc) FU.symm);have A:dW m.core v=0:=(by unfold dW; rw[b_ F,b_ G,b_ K,b_ N,d_ U]; unfold ql; rw[b_ (show ¬ m.core.node v.node<0 from c80),b_ eto,eW]; exact Y9);refine⟨pW A.symm,b16,fun _=>⟨{ m with R:=aI m.R d (dz (m.R d) v.o v.dst v.aT).1 },by symm; unfold gH; rw[b_ F,b_ G,b_ K,b_ N,d_ U]; unfold FY; rw[ekN,eW]; rfl,?_⟩⟩;exact { c:=Au,n:=AB,g:=Av,tc:=BD,t:=Fp,r:=Eh,pB:=U3,tB:=Ei,bn:=bn,bg:=bg,bt:=bt,br:=S.br }
   refine Lv aG (jZ Y9)<|aD<|aM<|ay<|aW q5<|av (au ((dz (m.R d) v.o v.dst v.aT).2))<|aD<|Wr<|sR<|bM<|sR<|aJ (au ((dz (m.R d) v.o v.dst v.aT).2)) ?_;have P:aO v=a:=(by unfold aO; omega);have eto : ¬ (v.dst<1\/6<v.dst\/m.core.inn (v.dst-1).toNat=false):=fun h=>h.elim c83 (fun h=>h.elim c87 (fun h=>by rw[show(v.dst-1).toNat=J by omega]at h; rw[show m.core.inn J=true from Y8]at h; cases h))
   have eW:yR m.core v=dz (m.R d) v.o v.dst v.aT:=(by unfold yR; rw[ekN]; rfl);have A:dW m.core v=(dz (m.R d) v.o v.dst v.aT).2:=(by unfold dW; rw[b_ F,b_ G,b_ K,b_ N,d_ U]; unfold ql; rw[b_ (show ¬ m.core.node v.node<0 from c80),b_ eto,eW]);exact⟨pW A.symm,b14,fun E=>by rw[A]at E; exact M_ E Y9⟩
  rw[T_]at Y8;refine Qv aF (fun l f=>aL (mQ.aH.dr f) J ((jX _ (by omega) (AA _ (by omega))).trans (L_ Value.bool Y8)))<|aU aG<|aU aG<|Qn ?_;rintro _ ⟨L,rfl⟩;obtain⟨wq6,adT⟩ : ∃ l,l=World.drewN M L:=⟨_,rfl⟩;rw[<- adT];have Af:Stp M.heap.size M wq6:=by rw[adT]; exact Sb (jB M L)
  have b17:=fA Af.old b10 H;clear adT;refine sN<|aM<|ay<|av (au 10)<|aD<|Wr<|sR<|bM<|sR<|aJ (au 10) ?_;have P:aO v=a:=by unfold aO; omega
  have A:dW m.core v=10:=by unfold dW; rw[b_ F,b_ G,b_ K,b_ N,d_ U]; unfold ql; rw[b_ (show ¬ m.core.node v.node<0 from c80)]; exact d_ (.inr (.inr (by rw[show(v.dst-1).toNat=J by omega]; exact Y8)))
  exact⟨pW A.symm,b17,fun E=>by rw[A]at E; cases E⟩
 refine Lv aF (eO U)<|av aF<|aD<|aK<|ay ?_;by_cases Vn:v.kind=6
 ·refine Lv aG (dP Vn)<|av aG<|aD<|aM ?_;have aa:=C.c;have ac:=C.n;have ab:=C.g;have ae:=C.tc;have af:=C.t;have ad:=C.r;obtain⟨J,hb9,eb9⟩:=Iw hmay Vn;refine ko [0,1,4,5,6,2,3,7,8] [0,0,4,0,0,0,0,0,3] [(8,2,[2])] fun R9 mK Bv => ?_;have⟨uU,qG,qj,rE,qH,rY,tN⟩:=kg mK W aa ac ab ae af ad;have b18:=fA mK X H;refine aX (pt p)<|aX (pf I 10)<|aX (pt p)<|aX (pt p)<|aX (pt p)<|Rs (au v.dst) (aL uU.aH 10) ?_;refine Rp (au J) (fun _=>gN)<|Rp (pf p J) (fun _=>jV 6 1)<|ig<|jv qG J aG fun rW vO s16 z4 => ?_;have nQ:=fQ s16 qG.ty;have⟨uV,zS,vP,zT,CF⟩:=rT nQ qj rE qH rY tN;have b19:=s16.below b18 (m_ H b18.size) (by omega);refine Ln<|Rn<|bS<|sN<|ay<|av (au 0)<|aD<|Wr<|aJ (au 0) ?_;have P:aO v=a:=by unfold aO; omega
  have A:dW m.core v=0:=by unfold dW; rw[b_ F,b_ G,b_ K,b_ N,b_ U]
  refine⟨pW A.symm,b19,fun _=>⟨{ m with s := { m.s with inn:=aI m.s.inn J true } },by symm; unfold gH; rw[b_ F,b_ G,b_ K,b_ N,b_ U,d_ Vn]; rw[show(v.dst-1).toNat=J by omega]; rfl,?_⟩⟩;exact { c:=vO.to (Y7 m hb9),n:=uV,g:=zS,tc:=vP,t:=zT,r:=CF,pB:=U3,tB:=Ei,bn:=bn,bg:=bg,bt:=bt,br:=S.br }
 refine Lv aF (eO Vn)<|av aF<|aD<|aK<|ay<|Lv aG agG<|av aG<|aD<|aM ?_;have aa:=C.c;have ac:=C.n;have ab:=C.g;have ae:=C.tc;have af:=C.t;have ad:=C.r;refine ko [0,1,4,5,6,2,3,7,8] [0,0,4,0,0,0,0,0,3] [(8,2,[2])] fun wt4 rJ Ig => ?_;have⟨yj,uW,rF,yP,yQ,uX,CG⟩:=kg rJ W aa ac ab ae af ad;have b20:=fA rJ X H;refine aX (pt p)<|aX (pt I)<|aX (pt p)<|aX (pt p)<|aX (pf p 6)<|Rs (au v.o) (aL yj.aH 0) ?_;refine Rp (au a) (fun _=>gN)<|Rp (pf p (a+6)) (fun _=>jV 6 1)<|ig<|jv uW (a+6) aG fun Ec JM M8 z5 => ?_;have ru:=fQ M8 uW.ty;have⟨BI,FE,G6,CJ,AJ⟩:=rT ru rF yP yQ uX CG;have ND:=M8.below b20 (m_ H b20.size) (by omega);refine Ln<|Rn<|bS<|sN<|ay<|av (au 0)<|aD<|Wr<|aJ (au 0) ?_;have P:aO v=a:=by unfold aO; omega
 have A:dW m.core v=0:=by unfold dW; rw[b_ F,b_ G,b_ K,b_ N,b_ U]
 refine⟨pW A.symm,ND,fun _=>⟨{ m with s := { m.s with left:=aI m.s.left a true } },by symm; unfold gH; rw[b_ F,b_ G,b_ K,b_ N,b_ U,b_ Vn]; rw[P]; rfl,?_⟩⟩;exact { c:=JM.to (Vm m ha rfl),n:=BI,g:=FE,tc:=G6,t:=CJ,r:=AJ,pB:=U3,tB:=Ei,bn:=bn,bg:=bg,bt:=bt,br:=S.br }
namespace Rt
structure adU(L:eP)(T:Nat):Prop where
 nn:L.nn<=33
 gn:L.gn<=T
 rn : ∀ i,i<6->L.rn i<=T
 tn : ∀ x,L.node x=bE L.t L.tn x
 dx : ∀ x,∃ D,D<=1000/\bE L.t L.tn (bH L.t L.tn D x)<0
 may : ∀ k,k<L.nn->may (L.R k)=true
 kn:Ay L.known
open Classical in
noncomputable def bA(L:eP)(v:EvM):Int :=
 if bR v=false then 1 else if lN L.known v=true then 14 else if dL L.known v=false then 13 else if L.inn (aO v)=false\/L.left (aO v)=true then 10 else dW L v
def Iy(L:eP)(v:EvM):eP := { L with known:=aI L.known (aO v) (L.known (aO v)+1) }
open Classical in
noncomputable def bT(L:eP)(v:EvM):eP:=if bA L v=0 then Iy (gH L v) v else L
theorem qI(L:eP)(v:EvM):(gH L v).known=L.known:=by
 unfold gH;split; · unfold rD; rfl
 split; · unfold FX; rfl
 split; · unfold jg rG; rfl
 split; · unfold gG rG; rfl
 split; · unfold FY; rfl
 split <;> rfl
end Rt
set_option maxRecDepth 20000 in
set_option maxHeartbeats 2000000 in
theorem EC(m:kV)(B p T:Nat)(v:EvM)(w:World)(L:rX w B p m)(z:gD v)(I:adU m.core T)(hT:T<=900000) :
 Calls Tryz.prog 44 #[(pt p),.agg (aA 14 (bJ v))] w fun e w' => ∃ p' m',e = .returned (.tuple #[(pt p'),au (bA m.core v)])/\m'.core=bT m.core v/\rX w' B p' m'/\Below w.heap.size w w':=by
 have O:=L.c;have YR:p<w.heap.size:=O.lt;have hpB:=L.pB;refine Kent Tryz.func44 73 ?_;refine ay<|om fun g1 w1 kM U s1 z1 => ?_;have⟨F,d,Y⟩:=gL s1.old L O (Below.refl w.heap.size w);have qZ:=gI kM;have UU:=cu kM O.lt;have sF:=U.lt;refine av (.pointer none)<|av (au 0)<|aD<|Ws<|ay<|Lv (.agg (aA 14 (bJ v))) (eT U.aH 0) ?_;by_cases l:(bR v)=true
 ·refine dU (Ii v _ z) aG (by rw[l]) ?_;intro w2 hb1;have⟨m4,m5,m6,Z⟩:=jw hb1 F d U Y;refine av aF<|aD<|aK<|Wk<|sN<|Ws<|Ws ?_;refine mF<|aU (pt p)<|aU (pt p)<|aU (pt p)<|aU (pf p 12)<|Qv (.agg (aA 6 (rv .u64 m.s.known))) (fun W A=>eT (m5.cb A) 12 (fun j S=>jX _ (by omega) (iY _ S (by omega))))<|Qv (.agg (aA 14 (bJ v))) (fun W A=>eT (m6.cb A) 0) ?_;by_cases u:(lN m.s.known v)=true
  ·refine wM (fun _ _=>Ux m.s.known v _ z) aG (by rw[u])<|Qn ?_;intro TH pG;have⟨m7,b3⟩:=fC pG m4 Z;refine sN<|aM<|ay<|av (pt p)<|av (pt p)<|av (au 14)<|aD<|Wr<|sR<|aJ (.tuple #[(pt p),au 14]) ?_;have b:bA m.core v=14:=(by unfold bA; rw[b_ (by rw[l]; decide)]; exact d_ u);have q:bT m.core v=m.core:=(by unfold bT; rw[b_ (by rw[b]; decide)]);exact⟨p,m,by rw[b],q.symm,m7,b3⟩
  rw[T_]at u;refine wM (fun _ _=>Ux m.s.known v _ z) aF (by rw[u])<|Qn ?_;intro Yp uG;have⟨m10,m11,m12,b4⟩:=jw uG m4 m5 m6 Z;refine sN<|aK<|Wk<|sN<|Ws<|Ws ?_;refine mF<|aU (pt p)<|aU (pt p)<|aU (pt p)<|aU (pf p 12)<|Qv (.agg (aA 6 (rv .u64 m.s.known))) (fun W A=>eT (m11.cb A) 12 (fun j S=>jX _ (by omega) (iY _ S (by omega))))<|Qv (.agg (aA 14 (bJ v))) (fun W A=>eT (m12.cb A) 0) ?_;by_cases x:(dL m.s.known v)=true
  ·refine wM (fun _ _=>Ph m.s.known v _ z I.kn) aG (by rw[x])<|aU aF<|Qn ?_;intro N xP;have⟨K,M,m15,G⟩:=jw xP m10 m11 m12 b4;refine sN<|aK<|Wk<|sN<|Ws ?_;obtain⟨a,P,ho⟩:=fq (jk l);refine Wl<|av (pt g1)<|Lv (au v.o) (aL m15.aH 0)<|Lv (au a) gN<|av (au a)<|aD<|Ws<|ay<|av (pt p)<|av (au a)<|av (pt p)<|av (pt p)<|av (pt p)<|Lv (pf p a) (jV 6 1) ?_;by_cases C:(m.s.inn a)=true
   ·refine Lv aG (aL M.aH a ((jX _ (by omega) (AA _ (by omega))).trans (L_ Value.bool C)))<|av aF<|av aF<|av (pt p)<|av (au a)<|av (pt p)<|av (pt p)<|av (pf p 6)<|Lv (pf p (a+6)) (jV 6 1) ?_;by_cases D:(m.s.left a)=true
    ·refine Lv aG (aL M.aH (a+6) ((jX _ (by omega) (BG _ (by omega) (by omega))).trans (L_ Value.bool D)))<|av aG<|aD<|aM<|ay<|av (pt p)<|av (pt p)<|av (au 10)<|aD<|Wr<|sR<|aJ (.tuple #[(pt p),au 10]) ?_;have y:aO v=a:=(by unfold aO; omega);have b:bA m.core v=10:=(by unfold bA; rw[b_ (by rw[l]; decide),b_ (by rw[show lN m.core.known v=false from u]; decide),b_ (by rw[show dL m.core.known v=true from x]; decide),y]; exact d_ (.inr D));have q:bT m.core v=m.core:=(by unfold bT; rw[b_ (by rw[b]; decide)]);exact⟨p,m,by rw[b],q.symm,K,G⟩
    rw[T_]at D;refine Lv aF (aL M.aH (a+6) ((jX _ (by omega) (BG _ (by omega) (by omega))).trans (L_ Value.bool D)))<|av aF<|aD<|aK<|Wk<|sN<|ay<|av (pt p)<|kU (adp m p _ K.XZ (by have:=I.nn; have e:m.core.nn=m.s.nn:=rfl; omega) K.bt) ?_;rintro e w3 ⟨f,F,J,R,hL2,Q⟩;refine⟨(pt f),J,?_⟩;clear J;have⟨m18,b6⟩:=fC Q m15 G;have E:adU F.core T:=(by rw[R]; exact I);refine av (pt f)<|aD<|Ws ?_;have apl:=hL2;refine Wl<|av (pt f)<|Lv (.agg (aA 14 (bJ v))) (eT m18.aH 0)<|kU (adR F N.heap.size f a v _ apl Q.size P ho (by have h9:F.s.nn<=33:=E.nn; omega) (m_ E.gn hT) (fun i hi=>m_ (E.rn i hi) hT) E.tn E.dx z l E.may) ?_;rintro e X ⟨J,hbd,hL3⟩;refine⟨au (dW m.core v),by rw[<- R]; exact J,?_⟩;clear J;rw[R]at hL3;have b8:Below N.heap.size N X:=Q.trans hbd;have b7:Below w.heap.size w X:=b6.trans (hbd.mono (m_ (A_ _) G.size));have m19:rX X B p m:=K.up b8;refine av (au (dW m.core v))<|aD<|Ws<|ay<|av (au (dW m.core v)) ?_;by_cases H:(dW m.core v)=0
    ·refine Lv aF (iN H)<|aD<|aK<|Wk<|sN<|Ws ?_;obtain⟨d,hc3,k⟩:=hL3 H;have hMc:=k.c;have hMn:=k.n;have hMg:=k.g;have hMt:=k.tc;have apn:=k.t;have hMr:=k.r;have ek3:d.s.known=m.s.known:=(by show d.core.known=_; rw[hc3,qI]; rfl);have hk3:=I.kn a P;have hk3:0<=d.s.known a/\d.s.known a<1099511627776:=(by rw[ek3]; exact hk3);have lp2:=k.pB;have sw1:=G.size;refine ko [0,1,2,3,4,5,8,9,10,6,7,11,12] [0,0,0,0,0,0,4,0,0,0,0,0,3] [(12,6,[6])] fun qC dN iE => ?_;have⟨V,m21,m22,m23,m24,mM,b9⟩:=kg dN hMc hMn hMg hMt apn hMr b7;refine aX (pt f)<|aX (au a)<|aX (pt f)<|aX (pt f)<|aX (pf f 12)<|Rp (pf f (a+12)) (fun _=>jV 6 1)<|aX (pt f)<|aX (pt f)<|aX (pf f 12)<|Rs (aC (d.s.known a)) (aL V.aH (a+12) (jX _ (by omega) (iY _ (by omega) (by omega)))) ?_;refine Rp (aC (d.s.known a+1)) (fun _=>fH)<|Rp (pf f (a+12)) (fun _=>jV 6 1)<|ig<|jv V (a+12) (aC (d.s.known a+1)) fun w5 mU s8 z2 => ?_;have fO:=fQ s8 V.ty;have⟨oo,ou,nG,nk,lI⟩:=rT fO m21 m22 m23 m24 mM;have b10:=s8.below b9 b9.size (by omega);refine Ln<|bQ<|ay<|av (pt f)<|av (pt f)<|av (au 0)<|aD<|Wr<|aJ (.tuple #[(pt f),au 0]) ?_;have y:aO v=a:=(by unfold aO; omega);have b:bA m.core v=0:=by unfold bA; rw[b_ (by rw[l]; decide),b_ (by rw[show lN m.core.known v=false from u]; decide),b_ (by rw[show dL m.core.known v=true from x]; decide),y]; rw[b_ (show ¬ (m.core.inn a=false\/m.core.left a=true)from fun h=>h.elim (fun h=>by rw[show m.core.inn a=true from C]at h; cases h) (fun h=>by rw[show m.core.left a=false from D]at h; cases h))]; exact H
     have hfin:rX w5 N.heap.size f { d with s := { d.s with known:=aI d.s.known a (d.s.known a+1) } } := { c:=mU.to (Rl d P rfl _),n:=oo,g:=ou,tc:=nG,t:=nk,r:=lI,pB:=k.pB,tB:=k.tB,bn:=k.bn,bg:=k.bg,bt:=k.bt,br:=k.br };refine⟨f,{ d with s := { d.s with known:=aI d.s.known a (d.s.known a+1) } },by rw[b],?_,hfin.mono (by have:=L.pB; have:=YR; omega),b10⟩;unfold bT; rw[d_ b]; unfold Iy; rw[y,qI,<- hc3,show m.core.known=d.s.known from ek3.symm]; rfl
    refine Lv aG (jZ H)<|aD<|aM<|ay<|av (pt p)<|av (au (dW m.core v))<|av (pt p)<|av (au (dW m.core v))<|aD<|Wr<|sR<|aJ (.tuple #[(pt p),au (dW m.core v)]) ?_;have y:aO v=a:=(by unfold aO; omega);have b:bA m.core v=dW m.core v:=by unfold bA; rw[b_ (by rw[l]; decide),b_ (by rw[show lN m.core.known v=false from u]; decide),b_ (by rw[show dL m.core.known v=true from x]; decide),y]; rw[b_ (show ¬ (m.core.inn a=false\/m.core.left a=true)from fun h=>h.elim (fun h=>by rw[show m.core.inn a=true from C]at h; cases h) (fun h=>by rw[show m.core.left a=false from D]at h; cases h))]
    have q:bT m.core v=m.core:=(by unfold bT; rw[b_ (by rw[b]; exact H)]);exact⟨p,m,by rw[b],q.symm,m19,b7⟩
   rw[T_]at C;refine Lv aF (aL M.aH a ((jX _ (by omega) (AA _ (by omega))).trans (L_ Value.bool C)))<|av aG<|av aG<|bF<|bF<|bF<|bF<|bF<|bF<|bF<|av aG<|aD<|aM<|ay<|av (pt p)<|av (pt p)<|av (au 10)<|aD<|Wr<|sR<|aJ (.tuple #[(pt p),au 10]) ?_;have y:aO v=a:=(by unfold aO; omega);have b:bA m.core v=10:=(by unfold bA; rw[b_ (by rw[l]; decide),b_ (by rw[show lN m.core.known v=false from u]; decide),b_ (by rw[show dL m.core.known v=true from x]; decide),y]; exact d_ (.inl C));have q:bT m.core v=m.core:=(by unfold bT; rw[b_ (by rw[b]; decide)]);exact⟨p,m,by rw[b],q.symm,K,G⟩
  rw[T_]at x;refine wM (fun _ _=>Ph m.s.known v _ z I.kn) aF (by rw[x])<|aU aG<|Qn ?_;intro wb4 Bz;have⟨m32,b11⟩:=fC Bz m10 b4;refine sN<|aM<|ay<|av (pt p)<|av (pt p)<|av (au 13)<|aD<|Wr<|sR<|aJ (.tuple #[(pt p),au 13]) ?_;have b:bA m.core v=13:=by unfold bA; rw[b_ (by rw[l]; decide),b_ (by rw[show lN m.core.known v=false from u]; decide)]; exact d_ x
  have q:bT m.core v=m.core:=by unfold bT; rw[b_ (by rw[b]; decide)]
  exact⟨p,m,by rw[b],q.symm,m32,b11⟩
 rw[T_]at l;refine dU (Ii v _ z) aF (by rw[l]) ?_;intro w6 hb2;have⟨nR,b12⟩:=fC hb2 F Y;refine av aG<|aD<|aM<|ay<|av (pt p)<|av (pt p)<|av (au 1)<|aD<|Wr<|sR<|aJ (.tuple #[(pt p),au 1]) ?_;have b:bA m.core v=1:=by unfold bA; exact d_ l
 have q:bT m.core v=m.core:=by unfold bT; rw[b_ (by rw[b]; decide)]
 exact⟨p,m,by rw[b],q.symm,nR,b12⟩
section
namespace Rt
structure Inv0(L:eP)(T:Nat):Prop where
 CV:L.tn=L.nn
 nn:L.nn<=32
 tid : ∀ i,i<L.nn->L.t i 0=L.id i/\L.t i 1=L.par i
 rise : ∀ i j,i<j->j<L.nn->L.id i<L.id j
 pos : ∀ i,i<L.nn->1<=L.id i
 top : ∀ i,i<L.nn->L.id i<7696581394432
 up : ∀ i,i<L.nn->L.par i=0 \/ ∃ j,j<L.nn/\L.id j=L.par i
 dep : ∀ x,∃ D,D<=4/\bE L.t L.tn (bH L.t L.tn D x)<0
 gn:L.gn<=T
 rn : ∀ i,i<6->L.rn i<=T
 may : ∀ k,k<L.nn->may (L.R k)=true
 g47 : ∀ k,k<L.nn -> ∀ a,a<6->L.R k a<=140737488355328
 kn:Ay L.known
theorem ilt(a:Int):a<0\/0<=a:=by omega
theorem iZ{t:Nat->Nat->Int}{tn:Nat}{x:Int}:0<=bE t tn x <-> ∃ i,i<tn/\t i 0=x:=by
 constructor
 ·intro h;obtain⟨j,c,_,e⟩:=vM h;exact⟨j,c,e⟩
 rintro ⟨i,b,e⟩
 rcases iF (fun i=>decide (t i 0=x)) tn with ⟨k,_,a,_⟩|⟨_,h2⟩
 ·unfold bE; rw[a]; omega
 have:=h2 i b; rw[f_ e]at this; cases this
theorem vS{t:Nat->Nat->Int}{tn:Nat}{x:Int}:bE t tn x<0 <-> ∀ i,i<tn->t i 0≠x:=by
 constructor
 ·intro h i a e;have:=iZ.2 ⟨i,a,e⟩; omega
 intro h
 rcases ilt (bE t tn x)with h1|h1
 ·exact h1
 obtain⟨i,a,e⟩:=iZ.1 h1;exact M_ e (h i a)
theorem vT{t:Nat->Nat->Int}{tn i:Nat}(c : ∀ i j,i<tn->j<tn->t i 0=t j 0->i=j)(hi:i<tn):bE t tn (t i 0)=(i:Int):=by
 obtain⟨j,b,e,a⟩:=vM (iZ.2 ⟨i,hi,rfl⟩);rw[e,c j i b hi a]
theorem FZ{t:Nat->Nat->Int}{tn:Nat}{x:Int} : ∀ j,bH t tn (j+1) x=bH t tn j (bH t tn 1 x)
 | 0=>rfl
 | j+1=>by
   show t (bE t tn (bH t tn (j+1) x)).toNat 1=t (bE t tn (bH t tn j (bH t tn 1 x))).toNat 1;rw[FZ j]
section
variable {L:eP} {T:Nat}
theorem Inv0.inj(h:Inv0 L T) : ∀ i j,i<L.nn->j<L.nn->L.id i=L.id j->i=j:=fun i j a b e=>by
 rcases Nat.lt_trichotomy i j with h1|h1|h1
 ·have:=h.rise i j h1 b; omega
 ·exact h1
 ·have:=h.rise j i h1 a; omega
theorem Inv0.aii(h:Inv0 L T) : ∀ i j,i<L.tn->j<L.tn->L.t i 0=L.t j 0->i=j:=fun i j a b e=>by
 rw[h.CV]at a b;rw[(h.tid i a).1,(h.tid j b).1]at e;exact h.inj i j a b e
theorem DF{P Q:Nat->Bool} : ∀ {n:Nat},(∀ i,i<n->P i=Q i)->iq P n=iq Q n
 | 0,_=>rfl
 | n+1,h=>by
   simp only[iq];rw[DF (n:=n) fun i a=>h i (by omega),h n (by omega)]
theorem Inv0.node(h:Inv0 L T)(x:Int):L.node x=bE L.t L.tn x:=by
 unfold eP.node bE;rw[h.CV];exact DF fun i a=>by rw[(h.tid i a).1]
theorem Inv0.w(h:Inv0 L T):adU L T where
 nn:=by have:=h.nn; omega
 gn:=h.gn
 rn:=h.rn
 tn:=h.node
 dx:=fun x=>by obtain⟨D,b,a⟩:=h.dep x; exact⟨D,by omega,a⟩
 may:=h.may
 kn:=h.kn
theorem Inv0.mono{T':Nat}(h:Inv0 L T)(a:T<=T'):Inv0 L T' := { h with gn:=m_ h.gn a,rn:=fun i b=>m_ (h.rn i b) a }
theorem ED{a:Type}{f:Nat->a}{k i:Nat}{v:a}(h:i<k):cO f k v i=f i:=by unfold cO; rw[d_ h]
theorem dA{a:Type}{f:Nat->a}{k:Nat}{v:a}:cO f k v k=v:=by unfold cO; rw[b_ (by omega),d_ rfl]
theorem EF{a:Type}{f:Nat->a}{k i:Nat}{v:a}(h:k<i):cO f k v i=f (i-1):=by unfold cO; rw[b_ (by omega),b_ (by omega)]
theorem dH{k i n:Nat}(b:k<=n)(hi:i<n+1):i=k \/ ∃ j,j<n/\(∀ {α:Type} (f:Nat->α) (v:α),cO f k v i=f j)/\(j<k->i=j)/\(k<=j->i=j+1):=by
 rcases Nat.lt_trichotomy i k with h|h|h
 ·exact .inr ⟨i,by omega,fun f v=>ED h,fun _=>rfl,fun a=>by omega⟩
 ·exact .inl h
 exact .inr ⟨i-1,by omega,fun f v=>EF h,fun a=>by omega,fun _=>by omega⟩
theorem yS{k j n:Nat}(a:j<n) : ∃ i,i<n+1/\i≠k /\ ∀ {α:Type} (f:Nat->α) (v:α),cO f k v i=f j:=by
 by_cases h:j<k
 ·exact⟨j,by omega,by omega,fun f v=>ED h⟩
 exact⟨j+1,by omega,by omega,fun f v=>by rw[EF (by omega)]; rfl⟩
theorem zD(t:Nat->Nat->Int)(k:Nat)(id par:Int)(i:Nat):qg t k id par i=cO t k (fun j=>if j=0 then id else par) i:=rfl
theorem Iz{P Q:Nat->Bool} : ∀ {n:Nat},(∀ i,i<n->P i=Q i)->down P n=down Q n
 | 0,_=>rfl
 | n+1,h=>by
   unfold down;rw[Iz (n:=n) fun i a=>h i (by omega),h n (by omega)]
structure qm(t t':Nat->Nat->Int)(tn:Nat)(id par:Int):Prop where
 u : ∀ i j,i<tn->j<tn->t i 0=t j 0->i=j
 u' : ∀ i j,i<tn+1->j<tn+1->t' i 0=t' j 0->i=j
 no : ∀ i,i<tn->t i 0≠id
 old : ∀ i,i<tn -> ∃ j,j<tn+1/\t' j=t i
 new : ∃ j,j<tn+1/\t' j 0=id/\t' j 1=par
 back : ∀ j,j<tn+1->t' j 0=id \/ ∃ i,i<tn/\t' j=t i
variable {t t':Nat->Nat->Int} {tn:Nat} {id par:Int}
theorem qm.find(h:qm t t' tn id par){x:Int}:0<=bE t' (tn+1) x<->(0<=bE t tn x\/x=id):=by
 rw[iZ,iZ];constructor
 ·rintro ⟨j,b,e⟩
  rcases h.back j b with a|⟨i,hi,a⟩
  ·exact .inr (e.symm.trans a)
  exact .inl ⟨i,hi,by rw[<- a]; exact e⟩
 rintro (⟨i,hi,e⟩|e)
 ·obtain⟨j,b,a⟩:=h.old i hi;exact⟨j,b,by rw[a]; exact e⟩
 obtain⟨j,b,a,_⟩:=h.new;exact⟨j,b,a.trans e.symm⟩
theorem qm.Za(h:qm t t' tn id par){x:Int}(hx:0<=bE t tn x):t' (bE t' (tn+1) x).toNat 1=t (bE t tn x).toNat 1:=by
 obtain⟨i,b,e⟩:=iZ.1 hx;obtain⟨j,f,a⟩:=h.old i b;have c:bE t tn x=(i:Int):=by rw[<- e]; exact vT h.u b
 have d:bE t' (tn+1) x=(j:Int):=by
  have:t' j 0=x:=by rw[a]; exact e
  rw[<- this]; exact vT h.u' f
 rw[c,d];show t' j 1=t i 1;rw[a]
theorem qm.iter(h:qm t t' tn id par){x:Int} : ∀ K,(∀ i,i<K->0<=bE t tn (bH t tn i x))->bH t' (tn+1) K x=bH t tn K x
 | 0,_=>rfl
 | K+1,hk=>by
   have a:=qm.iter h K fun i b=>hk i (by omega);show t' (bE t' (tn+1) (bH t' (tn+1) K x)).toNat 1=t (bE t tn (bH t tn K x)).toNat 1;rw[a]; exact h.Za (hk K (by omega))
theorem vU{t:Nat->Nat->Int}{tn:Nat}{x:Int} : ∀ D,bE t tn (bH t tn D x)<0 -> ∃ K,K<=D/\bE t tn (bH t tn K x)<0 /\ ∀ i,i<K->0<=bE t tn (bH t tn i x)
 | 0,h=>⟨0,A_ _,h,fun _ a=>M_ a (z_ _)⟩
 | D+1,h=>by
   by_cases f : ∀ i,i<D+1->0<=bE t tn (bH t tn i x)
   ·exact⟨D+1,A_ _,h,f⟩
   ·obtain⟨i,a⟩:=Classical.not_forall.1 f;obtain⟨a,o⟩:=Classical.not_imp.1 a
    rcases Nat.lt_or_ge i D with h3|h3
    ·-- an earlier end
     have : ∀ n,n<=D->(∃ j,j<=n/\bE t tn (bH t tn j x)<0) -> ∃ K,K<=n/\bE t tn (bH t tn K x)<0 /\ ∀ i,i<K->0<=bE t tn (bH t tn i x):=by
      intro n
      induction n with
      | zero=>rintro _ ⟨j,m,k⟩; obtain rfl:j=0:=by omega
              exact⟨0,A_ _,k,fun _ a=>M_ a (z_ _)⟩
      | succ n ih =>
        rintro k ⟨j,m,g⟩;by_cases c : ∃ j,j<=n/\bE t tn (bH t tn j x)<0
        ·obtain⟨K,d,l⟩:=ih (by omega) c; exact⟨K,by omega,l⟩
        ·refine⟨n+1,A_ _,?_,fun i a => ?_⟩
         ·by_cases e:j=n+1
          ·rw[<- e]; exact g
          ·exact M_ ⟨j,by omega,g⟩ c
         ·rcases ilt (bE t tn (bH t tn i x))with h7|h7
          ·exact M_ ⟨i,by omega,h7⟩ c
          ·exact h7
     obtain⟨K,d,b⟩:=this i (by omega) ⟨i,A_ _,by omega⟩;exact⟨K,by omega,b⟩
    ·obtain rfl:i=D:=(by omega);obtain⟨K,d,b⟩:=vU (t:=t) (tn:=tn) (x:=x) i (by omega);exact⟨K,by omega,b⟩
theorem qm.dep(h:qm t t' tn id par)(z:1<=id)(v : ∀ i,i<tn->t i 1=0\/0<=bE t tn (t i 1))(s:par=0\/0<=bE t tn par)(B:bE t tn 0<0)(o : ∀ x,∃ D,D<=4/\bE t tn (bH t tn D x)<0)(p : ¬ Dy t tn par) :
 ∀ x,∃ D,D<=4/\bE t' (tn+1) (bH t' (tn+1) D x)<0:=by
 have A:bE t tn id<0:=vS.2 h.no;have k : ∀ x K,x≠id->bE t tn (bH t tn K x)<0->(∀ i,i<K->0<=bE t tn (bH t tn i x))->bE t' (tn+1) (bH t' (tn+1) K x)<0:=fun x K c f a=>by
  rw[h.iter K a]
  rcases ilt (bE t' (tn+1) (bH t tn K x))with h1|h1
  ·exact h1
  ·exfalso
   rcases h.find.1 h1 with h2|h2
   ·omega
   ·cases K with
    | zero=>exact c h2
    | succ K =>
      have q:=a K (by omega);obtain⟨i,b,e⟩:=iZ.1 q;have d:bH t tn (K+1) x=t i 1:=by
       show t (bE t tn (bH t tn K x)).toNat 1=t i 1;rw[<- e,vT h.u b]; rfl
      rw[d]at h2 f
      rcases v i b with h4|h4
      ·omega
      ·omega
 intro x;by_cases c:x=id
 ·subst c;obtain⟨i,b⟩:=Classical.not_forall.1 p;obtain⟨y,b⟩:=Classical.not_imp.1 b;obtain⟨K,f,g,a⟩:=vU (t:=t) (tn:=tn) (x:=par) i (by omega);refine⟨K+1,by omega,?_⟩;have l:bH t' (tn+1) 1 x=par:=by
   obtain⟨j,r,m,d⟩:=h.new;show t' (bE t' (tn+1) x).toNat 1=par;rw[<- m,vT h.u' r]; exact d
  rw[FZ,l];refine k par K ?_ g a;rintro rfl
  rcases s with h1|h1 <;> omega
 obtain⟨D,w,n⟩:=o x;obtain⟨K,f,g,a⟩:=vU D n;exact⟨K,by omega,k x K c g a⟩
end
end Rt
end
section
namespace Rt
section
variable {L:eP} {T:Nat} {v:EvM}
theorem Zb{t:Nat->Nat->Int}{tn:Nat}{id par:Int}(h:jQ t tn id par=0):id≠0/\bE t tn id<0/\(par=0\/0<=bE t tn par)/\tn<32 /\ ¬ Dy t tn par:=by
 unfold jQ at h;split at h; · cases h
 rename_i h1;split at h; · cases h
 rename_i h2;split at h; · cases h
 rename_i h3;split at h; · cases h
 rename_i h4;refine⟨h1,by omega,?_,?_,fun b=>h4 (.inr b)⟩
 ·rcases ilt (bE t tn par)with h5|h5
  ·by_cases a:par=0
   ·exact .inl a
   exact M_ ⟨a,h5⟩ h3
  exact .inr h5
 rcases Nat.lt_or_ge tn 32 with h5|h5
 ·exact h5
 exact M_ (Or.inl h5) h4
theorem oJ(h:bR v=true):1<=v.o/\v.o<=6/\1<=v.seq/\v.seq<1099511627776:=by
 have a:=jk h;have b:=Eu h;unfold jl at a;simp only[S_,decide_eq_true_eq]at a;exact⟨a.1,a.2,b.1,b.2⟩
theorem su(h:bR v=true):jF v.o v.seq=1099511627776*v.o+v.seq:=by
 have:=oJ h;unfold jF; rw[d_ (by omega)]
theorem kH(h:bR v=true):aO v<6:=by
 have:=oJ h; unfold aO; omega
theorem Zc{a:Nat}{n:Int}(ha:a<6)(f:0<=n)(h1:n<=1125899906842624):may (upd (fun _=>0) a n)=true:=by
 have e : ∀ p,upd (fun _=>0) a n p=if p=a then n else 0:=fun p=>rfl;rw[lD];refine⟨fun p l => ?_,fun k h => ?_,?_⟩
 ·rw[e]; split <;> omega
 ·have b : ∀ i j,R (upd (fun _=>0) a n) i j=0:=fun i j=>by unfold R; rw[e,b_ (by omega)]
  refine⟨?_,?_,b k k⟩
  ·unfold L;simp only[b];have g:0<=G (upd (fun _=>0) a n) k:=by unfold G; rw[e]; split <;> omega
   have d:F (upd (fun _=>0) a n) k=0:=(by unfold F; rw[e,b_ (by omega)]);have c:C (upd (fun _=>0) a n) k=0:=(by unfold C; rw[e,b_ (by omega)]);omega
  have d:F (upd (fun _=>0) a n) k=0:=by unfold F; rw[e,b_ (by omega)]
  have c:C (upd (fun _=>0) a n) k=0:=by unfold C; rw[e,b_ (by omega)]
  omega
 unfold tJ G;simp only[e];have:(if 0=a then n else 0)+(if 1=a then n else 0)+(if 2=a then n else 0)+(if 3=a then n else 0)+(if 4=a then n else 0)+(if 5=a then n else 0)=n:=six a ha n;omega
theorem xC(h:Inv0 L T)(d:bR v=true)(F:v.kind=1)(f:kW L v=0) : ∃ k,k<=L.nn/\1<=jF v.o v.seq/\L.nn<32/\(0<=v.aT/\v.aT<=140737488355328)/\(v.node=0\/0<=bE L.t L.tn v.node) /\ ¬ Dy L.t L.tn v.node /\
 rD L v = { L with nn:=L.nn+1,id:=cO L.id k (jF v.o v.seq),par:=cO L.par k v.node,R:=cO L.R k (upd (fun _=>0) (aO v) v.aT),tn:=L.tn+1,t:=qg L.t k (jF v.o v.seq) v.node } /\
 (∀ i j,i<j->j<L.nn+1->cO L.id k (jF v.o v.seq) i<cO L.id k (jF v.o v.seq) j)/\(∀ i,i<L.nn+1->qg L.t k (jF v.o v.seq) v.node i 0=cO L.id k (jF v.o v.seq) i/\qg L.t k (jF v.o v.seq) v.node i 1=cO L.par k v.node i) /\
 qm L.t (qg L.t k (jF v.o v.seq) v.node) L.tn (jF v.o v.seq) v.node:=by
 unfold kW at f;split at f
 ·cases f
 rename_i h47;obtain⟨K,s,w,M,y⟩:=Zb f;have S:=oJ d;have U:=su d;have W:=kH d;have D:0<=v.aT/\v.aT<=140737488355328:=by
  have Q : ¬ 140737488355328<v.aT:=fun h=>h47 (.inr h);unfold bR at d;simp only[S_]at d;have l:=d.2;unfold dJ at l;rw[d_ F]at l;simp only[S_,decide_eq_true_eq]at l;omega
 generalize hx:jF v.o v.seq=x at *;have J:1<=x:=by omega
 have A:down (fun i=>decide (x<L.t i 0)) L.tn=tK L.id L.nn x:=by
  unfold tK; rw[h.CV]; exact Iz fun i a=>by rw[(h.tid i a).1]
 have z:rD L v = { L with nn:=L.nn+1,id:=cO L.id (tK L.id L.nn x) x,par:=cO L.par (tK L.id L.nn x) v.node,R:=cO L.R (tK L.id L.nn x) (upd (fun _=>0) (aO v) v.aT),tn:=L.tn+1,t:=qg L.t (tK L.id L.nn x) x v.node }:=by
  unfold rD; rw[hx,A]; rfl
 generalize hkk:tK L.id L.nn x=k at *;have c:k<=L.nn:=by rw[<- hkk]; exact Fx.uD _ _
 have G : ∀ i,i<L.nn->L.id i≠x:=fun i a e=>vS.1 s i (by rw[h.CV]; exact a) (by rw[(h.tid i a).1]; exact e);have C : ∀ q,k<=q->q<L.nn->x<L.id q:=fun q b g=>by
  have:=Fx.Jr (P:=fun i=>decide (x<L.id i)) (n:=L.nn) (i:=q) (by show tK L.id L.nn x<=q; omega) g;exact h_ this
 have B : ∀ q,q<k->L.id q<x:=fun q b=>by
  obtain⟨j,rfl⟩ : ∃ j,k=j+1:=⟨k-1,by omega⟩;have g:=Fx.Js (P:=fun i=>decide (x<L.id i)) (n:=L.nn) (j:=j) hkk;have N : ¬ x<L.id j:=j_ g;have O:=G j (by omega);by_cases e:q=j
  ·subst e; omega
  ·have:=h.rise q j (by omega) (by omega); omega
 have H:L.nn<32:=by have:=h.CV; omega
 have m : ∀ i j,i<j->j<L.nn+1->cO L.id k x i<cO L.id k x j:=fun i j V hj=>by
  rcases dH c (show i<L.nn+1 by omega)with rfl|⟨q,hq,eq,q1,q2⟩
  ·rcases dH c hj with rfl|⟨r,hr,er,r1,r2⟩
   ·omega
   ·rw[dA,er];exact C r (by omega) hr
  ·rcases dH c hj with rfl|⟨r,hr,er,r1,r2⟩
   ·rw[dA,eq];exact B q (by omega)
   ·rw[eq,er];exact h.rise q r (by omega) hr
 have p : ∀ i,i<L.nn+1->qg L.t k x v.node i 0=cO L.id k x i/\qg L.t k x v.node i 1=cO L.par k v.node i:=fun i a=>by
  rw[zD]
  rcases dH c a with rfl|⟨q,hq,eq,_,_⟩
  ·rw[dA,dA,dA]; exact⟨rfl,rfl⟩
  ·rw[eq,eq,eq]; exact h.tid q hq
 have E : ∀ i j,i<L.nn+1->j<L.nn+1->cO L.id k x i=cO L.id k x j->i=j:=fun i j a hj e=>by
  rcases Nat.lt_trichotomy i j with b|b|b
  ·have:=m i j b hj; omega
  ·exact b
  ·have:=m j i b a; omega
 have I:qm L.t (qg L.t k x v.node) L.tn x v.node := {
  u:=h.aii
  u':=fun i j a hj e=>by
   rw[h.CV]at a hj;rw[(p i a).1,(p j hj).1]at e;exact E i j a hj e
  no:=vS.1 s
  old:=fun i a=>by
   obtain⟨j,hj,_,e⟩:=yS (k:=k) a;exact⟨j,hj,by rw[zD]; exact e L.t _⟩
  new:=⟨k,by have:=h.CV; omega,by rw[zD,dA]; rfl,by rw[zD,dA]; rfl⟩
  back:=fun j hj=>by
   rw[h.CV]at hj
   rcases dH c hj with rfl|⟨q,hq,eq,_,_⟩
   ·exact .inl (by rw[zD,dA]; rfl)
   ·exact .inr ⟨q,by rw[h.CV]; exact hq,by rw[zD]; exact eq L.t _⟩ }
 exact⟨k,c,J,H,D,w,y,z,m,p,I⟩
theorem Rm(h:Inv0 L T)(c:bR v=true)(w:v.kind=1)(r:kW L v=0):Inv0 (rD L v) (T+1):=by
 obtain⟨k,a,m,K,s,g,n,p,B,E,F⟩:=xC h c w r;have I:=oJ c;have J:=su c;have C:=kH c;rw[p];generalize hx:jF v.o v.seq=x at *;have z : ∀ j,j<L.nn -> ∃ i,i<L.nn+1/\cO L.id k x i=L.id j:=fun j hj=>by
  obtain⟨i,hi,_,e⟩:=yS (k:=k) hj;exact⟨i,hi,e L.id x⟩
 have H:bE L.t L.tn 0<0:=vS.2 fun i hi e=>by
  rw[h.CV]at hi;rw[(h.tid i hi).1]at e;have:=h.pos i hi; omega
 have A:v.node=0 \/ ∃ j,j<L.nn/\L.id j=v.node:=by
  rcases g with e|e
  ·exact .inl e
  ·obtain⟨i,hi,d⟩:=iZ.1 e;rw[h.CV]at hi;exact .inr ⟨i,hi,by rw[<- (h.tid i hi).1]; exact d⟩
 exact {
  CV:=by show L.tn+1=L.nn+1; rw[h.CV]
  nn:=by show L.nn+1<=32; omega
  tid:=E
  rise:=B
  pos:=fun i hi=>by
   show 1<=cO L.id k x i
   rcases dH a hi with rfl|⟨q,hq,eq,_,_⟩
   ·rw[dA]; exact m
   ·rw[eq]; exact h.pos q hq
  top:=fun i hi=>by
   show cO L.id k x i<_
   rcases dH a hi with rfl|⟨q,hq,eq,_,_⟩
   ·rw[dA]; omega
   ·rw[eq]; exact h.top q hq
  up:=fun i hi=>by
   show cO L.par k v.node i=0 \/ ∃ j,j<L.nn+1/\cO L.id k x j=cO L.par k v.node i;have l : ∀ y,(y=0 \/ ∃ j,j<L.nn/\L.id j=y)->(y=0 \/ ∃ j,j<L.nn+1/\cO L.id k x j=y):=fun y G=>G.imp id fun⟨j,hj,e⟩=>by
    obtain⟨i,hi,d⟩:=z j hj;exact⟨i,hi,d.trans e⟩
   rcases dH a hi with rfl|⟨q,hq,eq,_,_⟩
   ·rw[dA]; exact l _ A
   ·rw[eq]; exact l _ (h.up q hq)
  dep:=by
   show ∀ y,∃ D,D<=4/\bE (qg L.t k x v.node) (L.tn+1) (bH (qg L.t k x v.node) (L.tn+1) D y)<0;refine F.dep m (fun i hi => ?_) g H h.dep n;have f:=hi;rw[h.CV]at f;rw[(h.tid i f).2]
   rcases h.up i f with e|⟨j,hj,e⟩
   ·exact .inl e
   ·exact .inr (iZ.2 ⟨j,by rw[h.CV]; exact hj,by rw[(h.tid j hj).1]; exact e⟩)
  gn:=Nat.le_succ_of_le h.gn
  rn:=fun i hi=>Nat.le_succ_of_le (h.rn i hi)
  may:=fun i hi=>by
   show may (cO L.R k _ i)=true
   rcases dH a hi with rfl|⟨q,hq,eq,_,_⟩
   ·rw[dA]; exact Zc C s.1 (by omega)
   ·rw[eq]; exact h.may q hq
  g47:=fun i hi b u=>by
   show cO L.R k _ i b<=_
   rcases dH a hi with rfl|⟨q,hq,eq,_,_⟩
   ·rw[dA];show(if b=aO v then v.aT else 0)<=_;split <;> omega
   ·rw[eq]; exact h.g47 q hq b u
  kn:=h.kn }
theorem IB{b:eP}{T':Nat}(h:Inv0 L T)(c:b.nn=L.nn)(d:b.id=L.id)(f:b.par=L.par)(g:b.tn=L.tn)(j:b.t=L.t)(m:b.known=L.known)(n:b.gn<=T')(hr : ∀ i,i<6->b.rn i<=T')
 (l : ∀ k,k<L.nn->may (b.R k)=true /\ ∀ a,a<6->b.R k a<=140737488355328):Inv0 b T' where
 CV:=by rw[c,g]; exact h.CV
 nn:=by rw[c]; exact h.nn
 tid:=by rw[c,d,f,j]; exact h.tid
 rise:=by rw[c,d]; exact h.rise
 pos:=by rw[c,d]; exact h.pos
 top:=by rw[c,d]; exact h.top
 up:=by rw[c,d,f]; exact h.up
 dep:=by rw[g,j]; exact h.dep
 gn:=n
 rn:=hr
 may:=by rw[c]; exact fun k e=>(l k e).1
 g47:=by rw[c]; exact fun k e=>(l k e).2
 kn:=by rw[m]; exact h.kn
def uY(x:Nat->Int):Prop:=may x=true /\ ∀ a,a<6->x a<=140737488355328
theorem F3{f:(Nat->Int)->(Nat->Int) × Int}{idx:Nat->Nat}{R:Nat->Nat->Int}{n:Nat}(g : ∀ x,uY x->(f x).2=0->uY (f x).1)(d : ∀ k,k<n->uY (R k)) : ∀ K k,k<n->uY ((dn f idx R K).1 k)
 | 0,k,hk=>d k hk
 | K+1,k,hk=>by
   have a:=F3 g d (idx:=idx) K;unfold dn;by_cases e:(dn f idx R K).2=0
   ·rw[d_ e];by_cases b:(f ((dn f idx R K).1 (idx K))).2=0
    ·rw[d_ b];show uY (if k=idx K then _ else _);by_cases c:k=idx K
     ·rw[d_ c]; exact g _ (by rw[<- c]; exact a k hk) b
     ·rw[b_ c]; exact a k hk
    ·rw[b_ b]; exact a k hk
   ·rw[b_ e]; exact a k hk
theorem Zd{x:Nat->Int}{i n:Int}(h:uY x)(c:(bG x i n).2=0):uY (bG x i n).1:=by
 obtain⟨a,g,_,_,_,_,_,f,_,_,_,e⟩:=JO c;exact⟨f,fun b d=>by rw[e,gV _ _ _ _ (by omega)]; exact h.2 b d⟩
theorem Ze{x:Nat->Int}{i n:Int}(h:uY x)(c:(bI x i n).2=0):uY (bI x i n).1:=by
 obtain⟨a,g,_,_,_,_,f,_,_,_,e⟩:=JQ c;exact⟨f,fun b d=>by rw[e,gV _ _ _ _ (by omega)]; exact h.2 b d⟩
theorem Zf{x:Nat->Int}{i j n:Int}(h:uY x)(d:(dz x i j n).2=0):uY (dz x i j n).1:=by
 obtain⟨a,b,k,l,_,_,_,_,_,_,g,e⟩:=BK d;exact⟨g.may,fun c f=>by rw[e,gV _ _ _ _ (by omega)]; exact h.2 c f⟩
theorem Vo{x:Nat->Int}{a:Nat}{n:Int}(ha:a<6)(h:uY x)(s:0<=n)(q : ¬ 140737488355328<x a+n):uY (upd x a (x a+n)):=by
 have d:=(lD x).1 h.1;have e : ∀ p,upd x a (x a+n) p=if p=a then x a+n else x p:=fun p=>rfl;have t:=d.1 a (by omega);have c : ∀ b,b<6->upd x a (x a+n) b<=140737488355328:=fun b l=>by
  rw[e]; split
  ·omega
  ·exact h.2 b l
 refine⟨(lD _).2 ⟨fun p o => ?_,fun k m => ?_,?_⟩,c⟩
 ·have:=d.1 p o;rw[e]; split <;> omega
 ·obtain⟨r,i,j⟩:=d.2.1 k m;have f:C (upd x a (x a+n)) k=C x k:=by unfold C; rw[e,b_ (by omega)]
  have g:F (upd x a (x a+n)) k=F x k:=by unfold F; rw[e,b_ (by omega)]
  refine⟨?_,?_,?_⟩
  ·rw[Vb x a (by omega),f,g,ahM]; split <;> omega
  ·rw[f,g]; exact i
  unfold R; rw[e,b_ (by omega)]; exact j
 unfold tJ G;have:=c 0 (by omega); have:=c 1 (by omega); have:=c 2 (by omega); have:=c 3 (by omega); have:=c 4 (by omega); have:=c 5 (by omega);omega
theorem Inv0.LJ(h:Inv0 L T) : ∀ k,k<L.nn->uY (L.R k):=fun k a=>⟨h.may k a,h.g47 k a⟩
theorem PG(h:Inv0 L T)(a:Nat) : ∀ i,i<6->aI L.rn a (L.rn a+1) i<=T+1:=fun i b=>by
 unfold aI;by_cases e:i=a
 ·subst e; rw[d_ rfl]; have:=h.rn i b; omega
 ·rw[b_ e]; have:=h.rn i b; omega
theorem PK{q:Nat}{r:Nat->Int}(h : ∀ k,k<L.nn->uY (L.R k))(hr:uY r) : ∀ k,k<L.nn->uY (aI L.R q r k):=fun k a=>by
 unfold aI; split
 ·exact hr
 ·exact h k a
theorem Inv0.PL(h:Inv0 L T){x:Int}(hx : ¬ L.node x<0):(L.node x).toNat<L.nn:=by
 rw[h.node]at hx ⊢;obtain⟨j,a,e,_⟩:=vM (show 0<=bE L.t L.tn x by omega);rw[e]; have:=h.CV; simp; omega
theorem Ro(h:Inv0 L T)(a : ∀ k,k<L.nn->uY ((nS L v).1 k)):Inv0 (jg L v) (T+1):=by
 unfold jg rG;generalize nS L v=W at a;exact IB h rfl rfl rfl rfl rfl rfl (Nat.succ_le_succ h.gn) (PG h _) a
theorem Rq(h:Inv0 L T)(a : ∀ k,k<L.nn->uY ((mX L v).1 k)):Inv0 (gG L v) (T+1):=by
 unfold gG rG;generalize mX L v=W at a;exact IB h rfl rfl rfl rfl rfl rfl (Nat.le_succ_of_le h.gn) (PG h _) a
theorem Vp(h:Inv0 L T)(f:bR v=true)(a:dW L v=0):Inv0 (gH L v) (T+1):=by
 have q:=jE f;have o:=kH f;have e:=h.gn;have d : ∀ i,i<6->L.rn i<=T+1:=fun i n=>Nat.le_succ_of_le (h.rn i n);unfold dW at a;unfold gH;by_cases b:v.kind=1
 ·rw[d_ b]at a ⊢; exact Rm h f b a
 by_cases c:v.kind=2
 ·rw[b_ b,d_ c]at a ⊢;unfold xB at a;split at a; · cases a
  rename_i n1;split at a; · cases a
  rename_i n2;have p:=lV f (.inl c);exact IB h rfl rfl rfl rfl rfl rfl (Nat.le_succ_of_le e) d (PK h.LJ (Vo o (h.LJ _ (h.PL n1)) (by omega) n2))
 by_cases g:v.kind=3
 ·rw[b_ b,b_ c,d_ g]at a ⊢;have j : ∀ k,k<L.nn->uY ((nS L v).1 k):=by unfold nS; exact F3 (fun x=>Zd) h.LJ _
  exact Ro h j
 by_cases l:v.kind=4
 ·rw[b_ b,b_ c,b_ g,d_ l]at a ⊢;have j : ∀ k,k<L.nn->uY ((mX L v).1 k):=by unfold mX; exact F3 (fun x=>Ze) h.LJ _
  exact Rq h j
 by_cases m:v.kind=5
 ·rw[b_ b,b_ c,b_ g,b_ l,d_ m]at a ⊢;unfold ql at a;split at a; · cases a
  rename_i n1;split at a; · cases a
  exact IB h rfl rfl rfl rfl rfl rfl (Nat.le_succ_of_le e) d (PK h.LJ (Zf (h.LJ _ (h.PL n1)) a))
 rw[b_ b,b_ c,b_ g,b_ l,b_ m];split
 ·exact IB h rfl rfl rfl rfl rfl rfl (Nat.le_succ_of_le e) d h.LJ
 exact IB h rfl rfl rfl rfl rfl rfl (Nat.le_succ_of_le e) d h.LJ
theorem AU(h:Inv0 L T):Inv0 (bT L v) (T+1):=by
 unfold bT;by_cases a:bA L v=0
 ·rw[d_ a];unfold bA at a;split at a; · cases a
  rename_i h1;split at a; · cases a
  split at a; · cases a
  rename_i h3;split at a; · cases a
  have b:bR v=true:=by simpa using h1
  have c:dL L.known v=true:=by simpa using h3
  have g:=Vp h b a;have k:=kH b;have m:=Eu b;refine { g with kn:=fun i j => ?_ };have e:(Iy (gH L v) v).known=aI L.known (aO v) (L.known (aO v)+1):=by unfold Iy; simp only[qI]
  rw[e];unfold dL at c;simp only[S_,decide_eq_true_eq]at c;have d:=h.kn;unfold aI;split
  ·have f:=c.1.2;have l:v.seq=L.known (aO v)+1:=f;have:=d (aO v) k;omega
  exact d i j
 rw[b_ a]; exact h.mono (Nat.le_succ T)
end
end Rt
end
end Go.Proofs.YtcbedgfikejkoaaGreatDoor
