/-
  What the proof of the law rests on, part 3: walks of functions, and plain laws; each says its conditions itself.
-/
import Derived.WideKeyRuns
import Derived.DeepKeys3
import Derived.Test.YtabjalhnkndjaaaGreatDoorRows
import Derived.RangeFuncNested
import Derived.RangeFuncBound
import Derived.RangeFuncCalls
import Derived.RangeFuncLeaves
import Derived.RangeFuncFrom
import Derived.Test.YtabjalhnkndjaaaGreatDoorZE2
set_option linter.unusedVariables false
set_option maxHeartbeats 1600000
set_option linter.unusedSimpArgs false
variable{m k b j:Nat}{a d e V:Int}{c s:Nat->Nat->Int}{X Y:Nat->Int}{f:Go.Act}{h p:Go.World}{x:Nat->Go.Value}{q z:Nat->Bool}{T K:Go.TypeId}{u:Go.Value}{H:Go.Exit->Go.Act->Go.World->Prop}{M:List Int}{N:Go.Operand}{U:Go.Ending->Go.World->Prop}{o:List Int->Go.World->Prop}{y:List Go.Oper}{E:Option Nat}
namespace Go.Proofs.YtabjalhnkndjaaaGreatDoor
open Go.Proofs.Tryz
open Fx hiding E9 Fa HY Jf L R start
open Go.RowKit Rt
namespace Rt
theorem Jm{m:ow}{x:Int}(h:0<=m.node x) : ∃ q:Nat,q<m.s.nn/\gF (fun i=>decide (m.id i=x)) m.s.nn=(q:Int)/\m.id q=x:=by
 rcases iW (fun i=>decide (m.id i=x)) m.s.nn with ⟨q,b,e,a⟩|⟨e,_⟩
 ·exact⟨q,b,e,h_ a⟩
 unfold ow.node at h; omega
theorem Xb : ∀ j,j<(m+1)*1->gP (rv .u64 X) (m*1) (bJ (fun j=>rv .u64 (fun _=>0) (j % 1)) (0*1) 1 (fun _=>aG a)) j=rv .u64 (aN X m a) j:=by
 intro j n;unfold gP rv aN;by_cases h:j<m*1
 ·rw[d_ h,b_]
 rw[b_ h,d_];unfold bJ;rw[d_]
theorem abU(e:k=j+1)(h : ∀ i,k<=i->i<m->q i=true)(c:q j=true) : ∀ i,j<=i->i<m->q i=true:=fun i d b=>by
 by_cases a:i=j
 ·subst a; exact c
 ·exact h i (by omega) b
end Rt
theorem Fz(m:ow)(p a:Nat)(o r:Int)(w:World)(h:H6 w p m)(ha:a<6)(b:o=(a:Int)+1) :
 Calls prog 113 #[(pt p),av o,aG r] w fun e w'=>e = .returned (.bool (decide (0<=m.nW a r)))/\Below w.heap.size w w':=by
 subst b; exact agY _ _ _ r _ h ha
set_option maxRecDepth 20000 in
set_option maxHeartbeats 2000000 in
theorem ahp(m:ow)(B p a D:Nat)(v:dA)(w:World)(I:zU w B p m)(A:B<=w.heap.size)(ha:a<6)(ho:v.o=(a:Int)+1)(bgg:m.s.gn<=900000)(brr : ∀ i,i<6->m.rn i<=900000)(hTN : ∀ x,m.node x=bT m.t m.tn x)(hD:bT m.t m.tn (bU m.t m.tn D v.node)<0)(hD2:D<=1000) :
 Calls prog 90 #[(pt p),.agg (aA 14 (dH v))] w fun e w'=>e = .returned (av (kW m.aW v))/\Below B w w'/\(kW m.aW v=0 -> ∃ m',m'.aW=oU m.aW v/\zU w' B p m'):=by
 have Ue:=I.c;have hLn:=I.n;have hLg:=I.g;have WK:=I.tc;have abK:=I.t;have hLr:=I.r;have wY:=I.pB;have IJ:=I.tB;have bn:=I.bn;have bg:=I.bg;have bt:=I.bt;have lpp:p<w.heap.size:=Ue.lt;have yC:m.tb<w.heap.size:=WK.lt;refine bX func90 188 ?_;refine ay<|oq fun F w1 kV m1 s1 z1 => ?_;have⟨m2,m3,m4,m5,m6,m7⟩:=oL s1.bP Ue hLn hLg WK abK hLr;have b1:=iR s1.bP (Below.refl B w) A;have tJ:=gQ kV (Below.refl B w).size;have⟨rJ,Bo⟩:=oM kV Ue.lt WK.lt;have vB:=m1.lt;refine au (av 0)<|aC<|aQ<|ay<|au (pt p)<|au (pt F)<|Lv (av v.o) (aR m1.aJ 0)<|au (pf F 12)<|Lv (aG v.bK) (aR m1.aJ 12) ?_;have Uv:H6 w1 p m := { c:=m2.aJ,an:=m3.oI,ag:=m4.oI,tc:=m5.aJ,YS:=m6.oI,ar:=fun i N=>(m7.1 i N).oI,bn:=(by show m.s.nn<=1000000; omega),bg:=bg,bt:=(by show m.tn<=1000000; omega),br:=I.br };by_cases c17:(decide (0<=m.nW a v.bK))=true
 ·refine dO (Fz m p a v.o v.bK _ Uv ha ho) aH (by rw[c17]) ?_;intro w2 hb1;have b2:=iR hb1 b1 A;refine aC<|aP<|ay<|au (av 14)<|aC<|Wr<|sR<|aK (av 14) ?_;have U:aX v=a:=by unfold aX; omega
  have P:kW m.aW v=14:=by unfold kW; rw[U]; exact d_ (h_ c17)
  exact⟨uD P.symm,b2,fun h0=>by rw[P]at h0; cases h0⟩
 rw[R_]at c17;refine dO (Fz m p a v.o v.bK _ Uv ha ho) aD (by rw[c17]) ?_;intro w3 hb2;have⟨m15,m16,m17,m18,m19,m20,mG⟩:=kU hb2 m2 m3 m4 m5 m6 m7 m1;have b3:=iR hb2 b1 A;refine aC<|aL<|Wk<|sN<|aQ ?_;refine nP [0,1,2,4,3,5,6,7] [0,0,0,4,0,4,3,0] [(6,3,[3]),(6,5,[5]),(7,6,[6])] fun qN eX iM => ?_;have⟨m22,m23,m24,mU,pK,pO,om⟩:=kU eX m15 m16 m17 m18 m19 m20 mG;have b4:=iR eX b3 A;refine aS (pt p)<|aS (pt p)<|aS (pf p 20)<|aS (pf F 9)<|Rs (pt m.tb) (aR m22.aJ 20) ?_;refine Rs (aG v.node) (aR om.aJ 9) ?_;refine jP<|lX (Uk m.tb m.ta m.tn m.tc m.t v.node D _ (Ar mU pK bt) hD hD2) ?_;rintro e w4 ⟨K,vv,he,hown,zB,hK1,hb3⟩;obtain⟨T,C,rfl⟩:=hown.val;refine⟨.slice T K C,he,?_⟩;clear he;have WL:K=iw m.t m.tn v.node:=zI zB hK1 hD hD2;have hKD:K<=1000:=by rw[WL]; exact OV _ _
 have⟨qb,qV,mY,m32,oD,pz,pQ⟩:=kU hb3 m22 m23 m24 mU pK pO om;have b5:=iR hb3 b4 A;refine Ln<|aS (.slice T (K) (C))<|dJ<|aQ<|ay<|au (.slice T (K) (C))<|au (av K) ?_;by_cases c27:(K:Int)=0
 ·refine Lv aH (gU c27)<|aC<|aP<|ay<|au (av 9)<|aC<|Wr<|sR<|aK (av 9) ?_;have U:aX v=a:=by unfold aX; omega
  have ne1 : ¬ 0<=m.aW.nW (aX v) v.bK:=by rw[U]; exact j_ c17
  have P:kW m.aW v=9:=by unfold kW; rw[b_ ne1]; exact d_ (WL.symm.trans (by omega))
  exact⟨uD P.symm,b5,fun h0=>by rw[P]at h0; cases h0⟩
 refine Lv aD (gX c27)<|aC<|aL<|Wk<|sN<|aQ<|ay<|au (av 0)<|aC<|Wb<|Wo (fun f h => ∃ k:Nat,∃ l:Nat->Nat->Int,k<=K/\eO (fun x=>bV x v.o v.bF) (vI m.aW v.node) m.R k=(l,0)/\f 0=(pt p)/\f 3=(pt F)/\f 5 = .slice T (K) (C)/\f 6=av (k:Int)/\aM h p 27 (nQ m) 48/\aY h B 96 5 (.slice m.s.ga (m.s.gn) (m.s.gc)) m.s.gn (Ka m)/\aM h m.tb 1 (fun _ => .slice m.ta m.tn m.tc) 136/\aY h B 207 2 (.slice m.ta (m.tn) (m.tc)) m.tn (QN m.t)/\yT h B 6 m/\aM h F 14 (dH v) 30/\aY h qN.heap.size 26 1 (.slice T (K) (C)) K (rv .u64 (fun i=>bU m.t m.tn i v.node))/\aY h B 69 56 (.slice m.s.na (m.s.nn) (m.s.nc)) m.s.nn (dn 56 (fun b=>mV (m.id b) (m.par b) (l b)))/\Below B w h) (fun f _=>(K-(intOf (f 6)).toNat)) ⟨0,m.R,by omega,rfl,(by rfl),(by rfl),(by rfl),ic,qb,mY,m32,oD,pz,pQ,hown,qV,b5⟩ ?_;rintro f1 w5 ⟨k,l,Y,hRk,Q,M,h3,h4,rE,sD,qM,qW,vk,pR,qx,qy,b6⟩;refine aQ<|ay<|bA h4<|bA h3<|au (av K) ?_;by_cases c31:(k:Int)<(K:Int)
 ·refine Lv aH (fK c31)<|aC<|aP<|Wk<|sN<|aQ<|Wb<|aQ ?_;obtain⟨q,hq,eq0,_⟩:=Jm (m:=m) (x:=bU m.t m.tn k v.node) (by rw[hTN]; exact zB k (by omega));have ex1:vI m.aW v.node k=q:=by show(gF (fun i=>decide (m.id i=bU m.t m.tn k v.node)) m.s.nn).toNat=q; rw[eq0]; rfl
  refine Wl<|bA Q<|bA h3<|bA h4 ?_;obtain⟨Gv,eq1⟩:=qx.wz (by omega);have uF:aY w5 qN.heap.size 26 1 (dz Gv K C) K (rv .u64 (fun i=>bU m.t m.tn i v.node)):=qx.fE (K_ (fun q=>Value.slice q K C) eq1);refine Lv (pf Gv k) (fC 1 (hx:=(rfl.trans (K_ (fun q=>Value.slice q (K) (C)) eq1))))<|Lv (aG (bU m.t m.tn k v.node)) (aR uF.aJ k) ?_;have sQ:aY w5 qN.heap.size 26 1 (.slice T (K) (C)) K (rv .u64 (fun i=>bU m.t m.tn i v.node)):=uF.fE (K_ (fun q=>Value.slice q K C) eq1.symm);have abV:H6 w5 p { m with R:=l } := { c:=rE.aJ,an:=qy.oI,ag:=sD.oI,tc:=qM.aJ,YS:=qW.oI,ar:=fun i N=>(vk.1 i N).oI,bn:=(by show m.s.nn<=1000000; omega),bg:=bg,bt:=(by show m.tn<=1000000; omega),br:=I.br };refine dO ((OE { m with R:=l } p (bU m.t m.tn k v.node) _ abV).mono (fun e w2 M=>(⟨M.1.trans (uD eq0),M.2⟩:e = .returned (av (q:Int))/\_))) _ rfl ?_;intro w6 hb4;have⟨qc,tK,xY,uN,yj,Ai,yG,xA⟩:=lY hb4 rE sD qM qW vk pR qy sQ;have b7:=iR hb4 b6 A;refine au (av q)<|aC<|yh (fun f h => ∃ O:Nat,w.heap.size<=O/\p≠O/\m.tb≠O/\F≠O/\f 0=(pt p)/\f 3=(pt F)/\f 5 = .slice T (K) (C)/\f 6=av (k:Int)/\f 7=av (q:Int)/\f 8=(pt O)/\f 9=av ((bV (l q) v.o v.bF).2)/\aM h p 27 (nQ m) 48/\aY h B 96 5 (.slice m.s.ga (m.s.gn) (m.s.gc)) m.s.gn (Ka m)/\aM h m.tb 1 (fun _ => .slice m.ta m.tn m.tc) 136/\aY h B 207 2 (.slice m.ta (m.tn) (m.tc)) m.tn (QN m.t)/\yT h B 6 m/\aM h F 14 (dH v) 30/\aY h B 69 56 (.slice m.s.na (m.s.nn) (m.s.nc)) m.s.nn (dn 56 (fun b=>mV (m.id b) (m.par b) (l b)))/\aY h qN.heap.size 26 1 (.slice T (K) (C)) K (rv .u64 (fun i=>bU m.t m.tn i v.node))/\aM h O 54 (rv .i64 ((bV (l q) v.o v.bF).1)) 67/\Below B w h) ?_ ?_
  ·-- region 10 draws
   refine W.Ko [0,1,2,3,5,9,11,4,6,7,8,10,12] [13,14,15,16,17,18,19] [0,0,0,0,1,0,0,0,1,0,1,0,1,2,0,0,0,2,3,0] Mk mE Mk.trans (bR := [(18,4,[4]),(18,8,[8]),(18,10,[10]),(18,12,[12]),(14,13,[13]),(15,13,[14,13]),(16,13,[14,13]),(18,13,[13]),(19,13,[13]),(18,17,[17]),(19,17,[17]),(19,18,[18])]) (by kernel_rfl) (by kernel_rfl) (by kernel_rfl) (by kernel_rfl) (by kernel_rfl) (by kernel_rfl) fun Fu iZ rM => ?_;have⟨yH,wC,vU,wD,tL,uG,oo,sF⟩:=lY iZ qc tK xY uN yj Ai yG xA;have b8:=iR iZ b7 A;refine eZ Q<|aS (pt p)<|aS (pt p)<|aS (pf p 18)<|aS (av q)<|Rp (pt F) (fun _=>iO M 0)<|Rp (pf F 11) (fun _=>iO M 11)<|lI (v := .slice m.s.na (m.s.nn) (m.s.nc)) (by rfl) (by rfl) (mE _) (fun u d=>bE (x:=nQ m) rfl rfl (by kernel_rfl) (yH.aJ.below d (by have:=yH.lt; omega)) (i:=18) (by omega) (by omega) rfl) ?_;obtain⟨OY,D6⟩:=oo.wz (by omega);have pE:aY Fu B 69 56 (dz OY m.s.nn m.s.nc) m.s.nn (dn 56 (fun b=>mV (m.id b) (m.par b) (l b))):=oo.fE (K_ (fun q=>Value.slice q m.s.nn m.s.nc) D6);refine Rp (pf OY (56*q)) (fun _=>fC 56 (hx:=(rfl.trans (K_ (fun q=>Value.slice q (m.s.nn) (m.s.nc)) D6))))<|aS (pf OY (56*q+2))<|lI (v := .agg (aA 54 (rv .i64 (l q)))) (by rfl) (by rfl) (mE _) (fun u d=>eB (x:=dn 56 (fun b=>mV (m.id b) (m.par b) (l b))) (y:=rv .i64 (l q)) rfl rfl (by kernel_rfl) (by kernel_rfl) (pE.aJ.below d (by have:=pE.lt; omega)) (i:=56*q+2) (by omega) (by omega) (fun jq hjq=>(eF (k:=q) (j:=2+jq) (by omega) (by omega)).trans ((fun jq _=>CY _ _ _ jq) jq hjq))) ?_;refine lI (v:=av v.o) (by rfl) (by rfl) (mE _) (fun u d=>bE (x:=dH v) rfl rfl (by kernel_rfl) (uG.aJ.below d (by have:=uG.lt; omega)) (i:=0) (by omega) (by omega) rfl) ?_;refine lI (v:=av v.bF) (by rfl) (by rfl) (mE _) (fun u d=>bE (x:=dH v) rfl rfl (by kernel_rfl) (uG.aJ.below d (by have:=uG.lt; omega)) (i:=11) (by omega) (by omega) rfl) ?_;refine Rn<|RA.Q7 13 17 [14,15,16,17,18,19] [13,14,15,16,18,19] (by rfl) (by kernel_rfl) (by kernel_rfl) (by kernel_rfl) ?_ ?_
   ·refine mF<|dO (WZ (l q) v.o v.bF _) _ rfl ?_;intro w7 hb5;have s8:=Sb hb5;have⟨vV,m64,xB,sG,sH,sI,tN,tO⟩:=lY hb5 yH wC vU wD tL uG sF pE;have b9:=iR hb5 b8 A;refine Ln ⟨s8.bP,?_⟩;refine Rn<|RA.still (by rfl) ?_;refine aS (.tuple #[.agg (aA 54 (rv .i64 ((bV (l q) v.o v.bF).1))),av ((bV (l q) v.o v.bF).2)])<|Rn<|RA.still (by rfl) ?_;refine aS (.agg (aA 54 (rv .i64 ((bV (l q) v.o v.bF).1))))<|Rn<|RA.still (by rfl) ?_;refine aS (av ((bV (l q) v.o v.bF).2))<|Rn<|RA.one 17 [18,19] (by rfl) (by kernel_rfl) (by kernel_rfl) ?_;refine mF<|oJ 54 (rv .i64 (fun _=>0)) fun g2 w8 nN qg s9 z2 => ?_;have⟨sS,vW,yR,xZ,wE,zh,yS,zi⟩:=lY s9.bP vV m64 xB sG sH sI tN tO;have b10:=iR s9.bP b9 A;have xw:=gQ nN b9.size;have⟨ayG,ayH,ayI,ayJ⟩:=J2 nN vV.lt xB.lt sI.lt tO.lt;have zR:=qg.lt;refine Ln ⟨s9.bP,?_⟩;refine Rn<|RA.one 18 [19] (by rfl) (by kernel_rfl) (by kernel_rfl) ?_;refine jP<|dY qg 0 fun w9 yI oP z3 => ?_;have xC:aM w9 g2 54 (rv .i64 ((bV (l q) v.o v.bF).1)) 67:=aO yI;have gT:=gJ oP qg.ty;have⟨zk,zS,zw,Aj,Bq,BQ,zT,BR⟩:=QE gT sS vW yR xZ wE zh yS zi;have b11:=oP.below b10 (m_ A b10.size) (by omega);refine Ln<|Rn<|RA.still (by rfl)<|aS (av ((bV (l q) v.o v.bF).2))<|Rn<|RA.nil ?_;have Bj:aY w9 B 69 56 (.slice m.s.na (m.s.nn) (m.s.nc)) m.s.nn (dn 56 (fun b=>mV (m.id b) (m.par b) (l b))):=BR.fE (K_ (fun q=>Value.slice q m.s.nn m.s.nc) D6.symm);exact nL ⟨g2,(by omega),(by omega),(by omega),(by omega),Q,M,h3,(h4.trans ic),ic,(by rfl),ic,zk,zS,zw,Aj,Bq,BQ,Bj,zT,xC,b11⟩
   refine mF<|oJ 54 (rv .i64 (fun _=>0)) fun g3 uE nO Ak s11 z4 => ?_;have⟨BF,DY,Et,Bt,Dv,BZ,Eu,Gd⟩:=lY s11.bP yH wC vU wD tL uG sF pE;have b12:=iR s11.bP b8 A;have Gc:=gQ nO b8.size;have⟨ayK,ayL,ayM,ayN⟩:=J2 nO yH.lt vU.lt uG.lt pE.lt;have Gr:=Ak.lt;refine Ln ⟨s11.bP,?_⟩;refine Rn<|RA.one 13 [14,15,16,18,19] (by rfl) (by kernel_rfl) (by kernel_rfl) ?_;refine mF<|dO (WZ (l q) v.o v.bF _) _ rfl ?_;intro Bg hb6;have s12:=Sb hb6;have⟨vG,qO,rO,tY,qz,qP,qQ,pV,qA⟩:=yQ hb6 BF DY Et Bt Dv BZ Eu Gd Ak;have b13:=iR hb6 b12 A;refine Ln ⟨s12.bP,?_⟩;refine Rn<|RA.still (by rfl) ?_;refine aS (.tuple #[.agg (aA 54 (rv .i64 ((bV (l q) v.o v.bF).1))),av ((bV (l q) v.o v.bF).2)])<|Rn<|RA.still (by rfl) ?_;refine aS (.agg (aA 54 (rv .i64 ((bV (l q) v.o v.bF).1))))<|Rn<|RA.still (by rfl) ?_;refine aS (av ((bV (l q) v.o v.bF).2))<|Rn<|RA.one 18 [19] (by rfl) (by kernel_rfl) (by kernel_rfl) ?_;refine jP<|dY qA 0 fun BD uR s13 z5 => ?_;have vH:aM BD g3 54 (rv .i64 ((bV (l q) v.o v.bF).1)) 67:=aO uR;have jC:=gJ s13 qA.ty;have⟨qR,tZ,zD,wG,wH,Ay,yV,uf⟩:=QE jC vG qO rO tY qz qP qQ pV;have b14:=s13.below b13 (m_ A b13.size) (by omega);refine Ln<|Rn<|RA.still (by rfl)<|aS (av ((bV (l q) v.o v.bF).2))<|Rn<|RA.nil ?_;have oQ:aY BD B 69 56 (.slice m.s.na (m.s.nn) (m.s.nc)) m.s.nn (dn 56 (fun b=>mV (m.id b) (m.par b) (l b))):=uf.fE (K_ (fun q=>Value.slice q m.s.nn m.s.nc) D6.symm);exact nL ⟨g3,(by omega),(by omega),(by omega),(by omega),Q,M,h3,(h4.trans ic),ic,(by rfl),ic,qR,tZ,zD,wG,wH,Ay,oQ,yV,vH,b14⟩
  rintro f2 Bh ⟨O,lg8,arK,arL,arM,h5,h6,h7,h8,h9,h10,h11,wI,yX,wJ,Bu,Ca,zF,zG,Az,Bv,b15⟩;refine aQ<|ay<|bA h11 ?_;by_cases c58:((bV (l q) v.o v.bF).2)=0
  ·refine Lv aD (kr c58)<|aC<|aL<|Wk<|sN ?_;refine nP [0,1,2,3,5,4,6,7,8,9] [0,0,0,0,4,0,4,0,0,3] [(9,4,[4]),(9,6,[6])] fun MU mZ DZ => ?_;have⟨Dw,AA,DC,Dx,AB,zH,AJ,AL,Cb⟩:=yQ mZ wI yX wJ Bu Ca zF zG Az Bv;have b16:=iR mZ b15 A;refine eZ h5<|aS (pt p)<|aS (pt p)<|aS (pf p 18)<|eZ h9<|Rs (.slice m.s.na (m.s.nn) (m.s.nc)) (aR Dw.aJ 18) ?_;refine Rs (.agg (aA 54 (rv .i64 ((bV (l q) v.o v.bF).1)))) (dZ Cb.aJ 0 (ha:=h10)) ?_;obtain⟨Y6,LQ⟩:=AJ.wz (by omega);have Cc:aY MU B 69 56 (dz Y6 m.s.nn m.s.nc) m.s.nn (dn 56 (fun b=>mV (m.id b) (m.par b) (l b))):=AJ.fE (K_ (fun q=>Value.slice q m.s.nn m.s.nc) LQ);refine Rp (pf Y6 (56*q)) (fun _=>fC 56 (hx:=(rfl.trans (K_ (fun q=>Value.slice q (m.s.nn) (m.s.nc)) LQ))))<|aS (pf Y6 (56*q+2))<|jP<|L6 Cc (56*q+2) fun EU Ev s15 z6 => ?_;have oz:=gJ s15 Cc.Wq;have⟨Cg,IK,Fw,Dy,Ew,Ce,Md⟩:=QD oz Dw AA DC Dx AB zH AL;have b17:=s15.below b16 (m_ A b16.size) Cc.wo.1;have Ey:aY EU B 69 56 (dz Y6 m.s.nn m.s.nc) m.s.nn (dn 56 (fun b=>mV (m.id b) (m.par b) (aN l q ((bV (l q) v.o v.bF).1) b))):=Ev.congr (fun pq Z=>(Gp (k:=q) (j:=2) (by omega) (by omega) pq Z).trans (bZ (fun i N j hj=>Gy i N j hj) pq Z));refine Ln<|Rn<|bS<|sN<|Wl<|bA h8<|Lv (av ((k:Int)+1)) gu<|au (av ((k:Int)+1))<|Ln ?_;have OJ:aY EU B 69 56 (.slice m.s.na (m.s.nn) (m.s.nc)) m.s.nn (dn 56 (fun b=>mV (m.id b) (m.par b) (aN l q ((bV (l q) v.o v.bF).1) b))):=Ey.fE (K_ (fun q=>Value.slice q m.s.nn m.s.nc) LQ.symm);refine iA ⟨k+1,(aN l q (bV (l q) v.o v.bF).1),by omega,(Kj hRk ex1 (by first|exact c58|exact Classical.not_not.1 c58)),h5,h6,h7,ic,Cg,IK,Fw,Dy,Ew,Ce,Md,OJ,b17⟩ ?_
   show(K-(intOf (av ((k:Int)+1))).toNat)<_;simp only[h4,intOf]; omega
  refine Lv aH (mO c58)<|aC<|aP<|ay<|bA h11<|au (av ((bV (l q) v.o v.bF).2))<|aC<|Wr<|sR<|bO<|sR<|oG<|bO<|sR<|aK (av ((bV (l q) v.o v.bF).2)) ?_;have U:aX v=a:=by unfold aX; omega
  have ne1 : ¬ 0<=m.aW.nW (aX v) v.bK:=by rw[U]; exact j_ c17
  have ne2 : ¬ iw m.aW.t m.aW.tn v.node=0:=fun e=>c27 (by rw[show K=0 from WL.trans e]; rfl);have ew:ug m.aW v=eO (fun x=>bV x v.o v.bF) (vI m.aW v.node) m.R K:=by unfold ug; rw[show iw m.aW.t m.aW.tn v.node=K from WL.symm]; rfl
  have P:kW m.aW v=(bV (l q) v.o v.bF).2:=by
   unfold kW; rw[b_ ne1,b_ ne2,ew];have e1:=MW hRk ex1 c58;rw[EA (k:=k+1) (by rw[e1]; exact c58) K (by omega)]; exact e1
  exact⟨uD P.symm,b15,fun h0=>L_ (P.symm.trans h0) c58⟩
 refine Lv aD (fM c31)<|aC<|aL<|Wx<|cZ<|iC<|dB<|sN<|aQ ?_;have hRK:eO (fun x=>bV x v.o v.bF) (vI m.aW v.node) m.R K=(l,0):=by rw[show K=k by omega]; exact hRk
 refine Wl<|Lv (pt F) (iO M 0)<|Lv (av v.o) (aR pR.aJ 0)<|Lv (pf F 12) (iO M 12)<|Lv (aG v.bK) (aR pR.aJ 12)<|Lv (pf F 9) (iO M 9)<|Lv (aG v.node) (aR pR.aJ 9)<|Lv (pf F 11) (iO M 11)<|Lv (av v.bF) (aR pR.aJ 11)<|au (.agg (aA 5 (bJ (bJ (bJ (bJ zR0 0 1 (fun _=>av v.o)) 1 1 (fun _=>aG v.bK)) 2 1 (fun _=>aG v.node)) 3 1 (fun _=>av v.bF))))<|oJ 5 zR0 fun L CW yL FB s16 z7 => ?_;have⟨Gw,OL,Kg,Ez,Me,Kh,OM⟩:=kU s16.bP rE sD qM qW vk pR qy;have b18:=iR s16.bP b6 A;have Uw:=gQ yL b6.size;have avJ:=gD yL rE.lt;have OZ:(.slice m.s.ga (m.s.gn) (m.s.gc):Value).ownBlock≠some L:=by rw[yL]; exact sD.gW (A_ _)
 have⟨avK,avL⟩:=oM yL qM.lt pR.lt;have TR:=FB.lt;refine dY FB 0 (h1:=(cu (cu (cu (cu (fun jq _=>by show(zR0 jq).oneCell'=true; simp only[zR0]; repeat (first|rfl|split)) (fun _ _=>rfl)) (fun _ _=>rfl)) (fun _ _=>rfl)) (fun _ _=>rfl))) fun w16 abW LU z8 => ?_
 have abN:aM w16 L 5 (bJ (bJ (bJ (bJ zR0 0 1 (fun _=>av v.o)) 1 1 (fun _=>aG v.bK)) 2 1 (fun _=>aG v.node)) 3 1 (fun _=>av v.bF)) 96:=aO abW;have tV:=gJ LU FB.ty;have OO:=jU tV Gw;have OP:=OL.cK LU OZ;have⟨IL,OQ,Mf,IQ,Ux⟩:=xu tV Kg Ez Me Kh OM;have b19:=LU.below b18 (m_ A b18.size) (by omega);refine aC<|aQ ?_;have O1:aM w16 L 5 (lQ (uS v)) 96:=abN.congr (Kvq (by kernel_rfl))
 refine Wl<|bA Q<|au (pt p)<|au (pt p)<|au (pf p 19)<|Lv (.slice m.s.ga (m.s.gn) (m.s.gc)) (aR OO.aJ 19)<|au (av m.s.gn)<|au (av m.s.gn)<|aC<|aQ ?_;refine W.nC [0,1,2,3,4,5,6,7,8,9,10,11,12] [0,0,0,0,0,1,4,2,2,0,0,0,3] (jk [96]) vS Fx.jk.trans (bR := [(12,5,[5]),(7,6,[6]),(8,6,[7,6]),(12,6,[6]),(8,7,[7]),(9,7,[7]),(10,7,[7]),(11,7,[7]),(12,7,[7]),(9,8,[8]),(10,8,[8]),(11,8,[8]),(12,8,[8])]) (by kernel_rfl) (by kernel_rfl) (by kernel_rfl) (by kernel_rfl) (by kernel_rfl) fun wZ oF Fv => ?_;have⟨Kq,Y7,Q9,Uy,Uz,O4,abX,Kt⟩:=lY oF OO OP IL OQ Mf IQ Ux O1;have b20:=iR oF b19 A;refine eZ Q<|eZ Q<|aS (pt p)<|aS (pt p)<|aS (pf p 19)<|lI (v := .slice m.s.ga (m.s.gn) (m.s.gc)) (by rfl) (by rfl) (vS _) (fun u d=>bE (x:=nQ m) rfl rfl (by kernel_rfl) (Kq.nA d (by decide)).aJ (i:=19) (by omega) (by omega) rfl) ?_;refine Rs (.agg (aA 5 (lQ (uS v)))) (dZ Kt.aJ 0) ?_;refine mF<|uz (vs := [(0,.agg (aA 5 (lQ (uS v))))]) (s:=5) (zc:=fun G=>if G<1 then av 0 else if G<3 then aG 0 else if G<4 then av 0 else aG 0) (y:=bJ (fun j=>zR0 (j % 5)) (0*5) 5 (lQ (uS v))) (by rfl) rfl rfl underlying41 (by kernel_rfl) (by rfl) (by rfl) (by kernel_rfl) (by rw[aT (off:=0*5) (s:=5) (y:=lQ (uS v)) rfl (bM _ _) (by rfl)]; rfl) rfl fun g5 Fg BG Ra M6 z9 => ?_;have⟨O5,O6,abY,UA,Y8,amE,UC,DF⟩:=lY M6.bP Kq Y7 Q9 Uy Uz O4 abX Kt;have DW:=iR M6.bP b20 A;have wX:=gQ BG b20.size;have avM:=gD BG Kq.lt;have avN:(.slice m.s.ga (m.s.gn) (m.s.gc):Value).ownBlock≠some g5:=by rw[BG]; exact Y7.gW (A_ _)
 have⟨avO,avP,avQ⟩:=El BG Q9.lt O4.lt Kt.lt;have YE:=Ra.lt;refine Ln ⟨Fx.jk.jr M6.bP,?_⟩;refine mF<|xX (B:=B) (s:=5) (bytes:=40) (k:=m.s.gn) (m:=1) (v := .slice m.s.ga (m.s.gn) (m.s.gc)) (x:=Ka m) (by rfl) rfl rfl rfl underlying41 (by kernel_rfl) (by kernel_rfl) rfl rfl O6 Ra.aJ (CZ (Au _)) (by omega) (by omega) (by omega) (m_ A DW.size) fun E C En ho1 hg1 vE hlt1 => ?_;have tX:=yc hg1 O6;have⟨Y9,Rb,Za,Rc,amF,Zb⟩:=YD tX O5 abY UA Y8 amE UC;have Zc:=DF.grown hg1 OZ;have avR:L≠E:=fun e=>vE.elim (fun e2=>OZ (by rw[e]; exact e2)) (fun e2=>by have:=DF.lt; omega);have IU:aY En B 96 5 (dz E (m.s.gn+1) C) (m.s.gn+1) (dn 5 (Qw (fun b=>lQ (m.g b)) (lQ (uS v)) m.s.gn m.s.gn)):=(ho1.congr (fun j hj=>(BL j hj).trans (bZ (fun i N q _=>Fx.E9 i N q) j hj)));have zl:Below B w En:=sO DW hg1 (m_ A DW.size) (fun q hq=>(O6.ge hq).1);refine Ln ⟨tX,?_⟩;refine aS (pt p)<|aS (pt p)<|aS (pf p 19)<|jP<|jf Y9 19 (dz E (m.s.gn+1) C) fun YF ayO s20 QM => ?_;have Av:=gJ s20 Y9.ty;have⟨amG,amH,UD,acd,ahr,ace,acf⟩:=QD Av Rb Za Rc amF Zb Zc IU;have Fh:=s20.below zl (m_ A zl.size) (by omega);refine Ln<|dJ<|yh (fun f h => ∃ k:Nat,k<=m.s.gn/\k=down (fun i=>Jl v (m.g i)) m.s.gn/\f 0=(pt p)/\f 3=(pt F)/\f 10=(pt L)/\f 11=av (k:Int)/\aM h m.tb 1 (fun _ => .slice m.ta m.tn m.tc) 136/\aY h B 207 2 (.slice m.ta (m.tn) (m.tc)) m.tn (QN m.t)/\yT h B 6 m/\aM h F 14 (dH v) 30/\aY h B 69 56 (.slice m.s.na (m.s.nn) (m.s.nc)) m.s.nn (dn 56 (fun b=>mV (m.id b) (m.par b) (l b)))/\aM h L 5 (lQ (uS v)) 96/\aM h p 27 (dN (nQ m) 19 (dz E (m.s.gn+1) C)) 48/\aY h B 96 5 (dz E (m.s.gn+1) C) (m.s.gn+1) (dn 5 (Qw (fun b=>lQ (m.g b)) (lQ (uS v)) m.s.gn k))/\Below B w h) ?_ ?_
 ·refine Wb<|Wo (fun f h => ∃ k:Nat,k<=m.s.gn/\(∀ i,k<=i->i<m.s.gn->Jl v (m.g i)=true)/\f 0=(pt p)/\f 3=(pt F)/\f 10=(pt L)/\f 11=av (k:Int)/\aM h m.tb 1 (fun _ => .slice m.ta m.tn m.tc) 136/\aY h B 207 2 (.slice m.ta (m.tn) (m.tc)) m.tn (QN m.t)/\yT h B 6 m/\aM h F 14 (dH v) 30/\aY h B 69 56 (.slice m.s.na (m.s.nn) (m.s.nc)) m.s.nn (dn 56 (fun b=>mV (m.id b) (m.par b) (l b)))/\aM h L 5 (lQ (uS v)) 96/\aM h p 27 (dN (nQ m) 19 (dz E (m.s.gn+1) C)) 48/\aY h B 96 5 (dz E (m.s.gn+1) C) (m.s.gn+1) (dn 5 (Qw (fun b=>lQ (m.g b)) (lQ (uS v)) m.s.gn k))/\Below B w h) (fun f _=>(intOf (f 11)).toNat) ⟨m.s.gn,by omega,(fun i Q M=>L_ Q (by omega)),Q,M,(by rfl),ic,amG,amH,UD,acd,ahr,ace,ayO,acf,Fh⟩ ?_;rintro f3 H ⟨k,Y,hgt,V,IV,X,S,UE,Mh,O7,UF,O8,IW,Mi,Mj,Gs⟩;refine yh (fun f h => ∃ j:Nat,k=j+1/\Jl v (m.g j)=true/\f 0=(pt p)/\f 3=(pt F)/\f 10=(pt L)/\f 11=av (k:Int)/\aM h m.tb 1 (fun _ => .slice m.ta m.tn m.tc) 136/\aY h B 207 2 (.slice m.ta (m.tn) (m.tc)) m.tn (QN m.t)/\yT h B 6 m/\aM h F 14 (dH v) 30/\aY h B 69 56 (.slice m.s.na (m.s.nn) (m.s.nc)) m.s.nn (dn 56 (fun b=>mV (m.id b) (m.par b) (l b)))/\aM h L 5 (lQ (uS v)) 96/\aM h p 27 (dN (nQ m) 19 (dz E (m.s.gn+1) C)) 48/\aY h B 96 5 (dz E (m.s.gn+1) C) (m.s.gn+1) (dn 5 (Qw (fun b=>lQ (m.g b)) (lQ (uS v)) m.s.gn k))/\Below B w h) ?_ ?_
  ·refine aQ ?_;refine zu<|iL S ?_;by_cases c97:0<(k:Int)
   ·obtain⟨j,ej⟩ : ∃ j,k=j+1:=⟨k-1,by omega⟩;refine Qv aH (fun u d=>lK c97)<|bI aH<|iL V<|bI (pt p)<|bI (pt p)<|bI (pf p 19)<|Qv (dz E (m.s.gn+1) C) (fun u d=>aR (Mi.aJ.dr d) 19 (nK (by omega)))<|iL S<|Qv (av j) (fun u d=>jK)<|Qv (pf E (5*j)) (fun u d=>fC 5)<|bI (pf E (5*j))<|Qv (av ((m.g j) 0)) (fun u d=>aR (Mj.aJ.dr d) (5*j) (je (k:=j) (j:=0) (by omega) (by omega) ((congrFun (Fx.HY (by omega) (by omega)) 0).trans rfl)))<|Qv (pt L) (fun u d=>iO X 0)<|Qv (av v.o) (fun u d=>aR (IW.aJ.dr d) 0) ?_;by_cases acg:v.o<((m.g j) 0)
    ·refine Qv aH (fun u d=>lK acg)<|bI aH<|bD<|bD<|bD<|bD<|bD<|bD<|bD<|bD<|bD<|bD<|bD<|bD<|bD<|bD<|bD<|bD<|bD<|bD<|bD<|bD<|bD<|bD<|bD ?_;refine bD<|bD<|bD<|bD<|bD<|bI aH<|bI aH<|Qn ?_;rintro _ ⟨J,rfl⟩;obtain⟨IC,xI⟩ : ∃ u,u=World.drewN H J:=⟨_,rfl⟩;rw[<- xI];have Rf:eG H.heap.size H IC:=(by rw[xI]; exact Sb (kQ H J));have⟨ach,amI,ahs,Zd,aht,ayP,ayQ,ayR⟩:=lY Rf.bP UE Mh O7 UF O8 IW Mi Mj;have M7:=iR Rf.bP Gs A;clear xI;refine sN<|aP<|Wk ?_;exact nL ⟨j,ej,(by unfold Jl; rw[f_ acg]; rfl),V,IV,X,(S.trans ic),ach,amI,ahs,Zd,aht,ayP,ayQ,ayR,M7⟩
    refine Qv aD (fun u d=>lM acg)<|bI aD<|iL V<|bI (pt p)<|bI (pt p)<|bI (pf p 19)<|Qv (dz E (m.s.gn+1) C) (fun u d=>aR (Mi.aJ.dr d) 19 (nK (by omega)))<|iL S<|Qv (av j) (fun u d=>jK)<|Qv (pf E (5*j)) (fun u d=>fC 5)<|bI (pf E (5*j))<|Qv (av ((m.g j) 0)) (fun u d=>aR (Mj.aJ.dr d) (5*j) (je (k:=j) (j:=0) (by omega) (by omega) ((congrFun (Fx.HY (by omega) (by omega)) 0).trans rfl)))<|Qv (pt L) (fun u d=>iO X 0)<|Qv (av v.o) (fun u d=>aR (IW.aJ.dr d) 0) ?_;by_cases ahu:((m.g j) 0)=v.o
    ·refine Qv aH (fun u d=>gU ahu)<|bI aH<|iL V<|bI (pt p)<|bI (pt p)<|bI (pf p 19)<|Qv (dz E (m.s.gn+1) C) (fun u d=>aR (Mi.aJ.dr d) 19 (nK (by omega)))<|iL S<|Qv (av j) (fun u d=>jK)<|Qv (pf E (5*j)) (fun u d=>fC 5)<|bI (pf E (5*j+1))<|Qv (aG ((m.g j) 1)) (fun u d=>aR (Mj.aJ.dr d) (5*j+1) (je (k:=j) (j:=1) (by omega) (by omega) ((congrFun (Fx.HY (by omega) (by omega)) 1).trans rfl)))<|Qv (pf L 1) (fun u d=>iO X 1)<|Qv (aG v.bK) (fun u d=>aR (IW.aJ.dr d) 1) ?_;by_cases c139:v.bK<((m.g j) 1)
     ·refine Qv aH (fun u d=>lK c139)<|bI aH<|bI aH<|bI aH<|Qn ?_;rintro _ ⟨J,rfl⟩;obtain⟨Ma,Aw⟩ : ∃ u,u=World.drewN H J:=⟨_,rfl⟩;rw[<- Aw];have Xc:eG H.heap.size H Ma:=(by rw[Aw]; exact Sb (kQ H J));have⟨ayS,ayT,ayU,ayV,amJ,ayW,amK,amL⟩:=lY Xc.bP UE Mh O7 UF O8 IW Mi Mj;have TS:=iR Xc.bP Gs A;clear Aw;refine sN<|aP<|Wk ?_;exact nL ⟨j,ej,(by unfold Jl; rw[f_ ahu,f_ c139]; cases decide (v.o<m.g j 0) <;> rfl),V,IV,X,(S.trans ic),ayS,ayT,ayU,ayV,amJ,ayW,amK,amL,TS⟩
     refine Qv aD (fun u d=>lM c139)<|bI aD<|bI aD<|bI aD<|Qn ?_;rintro _ ⟨J,rfl⟩;obtain⟨wq3,Ku⟩ : ∃ u,u=World.drewN H J:=⟨_,rfl⟩;rw[<- Ku];have Ze:eG H.heap.size H wq3:=(by rw[Ku]; exact Sb (kQ H J));have⟨amM,ayX,ayY,ayZ,aza,azb,azc,azd⟩:=lY Ze.bP UE Mh O7 UF O8 IW Mi Mj;have UG:=iR Ze.bP Gs A;clear Ku;refine sN<|aL<|Wx<|jnX<|iC<|dB ?_;exact nL ⟨k,Y,(yF Y hgt (.inr (fun j2 e=>by rw[show j2=j by omega]; unfold Jl; rw[g_ acg,g_ c139,H_]; rfl))),V,IV,X,(S.trans ic),amM,ayX,ayY,ayZ,aza,azb,azc,azd,UG⟩
    refine Qv aD (fun u d=>gX ahu)<|bI aD<|bD<|bD<|bD<|bD<|bD<|bD<|bD<|bD<|bD<|bD<|bD<|bD<|bD<|bI aD<|bI aD<|bI aD<|Qn ?_;rintro _ ⟨J,rfl⟩;obtain⟨wq4,Kv⟩ : ∃ u,u=World.drewN H J:=⟨_,rfl⟩;rw[<- Kv];have s24:eG H.heap.size H wq4:=(by rw[Kv]; exact Sb (kQ H J));have⟨aze,azf,azg,azh,azi,azj,azk,azl⟩:=lY s24.bP UE Mh O7 UF O8 IW Mi Mj;have UH:=iR s24.bP Gs A;clear Kv;refine sN<|aL<|Wx<|jnX<|iC<|dB ?_;exact nL ⟨k,Y,(yF Y hgt (.inr (fun j2 e=>by rw[show j2=j by omega]; unfold Jl; rw[g_ acg,g_ ahu]; rfl))),V,IV,X,(S.trans ic),aze,azf,azg,azh,azi,azj,azk,azl,UH⟩
   refine Qv aD (fun u d=>lM c97)<|bI aD<|bD<|bD<|bD<|bD<|bD<|bD<|bD<|bD<|bD<|bD<|bD<|bD<|bD<|bD<|bD<|bD<|bD<|bD<|bD<|bD<|bD<|bD<|bD ?_;refine bD<|bD<|bD<|bD<|bD<|bD<|bD<|bD<|bD<|bD<|bD<|bD<|bD<|bD<|bD<|bD<|bD<|bD<|bD<|bD<|bI aD<|Qn ?_;rintro _ ⟨J,rfl⟩;obtain⟨wq5,UJ⟩ : ∃ u,u=World.drewN H J:=⟨_,rfl⟩;rw[<- UJ];have s25:eG H.heap.size H wq5:=(by rw[UJ]; exact Sb (kQ H J));have⟨azm,azn,azo,azp,azq,azr,azs,azt⟩:=lY s25.bP UE Mh O7 UF O8 IW Mi Mj;have b29:=iR s25.bP Gs A;clear UJ;refine sN<|aL<|Wx<|jnX<|iC<|dB ?_;exact nL ⟨k,Y,(yF Y hgt (.inl (by omega))),V,IV,X,(S.trans ic),azm,azn,azo,azp,azq,azr,azs,azt,b29⟩
  rintro f4 WE ⟨j,ej,hgj,h16,Xd,h18,h19,azu,azv,azw,azx,azy,azz,azA,azB,b30⟩;refine Wb<|aQ ?_;refine nP [0,1,2,3,5,6,7,8,9,11,12,4,10,13,14,15,16] [0,0,0,0,4,0,0,0,0,0,4,0,0,0,4,0,3] [(16,4,[4]),(16,10,[10]),(16,14,[14])] fun wt5 sU MV => ?_;have⟨azC,azD,azE,azF,azG,azH,amO,ahw⟩:=lY sU azu azv azw azx azy azz azA azB;have b31:=iR sU b30 A;refine eZ h16<|aS (pt p)<|aS (pt p)<|aS (pf p 19)<|eZ h19<|eZ h16<|aS (pt p)<|aS (pt p)<|aS (pf p 19)<|eZ h19<|Rp (av j) (fun _=>jK)<|Rs (dz E (m.s.gn+1) C) (aR amO.aJ 19 (nK (by omega))) ?_;refine Rs (dz E (m.s.gn+1) C) (aR amO.aJ 19 (nK (by omega))) ?_;refine Rp (pf E (5*j)) (fun _=>fC 5)<|Rs (.agg (aA 5 (lQ (m.g j)))) (dZ ahw.aJ (5*j) (fun jq hjq=>(eF (k:=j) (by omega) hjq).trans (congrFun (Fx.HY (by omega) (by omega)) jq))) ?_;refine Rp (pf E (5*k)) (fun _=>fC 5)<|jP<|L6 ahw (5*k) (h1:=(fun j _=>Au _ j)) fun YG azI YK z11 => ?_;have yU:=gJ YK ahw.Wq;have⟨azJ,azK,azL,azM,azN⟩:=xu yU azC azD azE azF azG;have azO:=azH.cK YK (by omega);have azP:=jU yU amO;have b32:=YK.below b31 (m_ A b31.size) ahw.wo.1;have azQ:aY YG B 96 5 (dz E (m.s.gn+1) C) (m.s.gn+1) (dn 5 (Qw (fun b=>lQ (m.g b)) (lQ (uS v)) m.s.gn j)):=azI.congr (fun pq Z=>(BM (k:=k) (by omega) pq Z).trans (bZ (fun i N q _=>Fx.Jf ej (by omega) i N q) pq Z));refine Ln<|dJ<|Wl<|bA h19<|Lv (av j) jK<|au (av j)<|Ln<|bS<|iA ⟨j,by omega,(abU ej hgt hgj),h16,Xd,h18,ic,azJ,azK,azL,azM,azN,azO,azP,azQ,b32⟩ ?_;show(intOf (av j)).toNat<_;simp only[S,intOf]; omega
 rintro f5 yB ⟨k,Y,ek,h20,h21,h22,h23,azR,azS,azT,azU,azV,azW,azX,azY,b33⟩;refine aQ ?_;refine nP [0,1,2,3,5,4,6,7,8] [0,0,0,0,4,0,4,0,3] [(8,4,[4]),(8,6,[6])] fun wt6 akC aFr => ?_;have⟨azZ,aAa,aAb,aAc,aAd,arO,arP,amQ⟩:=lY akC azR azS azT azU azV azW azX azY;have b34:=iR akC b33 A;refine eZ h20<|aS (pt p)<|aS (pt p)<|aS (pf p 19)<|eZ h23<|Rs (dz E (m.s.gn+1) C) (aR arP.aJ 19 (nK (by omega))) ?_;refine Rs (.agg (aA 5 (lQ (uS v)))) (dZ arO.aJ 0 (ha:=h22)) ?_;refine Rp (pf E (5*k)) (fun _=>fC 5)<|jP<|L6 amQ (5*k) (h1:=(fun j _=>Au _ j)) fun Ui aAe s29 z12 => ?_;have BX:=gJ s29 amQ.Wq;have⟨aAf,aAg,arQ,aAh,aAi⟩:=xu BX azZ aAa aAb aAc aAd;have aAj:=arO.cK s29 (by omega);have aAk:=jU BX arP;have b35:=s29.below b34 (m_ A b34.size) amQ.wo.1;have aAl:aY Ui B 96 5 (dz E (m.s.gn+1) C) (m.s.gn+1) (dn 5 (Ov (fun b=>lQ (m.g b)) k (lQ (uS v)))):=aAe.congr (fun pq Z=>(BM (k:=k) (by omega) pq Z).trans (bZ (fun i N q _=>Fx.Fa (by omega) i N q) pq Z));refine Ln<|dJ<|aQ ?_;have aAm:aY Ui B 26 1 (.slice (m.ra a) (m.rn a) (m.rc a)) (m.rn a) (rv .u64 (m.rq a)):=arQ.1 a ha;have bra:=I.br a ha;refine W.nC [0,1,4,5,8,9,12,16,17,2,3,6,7,10,11,13,14,15,18,19] [0,0,1,0,0,0,1,0,0,0,0,1,0,4,2,2,0,0,0,3] (jk [26]) vS Fx.jk.trans (bR := [(19,2,[2]),(19,6,[6]),(19,11,[11]),(14,13,[13]),(15,13,[14,13]),(19,13,[13]),(15,14,[14]),(18,14,[14]),(19,14,[14]),(18,15,[15]),(19,15,[15])]) (by kernel_rfl) (by kernel_rfl) (by kernel_rfl) (by kernel_rfl) (by kernel_rfl) fun wt7 akE aFs => ?_;have⟨arR,aAn,aAo,ahx,aAp,aAq,amR,arS,arT⟩:=yQ akE aAf aAg arQ aAh aAi aAj aAk aAl aAm;have b36:=iR akE b35 A;refine eZ h20<|Rp (pt F) (fun _=>iO h21 0)<|eZ h20<|Rp (pt F) (fun _=>iO h21 0)<|aS (pt p)<|aS (pf p 21)<|Rp (pf F 12) (fun _=>iO h21 12)<|aS (pt p)<|aS (pf p 21)<|lI (v:=av v.o) (by rfl) (by rfl) (vS _) (fun u d=>bE (x:=dH v) rfl rfl (by kernel_rfl) (ahx.nA d (by decide)).aJ (i:=0) (by omega) (by omega) rfl) ?_;refine Rp (av a) (fun _=>jK)<|lI (v:=av v.o) (by rfl) (by rfl) (vS _) (fun u d=>bE (x:=dH v) rfl rfl (by kernel_rfl) (ahx.nA d (by decide)).aJ (i:=0) (by omega) (by omega) rfl) ?_;refine Rp (av a) (fun _=>jK)<|Rp (pf p (a+21)) (fun _=>jh 6 1)<|lI (v := .slice (m.ra a) (m.rn a) (m.rc a)) (by rfl) (by rfl) (vS _) (fun u d=>bE (x:=dN (nQ m) 19 (dz E (m.s.gn+1) C)) rfl rfl (by kernel_rfl) (amR.nA d (by decide)).aJ (i:=a+21) (by omega) (by omega) (EY (by omega) (Aq _ (by omega)))) ?_;refine Rs (aG v.bK) (aR ahx.aJ 12) ?_;refine mF<|uz (vs := [(0,aG v.bK)]) (s:=1) (zc:=rv .u64 (fun _=>0)) (y:=bJ (fun j=>(rv .u64 (fun _=>0)) (j % 1)) (0*1) 1 (fun _=>aG v.bK)) (by rfl) rfl rfl underlying45 (by kernel_rfl) (by rfl) (by rfl) (by kernel_rfl) (by rw[aT (off:=0*1) (s:=1) (y:=fun _=>aG v.bK) rfl (bG (by rfl)) (by rfl)]; rfl) rfl fun g7 w25 Rh arU s31 z13 => ?_;have⟨aAs,aAt,aAu,aAv,aAw,aAx,amS⟩:=kU s31.bP arR aAn aAo aAp amR arS arT;have b37:=iR s31.bP b36 A;have lg7:=gQ Rh b36.size;have⟨avU,avV,avW,avX,avY⟩:=Du Rh arR.lt ahx.lt aAq.lt amR.lt arS.lt;have avZ:(.slice (m.ra a) (m.rn a) (m.rc a):Value).ownBlock≠some g7:=by rw[Rh]; exact arT.gW (A_ _)
 have tg7:=arU.lt;refine Ln ⟨Fx.jk.jr s31.bP,?_⟩;refine mF<|xX (B:=B) (s:=1) (bytes:=8) (k:=(m.rn a)) (m:=1) (v := .slice (m.ra a) (m.rn a) (m.rc a)) (x:=rv .u64 (m.rq a)) (by rfl) rfl rfl rfl underlying45 (by kernel_rfl) (by kernel_rfl) rfl rfl amS arU.aJ (CZ (fun _=>rfl)) (by omega) (by omega) (by omega) (m_ A b37.size) fun O cap2 YM ho2 hg2 Un hlt2 => ?_;have Ri:=yc hg2 amS;have⟨aAz,aAA,aAB,arV,aAC⟩:=xu Ri aAs aAt aAv aAw aAx;have aAD:aY YM B 26 1 (.slice (some ⟨O,0,none⟩) ((m.rn a)+1) cap2) ((m.rn a)+1) (rv .u64 (aN (m.rq a) (m.rn a) v.bK)):=(ho2.congr (fun j hj=>Xb j hj));have b38:Below B w YM:=sO b37 hg2 (m_ A b37.size) (fun q hq=>(amS.ge hq).1);have aAE:yT YM B 6 { m with ra:=aN m.ra a (some ⟨O,0,none⟩),rn:=aN m.rn a (m.rn a+1),rc:=aN m.rc a cap2,rq:=aN m.rq a (aN (m.rq a) (m.rn a) v.bK) }:=yT.app aAu ha rfl rfl rfl rfl aAD hg2 Un;refine Ln ⟨Ri,?_⟩;refine Rp (pf p (a+21)) (fun _=>jh 6 1)<|jP<|jf arV (a+21) (.slice (some ⟨O,0,none⟩) ((m.rn a)+1) (cap2)) fun w27 aAF s32 z14 => ?_;have Ia:=gJ s32 arV.ty;have⟨aAG,aAH,aAI,aAJ,aAK⟩:=xu Ia aAz aAA aAB aAC aAE;have b39:=s32.below b38 (m_ A b38.size) (by omega);refine Ln<|dJ<|ay<|au (av 0)<|aC<|Wr<|aK (av 0) ?_;have U:aX v=a:=by unfold aX; omega
 have ne1 : ¬ 0<=m.aW.nW (aX v) v.bK:=by rw[U]; exact j_ c17
 have ne2 : ¬ iw m.aW.t m.aW.tn v.node=0:=fun e=>c27 (by rw[show K=0 from WL.trans e]; rfl);have ew:ug m.aW v=eO (fun x=>bV x v.o v.bF) (vI m.aW v.node) m.R K:=by unfold ug; rw[show iw m.aW.t m.aW.tn v.node=K from WL.symm]; rfl
 have P:kW m.aW v=0:=by unfold kW; rw[b_ ne1,b_ ne2,ew,hRK]
 have eW:ug m.aW v=(l,0):=ew.trans hRK;have aAL:aY w27 B 96 5 (dz E (m.s.gn+1) C) (m.s.gn+1) (dn 5 fun b=>lQ (dW m.g k (uS v) b)):=by rw[<- aho]; exact aAJ
 refine⟨uD P.symm,b39,fun _=>⟨{ m with s := { m.s with ga:=some ⟨E,0,none⟩,gn:=m.s.gn+1,gc:=C },R:=l,g:=dW m.g k (uS v),ra:=aN m.ra a (some ⟨O,0,none⟩),rn:=aN m.rn a (m.rn a+1),rc:=aN m.rc a cap2,rq:=aN m.rq a (aN (m.rq a) (m.rn a) v.bK) },?_,?_⟩⟩
 ·unfold oU vJ; rw[eW,U]; rw[show down (fun i=>Jl v (m.aW.g i)) m.aW.gn=k from ek.symm]; rfl
 exact { c:=aAF.to ((K_ (fun z=>dN z (a+21) _) (Ur m _ _ _)).trans (QX _ rfl _ _ _)),n:=aAI,g:=aAL,tc:=aAG,t:=aAH,r:=aAK,pB:=wY,tB:=IJ,bn:=bn,bg:=(by show m.s.gn+1<=1000000; omega),bt:=bt,br:=(fun i N=>by show aN m.rn a (m.rn a+1) i<=1000000; have:=brr i N; have:=brr a ha; unfold aN; split <;> omega) }
namespace Rt
def EC(L:iQ)(v:dA):Nat:=(L.jy v.o v.of).toNat
def rQ(L:iQ)(v:dA):(Nat->Nat->Int) × Int:=eO (fun x=>bW x v.o (L.g (EC L v) 3)) (vI L (L.g (EC L v) 2)) L.R (iw L.t L.tn (L.g (EC L v) 2))
def kF(L:iQ)(v:dA):Int:=if 0<=L.nW (aX v) v.bK then 14 else if L.jy v.o v.of<0\/L.g (EC L v) 4≠0 then 12 else(rQ L v).2
def nG(L:iQ)(v:dA):iQ:=vJ { L with R:=(rQ L v).1,g:=aN L.g (EC L v) (aN (L.g (EC L v)) 4 v.bK) } (aX v) v.bK
theorem aci{m:ow}(h : ¬ m.jy a d<0) : ∃ q:Nat,q<m.s.gn/\m.jy a d=(q:Int)/\m.g q 0=a/\m.g q 1=d:=by
 rcases iW (fun i=>decide (m.g i 0=a)&&decide (m.g i 1=d)) m.s.gn with ⟨q,b,e,o⟩|⟨e,_⟩
 ·rw[Q_]at o;exact⟨q,b,e,h_ o.1,h_ o.2⟩
 unfold ow.jy at h; omega
theorem Zf : ∀ i,i<k -> ∀ j,j<5->wu (fun q=>lQ (c q)) m (dN (lQ (c m)) 4 (aG a)) i j=lQ (aN c m (aN (c m) 4 a) i) j:=fun i _ j b=>by
 unfold wu;by_cases h:i=m
 ·subst h;rw[d_ rfl];unfold aN dN lQ;rw[d_ rfl]
  rcases j with _|_|_|_|_|j <;> first|rfl|omega
 ·rw[b_ h]; unfold aN; rw[b_ h]
end Rt
set_option maxRecDepth 20000 in
set_option maxHeartbeats 2000000 in
theorem ahy(m:ow)(B p a:Nat)(v:dA)(w:World)(C:zU w B p m)(u:B<=w.heap.size)(ha:a<6)(ho:v.o=(a:Int)+1)(bgg:m.s.gn<=900000)(brr : ∀ i,i<6->m.rn i<=900000)(hTN : ∀ x,m.node x=bT m.t m.tn x)(hDx : ∀ x,∃ D,D<=1000/\bT m.t m.tn (bU m.t m.tn D x)<0) :
 Calls prog 91 #[(pt p),.agg (aA 14 (dH v))] w fun e w'=>e = .returned (av (kF m.aW v))/\Below B w w'/\(kF m.aW v=0 -> ∃ m',m'.aW=nG m.aW v/\zU w' B p m'):=by
 have Ue:=C.c;have hLn:=C.n;have hLg:=C.g;have WK:=C.tc;have abK:=C.t;have hLr:=C.r;have wY:=C.pB;have IJ:=C.tB;have bn:=C.bn;have bg:=C.bg;have bt:=C.bt;have lpp:p<w.heap.size:=Ue.lt;have yC:m.tb<w.heap.size:=WK.lt;refine bX func91 128 ?_;refine ay<|oq fun F w1 kV m1 s1 z1 => ?_;have⟨m2,m3,m4,m5,m6,m7⟩:=oL s1.bP Ue hLn hLg WK abK hLr;have b1:=iR s1.bP (Below.refl B w) u;have tJ:=gQ kV (Below.refl B w).size;have⟨rJ,Bo⟩:=oM kV Ue.lt WK.lt;have vB:=m1.lt;refine au (av 0)<|aC<|aQ<|ay<|au (pt p)<|au (pt F)<|Lv (av v.o) (aR m1.aJ 0)<|au (pf F 12)<|Lv (aG v.bK) (aR m1.aJ 12) ?_;have Uv:H6 w1 p m := { c:=m2.aJ,an:=m3.oI,ag:=m4.oI,tc:=m5.aJ,YS:=m6.oI,ar:=fun i H=>(m7.1 i H).oI,bn:=(by show m.s.nn<=1000000; omega),bg:=bg,bt:=(by show m.tn<=1000000; omega),br:=C.br };by_cases M:(decide (0<=m.nW a v.bK))=true
 ·refine dO (Fz _ _ _ _ v.bK _ Uv ha ho) aH (by rw[M]) ?_;intro w2 hb1;have b2:=iR hb1 b1 u;refine aC<|aP<|ay<|au (av 14)<|aC<|Wr<|sR<|aK (av 14) ?_;have I:aX v=a:=by unfold aX; omega
  have G:kF m.aW v=14:=by unfold kF; rw[I]; exact d_ (h_ M)
  exact⟨uD G.symm,b2,fun J=>by rw[G]at J; cases J⟩
 rw[R_]at M;refine dO (Fz _ _ _ _ v.bK _ Uv ha ho) aD (by rw[M]) ?_;intro w3 hb2;have⟨m15,m16,m17,m18,m19,m20,mG⟩:=kU hb2 m2 m3 m4 m5 m6 m7 m1;have b3:=iR hb2 b1 u;refine aC<|aL<|Wk<|sN<|ay<|au (pt p)<|au (pt F)<|Lv (av v.o) (aR mG.aJ 0)<|au (pf F 13)<|Lv (aG v.of) (aR mG.aJ 13)<|have abV:H6 w3 p m := { c:=m15.aJ,an:=m16.oI,ag:=m17.oI,tc:=m18.aJ,YS:=m19.oI,ar:=fun i H=>(m20.1 i H).oI,bn:=(by show m.s.nn<=1000000; omega),bg:=bg,bt:=(by show m.tn<=1000000; omega),br:=C.br };dO (agX _ _ v.o v.of _ abV) _ rfl ?_;intro w4 hb3;have⟨m22,m23,m24,mU,pK,pO,om⟩:=kU hb3 m15 m16 m17 m18 m19 m20 mG;have b4:=iR hb3 b3 u;refine au (av (m.jy v.o v.of))<|aC<|aQ<|ay<|au (av (m.jy v.o v.of)) ?_;by_cases V:(m.jy v.o v.of)<0
 ·refine Lv aH (fK V)<|au aH<|bf<|bf<|bf<|bf<|bf<|bf<|bf<|bf<|bf<|bf<|au aH<|aC<|aP<|ay<|au (av 12)<|aC<|Wr<|sR<|aK (av 12) ?_;have I:aX v=a:=by unfold aX; omega
  have T : ¬ 0<=m.aW.nW (aX v) v.bK:=by rw[I]; exact j_ M
  have G:kF m.aW v=12:=by unfold kF; rw[b_ T]; exact d_ (.inl V)
  exact⟨uD G.symm,b4,fun J=>by rw[G]at J; cases J⟩
 obtain⟨b,hkg,ekg,_,_⟩:=aci V;have X:EC m.aW v=b:=by show(m.jy v.o v.of).toNat=b; rw[ekg]; rfl
 refine Lv aD (fM V)<|au aD<|au (pt p)<|au (pt p)<|au (pt p)<|au (pf p 19)<|Lv (.slice m.s.ga (m.s.gn) (m.s.gc)) (aR m22.aJ 19)<|bA (K_ (Value.int .i64) ekg) ?_;obtain⟨Z,eq1⟩:=m24.wz;have qb:=m24.fE (K_ (fun q=>Value.slice q m.s.gn m.s.gc) eq1);refine Lv (pf Z (5*b)) (fC 5 (hx:=(rfl.trans (K_ (fun q=>Value.slice q (m.s.gn) (m.s.gc)) eq1))))<|au (pf Z (5*b+4))<|Lv (aG ((m.g b) 4)) (aR qb.aJ (5*b+4) (je (k:=b) (j:=4) (by omega) (by omega) rfl)) ?_;by_cases Y:((m.g b) 4)=0
 ·refine Lv aD (kr Y)<|au aD<|aC<|aL<|Wk<|sN<|aQ ?_;obtain⟨D,hD2,hD⟩:=hDx (m.g b 2);refine nP [0,1,2,4,5,6,7,9,3,8,10,11,12,13,14] [0,0,0,4,0,0,0,0,4,0,0,0,4,3,0] [(13,3,[3]),(13,8,[12,11,10,8]),(13,12,[12]),(14,13,[13])] fun qN eX iM =>have⟨qV,mY,m32,oD,pz,pQ,rE⟩:=kU eX m22 m23 mU pK pO om qb;have b5:=iR eX b4 u;aS (pt p)<|aS (pt p)<|aS (pf p 20)<|aS (pt p)<|aS (pt p)<|aS (pt p)<|aS (pf p 19)<|eZ (K_ (Value.int .i64) ekg)<|Rs (pt m.tb) (aR qV.aJ 20)<|Rs (.slice m.s.ga (m.s.gn) (m.s.gc)) (aR qV.aJ 19)<|Rp (pf Z (5*b)) (fun _=>fC 5 (hx:=(rfl.trans (K_ (fun q=>Value.slice q (m.s.gn) (m.s.gc)) eq1))))<|aS (pf Z (5*b+2))<|Rs (aG ((m.g b) 2)) (aR rE.aJ (5*b+2) (je (k:=b) (j:=2) (by omega) (by omega) rfl))<|jP<|lX (Uk _ _ _ m.tc m.t (m.g b 2) D _ (Ar m32 oD bt) hD hD2) ?_;rintro e w5 ⟨K,vv,he,hown,zB,hK1,hb4⟩;obtain⟨O,A,rfl⟩:=hown.val;refine⟨.slice O K A,he,?_⟩;clear he;have WL:K=iw m.t m.tn (m.g b 2):=zI zB hK1 hD hD2;have hKD:K<=1000:=by rw[WL]; exact OV _ _
  have⟨sD,qM,qW,vk,pR,qx,qy⟩:=kU hb4 qV mY m32 oD pz pQ rE;have b6:=iR hb4 b5 u;refine Ln<|aS (.slice O (K) (A))<|dJ<|aQ<|ay<|au (av 0)<|aC<|Wb ?_;have uF:aY w5 B 96 5 (.slice m.s.ga (m.s.gn) (m.s.gc)) m.s.gn (Ka m):=qy.fE (K_ (fun q=>Value.slice q m.s.gn m.s.gc) eq1.symm);refine Wo (fun f z => ∃ k:Nat,∃ d:Nat->Nat->Int,k<=K/\eO (fun x=>bW x v.o (m.g b 3)) (vI m.aW (m.g b 2)) m.R k=(d,0)/\f 0=(pt p)/\f 3=(pt F)/\f 6 = .slice O (K) (A)/\f 7=av (k:Int)/\f 5=av (b:Int)/\aM z p 27 (nQ m) 48/\aM z m.tb 1 (fun _ => .slice m.ta m.tn m.tc) 136/\aY z B 207 2 (.slice m.ta (m.tn) (m.tc)) m.tn (QN m.t)/\yT z B 6 m/\aM z F 14 (dH v) 30/\aY z B 96 5 (.slice m.s.ga (m.s.gn) (m.s.gc)) m.s.gn (Ka m)/\aY z qN.heap.size 26 1 (.slice O (K) (A)) K (rv .u64 (fun i=>bU m.t m.tn i (m.g b 2)))/\aY z B 69 56 (.slice m.s.na (m.s.nn) (m.s.nc)) m.s.nn (dn 56 (fun l=>mV (m.id l) (m.par l) (d l)))/\Below B w z) (fun f _=>(K-(intOf (f 7)).toNat)) ⟨0,m.R,by omega,rfl,(by rfl),(by rfl),(by rfl),ic,((K_ (Value.int .i64) ekg).trans ic),sD,qW,vk,pR,qx,uF,hown,qM,b6⟩ ?_;rintro f1 w6 ⟨k,d,hk,hRk,N,L,h3,h4,h5,sQ,qc,tK,xY,uN,yj,Ai,yG,b7⟩;refine aQ<|ay<|bA h4<|bA h3<|au (av K) ?_;by_cases c54:(k:Int)<(K:Int)
  ·refine Lv aH (fK c54)<|aC<|aP<|Wk<|sN<|aQ<|Wb<|aQ ?_;obtain⟨q,hq,eq0,_⟩:=Jm (m:=m) (x:=bU m.t m.tn k (m.g b 2)) (by rw[hTN]; exact zB k (by omega));have ex1:vI m.aW (m.g b 2) k=q:=(by show(gF (fun i=>decide (m.id i=bU m.t m.tn k (m.g b 2))) m.s.nn).toNat=q; rw[eq0]; rfl);refine Wl<|bA N<|bA h3<|bA h4 ?_;obtain⟨OY,D6⟩:=Ai.wz (by omega);have xA:aY w6 qN.heap.size 26 1 (dz OY K A) K (rv .u64 (fun i=>bU m.t m.tn i (m.g b 2))):=Ai.fE (K_ (fun q=>Value.slice q K A) D6);refine Lv (pf OY k) (fC 1 (hx:=(rfl.trans (K_ (fun q=>Value.slice q (K) (A)) D6))))<|Lv (aG ((fun i=>bU m.t m.tn i (m.g b 2)) k)) (aR xA.aJ k) ?_;have yH:aY w6 qN.heap.size 26 1 (.slice O (K) (A)) K (rv .u64 (fun i=>bU m.t m.tn i (m.g b 2))):=xA.fE (K_ (fun q=>Value.slice q K A) D6.symm);have aAM:H6 w6 p { m with R:=d } := { c:=sQ.aJ,an:=yG.oI,ag:=yj.oI,tc:=qc.aJ,YS:=tK.oI,ar:=fun i H=>(xY.1 i H).oI,bn:=(by show m.s.nn<=1000000; omega),bg:=bg,bt:=(by show m.tn<=1000000; omega),br:=C.br };refine dO ((OE { m with R:=d } p (bU m.t m.tn k (m.g b 2)) _ aAM).mono (fun e w2 L=>(⟨L.1.trans (uD eq0),L.2⟩:e = .returned (av (q:Int))/\_))) _ rfl ?_;intro w7 hb5;have⟨wC,vU,wD,tL,uG,oo,sF,pE⟩:=lY hb5 sQ qc tK xY uN yj yG yH;have b8:=iR hb5 b7 u;refine au (av q)<|aC<|yh (fun f z => ∃ Q:Nat,w.heap.size<=Q/\p≠Q/\m.tb≠Q/\F≠Q/\f 0=(pt p)/\f 3=(pt F)/\f 5=av (b:Int)/\f 6 = .slice O (K) (A)/\f 7=av (k:Int)/\f 8=av (q:Int)/\f 9=(pt Q)/\f 10=av ((bW (d q) v.o ((m.g b) 3)).2)/\aM z p 27 (nQ m) 48/\aM z m.tb 1 (fun _ => .slice m.ta m.tn m.tc) 136/\aY z B 207 2 (.slice m.ta (m.tn) (m.tc)) m.tn (QN m.t)/\yT z B 6 m/\aM z F 14 (dH v) 30/\aY z B 96 5 (.slice m.s.ga (m.s.gn) (m.s.gc)) m.s.gn (Ka m)/\aY z B 69 56 (.slice m.s.na (m.s.nn) (m.s.nc)) m.s.nn (dn 56 (fun l=>mV (m.id l) (m.par l) (d l)))/\aY z qN.heap.size 26 1 (.slice O (K) (A)) K (rv .u64 (fun i=>bU m.t m.tn i (m.g b 2)))/\aM z Q 54 (rv .i64 ((bW (d q) v.o ((m.g b) 3)).1)) 67/\Below B w z) ?_ ?_
   ·-- region 11 draws
    refine W.Ko [0,1,2,3,5,9,11,12,13,14,16,4,6,7,8,10,15,17,18,19] [20,21,22,23,24,25,26] [0,0,0,0,1,0,0,0,1,0,1,0,0,0,0,1,0,0,0,1,2,0,0,0,2,3,0] Mk mE Mk.trans (bR := [(25,4,[4]),(25,8,[8]),(25,10,[10]),(25,15,[15]),(25,19,[19]),(21,20,[20]),(22,20,[21,20]),(23,20,[21,20]),(25,20,[20]),(26,20,[20]),(25,24,[24]),(26,24,[24]),(26,25,[25])]) (by kernel_rfl) (by kernel_rfl) (by kernel_rfl) (by kernel_rfl) (by kernel_rfl) (by kernel_rfl) fun Fu iZ rM => ?_;have⟨S,m64,xB,sG,sH,sI,tN,tO⟩:=lY iZ wC vU wD tL uG oo sF pE;have b9:=iR iZ b8 u;refine eZ N<|aS (pt p)<|aS (pt p)<|aS (pf p 18)<|aS (av q)<|Rp (pt F) (fun _=>iO L 0)<|eZ N<|aS (pt p)<|aS (pt p)<|aS (pf p 19)<|eZ h5<|lI (v := .slice m.s.na (m.s.nn) (m.s.nc)) (by rfl) (by rfl) (mE _) (fun U E=>bE (x:=nQ m) rfl rfl (by kernel_rfl) (S.aJ.below E (by have:=S.lt; omega)) (i:=18) (by omega) (by omega) rfl) ?_;obtain⟨Y6,LQ⟩:=tN.wz (by omega);have qg:aY Fu B 69 56 (dz Y6 m.s.nn m.s.nc) m.s.nn (dn 56 (fun l=>mV (m.id l) (m.par l) (d l))):=tN.fE (K_ (fun q=>Value.slice q m.s.nn m.s.nc) LQ);refine Rp (pf Y6 (56*q)) (fun _=>fC 56 (hx:=(rfl.trans (K_ (fun q=>Value.slice q (m.s.nn) (m.s.nc)) LQ))))<|aS (pf Y6 (56*q+2))<|lI (v := .agg (aA 54 (rv .i64 (d q)))) (by rfl) (by rfl) (mE _) (fun U E=>eB (x:=dn 56 (fun l=>mV (m.id l) (m.par l) (d l))) (y:=rv .i64 (d q)) rfl rfl (by kernel_rfl) (by kernel_rfl) (qg.aJ.below E (by have:=qg.lt; omega)) (i:=56*q+2) (by omega) (by omega) (fun jq hjq=>(eF (k:=q) (j:=2+jq) (by omega) (by omega)).trans ((fun jq _=>CY _ _ _ jq) jq hjq))) ?_;refine lI (v:=av v.o) (by rfl) (by rfl) (mE _) (fun U E=>bE (x:=dH v) rfl rfl (by kernel_rfl) (sH.aJ.below E (by have:=sH.lt; omega)) (i:=0) (by omega) (by omega) rfl) ?_;refine lI (v := .slice m.s.ga (m.s.gn) (m.s.gc)) (by rfl) (by rfl) (mE _) (fun U E=>bE (x:=nQ m) rfl rfl (by kernel_rfl) (S.aJ.below E (by have:=S.lt; omega)) (i:=19) (by omega) (by omega) rfl) ?_;obtain⟨gq4,YO⟩:=sI.wz (by omega);have sS:aY Fu B 96 5 (dz gq4 m.s.gn m.s.gc) m.s.gn (Ka m):=sI.fE (K_ (fun q=>Value.slice q m.s.gn m.s.gc) YO);refine Rp (pf gq4 (5*b)) (fun _=>fC 5 (hx:=(rfl.trans (K_ (fun q=>Value.slice q (m.s.gn) (m.s.gc)) YO))))<|aS (pf gq4 (5*b+3))<|lI (v:=av ((m.g b) 3)) (by rfl) (by rfl) (mE _) (fun U E=>bE (x:=Ka m) rfl rfl (by kernel_rfl) (sS.aJ.below E (by have:=sS.lt; omega)) (i:=5*b+3) (by omega) (by omega) (je (k:=b) (j:=3) (by omega) (by omega) rfl)) ?_;refine Rn<|RA.Q7 20 24 [21,22,23,24,25,26] [20,21,22,23,25,26] (by rfl) (by kernel_rfl) (by kernel_rfl) (by kernel_rfl) ?_ ?_
    ·refine mF<|dO (W9 (d q) v.o ((m.g b) 3) _) _ rfl ?_;intro w8 hb6;have s9:=Sb hb6;have⟨vW,yR,xZ,wE,zh,yS,zi,yI⟩:=lY hb6 S m64 xB sG sH tO qg sS;have b10:=iR hb6 b9 u;refine Ln ⟨s9.bP,?_⟩;refine Rn<|RA.still (by rfl) ?_;refine aS (.tuple #[.agg (aA 54 (rv .i64 ((bW (d q) v.o ((m.g b) 3)).1))),av ((bW (d q) v.o ((m.g b) 3)).2)])<|Rn<|RA.still (by rfl) ?_;refine aS (.agg (aA 54 (rv .i64 ((bW (d q) v.o ((m.g b) 3)).1))))<|Rn<|RA.still (by rfl) ?_;refine aS (av ((bW (d q) v.o ((m.g b) 3)).2))<|Rn<|RA.one 24 [25,26] (by rfl) (by kernel_rfl) (by kernel_rfl) ?_;refine mF<|oJ 54 (rv .i64 (fun _=>0)) fun g2 w9 nN xC oP z2 => ?_;have⟨zk,zS,zw,Aj,Bq,BQ,zT,BR⟩:=lY oP.bP vW yR xZ wE zh yS zi yI;have b11:=iR oP.bP b10 u;have xw:=gQ nN b10.size;have⟨aAO,aAP,amT,amU,aAQ⟩:=Du nN vW.lt yR.lt zh.lt zi.lt yI.lt;have zR:=xC.lt;refine Ln ⟨oP.bP,?_⟩;refine Rn<|RA.one 25 [26] (by rfl) (by kernel_rfl) (by kernel_rfl) ?_;refine jP<|dY xC 0 fun uE Bj s11 z3 => ?_;have Ak:aM uE g2 54 (rv .i64 ((bW (d q) v.o ((m.g b) 3)).1)) 67:=aO Bj;have gT:=gJ s11 xC.ty;have⟨BF,DY,Et,Bt,Dv,BZ,Eu,Gd⟩:=QE gT zk zS zw Aj Bq BQ zT BR;have b12:=s11.below b11 (m_ u b11.size) (by omega);refine Ln<|Rn<|RA.still (by rfl)<|aS (av ((bW (d q) v.o ((m.g b) 3)).2))<|Rn<|RA.nil ?_;have vG:aY uE B 69 56 (.slice m.s.na (m.s.nn) (m.s.nc)) m.s.nn (dn 56 (fun l=>mV (m.id l) (m.par l) (d l))):=Eu.fE (K_ (fun q=>Value.slice q m.s.nn m.s.nc) LQ.symm);have qO:aY uE B 96 5 (.slice m.s.ga (m.s.gn) (m.s.gc)) m.s.gn (Ka m):=Gd.fE (K_ (fun q=>Value.slice q m.s.gn m.s.gc) YO.symm);exact nL ⟨g2,(by omega),(by omega),(by omega),(by omega),N,L,(h5.trans ic),h3,(h4.trans ic),ic,(by rfl),ic,BF,DY,Et,Bt,Dv,qO,vG,BZ,Ak,b12⟩
    refine mF<|oJ 54 (rv .i64 (fun _=>0)) fun g3 Bg nO rO s12 z4 => ?_;have⟨tY,qz,qP,qQ,pV,qA,uR,vH⟩:=lY s12.bP S m64 xB sG sH tO qg sS;have b13:=iR s12.bP b9 u;have Gc:=gQ nO b9.size;have⟨ahz,ahA,awf,ahB,awg⟩:=Du nO S.lt m64.lt sH.lt qg.lt sS.lt;have Gr:=rO.lt;refine Ln ⟨s12.bP,?_⟩;refine Rn<|RA.one 20 [21,22,23,25,26] (by rfl) (by kernel_rfl) (by kernel_rfl) ?_;refine mF<|dO (W9 (d q) v.o ((m.g b) 3) _) _ rfl ?_;intro BD M8;have s13:=Sb M8;have⟨qR,tZ,zD,wG,wH,Ay,yV,uf,oQ⟩:=yQ M8 tY qz qP qQ pV qA uR vH rO;have b14:=iR M8 b13 u;refine Ln ⟨s13.bP,?_⟩;refine Rn<|RA.still (by rfl) ?_;refine aS (.tuple #[.agg (aA 54 (rv .i64 ((bW (d q) v.o ((m.g b) 3)).1))),av ((bW (d q) v.o ((m.g b) 3)).2)])<|Rn<|RA.still (by rfl) ?_;refine aS (.agg (aA 54 (rv .i64 ((bW (d q) v.o ((m.g b) 3)).1))))<|Rn<|RA.still (by rfl) ?_;refine aS (av ((bW (d q) v.o ((m.g b) 3)).2))<|Rn<|RA.one 25 [26] (by rfl) (by kernel_rfl) (by kernel_rfl) ?_;refine jP<|dY oQ 0 fun Bh wI D5 z5 => ?_;have yX:aM Bh g3 54 (rv .i64 ((bW (d q) v.o ((m.g b) 3)).1)) 67:=aO wI;have jC:=gJ D5 oQ.ty;have⟨wJ,Bu,Ca,zF,zG,Az,Bv,Dw⟩:=QE jC qR tZ zD wG wH Ay yV uf;have b15:=D5.below b14 (m_ u b14.size) (by omega);refine Ln<|Rn<|RA.still (by rfl)<|aS (av ((bW (d q) v.o ((m.g b) 3)).2))<|Rn<|RA.nil ?_;have AA:aY Bh B 69 56 (.slice m.s.na (m.s.nn) (m.s.nc)) m.s.nn (dn 56 (fun l=>mV (m.id l) (m.par l) (d l))):=Bv.fE (K_ (fun q=>Value.slice q m.s.nn m.s.nc) LQ.symm);have DC:aY Bh B 96 5 (.slice m.s.ga (m.s.gn) (m.s.gc)) m.s.gn (Ka m):=Dw.fE (K_ (fun q=>Value.slice q m.s.gn m.s.gc) YO.symm);exact nL ⟨g3,(by omega),(by omega),(by omega),(by omega),N,L,(h5.trans ic),h3,(h4.trans ic),ic,(by rfl),ic,wJ,Bu,Ca,zF,zG,DC,AA,Az,yX,b15⟩
   rintro f2 EU ⟨Q,lg8,arK,arL,arM,h6,h7,h8,h9,h10,h11,h12,IV,Dx,AB,zH,AJ,AL,Cb,Cc,Ev,Cg,b16⟩;refine aQ<|ay<|bA IV ?_;by_cases P:((bW (d q) v.o ((m.g b) 3)).2)=0
   ·refine Lv aD (kr P)<|aC<|aL<|Wk<|sN ?_;refine nP [0,1,2,3,5,4,6,7,8,9] [0,0,0,0,4,0,4,0,0,3] [(9,4,[4]),(9,6,[6])] fun MU mZ DZ => ?_;have⟨IK,Fw,Dy,Ew,Ce,Md,IX,Ey,OJ⟩:=yQ mZ Dx AB zH AJ AL Cb Cc Ev Cg;have b17:=iR mZ b16 u;refine eZ h6<|aS (pt p)<|aS (pt p)<|aS (pf p 18)<|eZ h11<|Rs (.slice m.s.na (m.s.nn) (m.s.nc)) (aR IK.aJ 18) ?_;refine Rs (.agg (aA 54 (rv .i64 ((bW (d q) v.o ((m.g b) 3)).1)))) (dZ OJ.aJ 0 (ha:=h12)) ?_;obtain⟨gq5,eq5⟩:=IX.wz (by omega);have FB:aY MU B 69 56 (dz gq5 m.s.nn m.s.nc) m.s.nn (dn 56 (fun l=>mV (m.id l) (m.par l) (d l))):=IX.fE (K_ (fun q=>Value.slice q m.s.nn m.s.nc) eq5);refine Rp (pf gq5 (56*q)) (fun _=>fC 56 (hx:=(rfl.trans (K_ (fun q=>Value.slice q (m.s.nn) (m.s.nc)) eq5))))<|aS (pf gq5 (56*q+2))<|jP<|L6 FB (56*q+2) fun CW Gw s16 z6 => ?_;have oz:=gJ s16 FB.Wq;have⟨OL,Kg,Ez,Me,Kh,Uo,OM⟩:=QD oz IK Fw Dy Ew Ce Md Ey;have b18:=s16.below b17 (m_ u b17.size) FB.wo.1;have abN:aY CW B 69 56 (dz gq5 m.s.nn m.s.nc) m.s.nn (dn 56 (fun l=>mV (m.id l) (m.par l) (aN d q ((bW (d q) v.o ((m.g b) 3)).1) l))):=Gw.congr (fun pq hp=>(Gp (k:=q) (j:=2) (by omega) (by omega) pq hp).trans (bZ (fun i H j hj=>Gy i H j hj) pq hp));refine Ln<|Rn<|bS<|sN<|Wl<|bA h10<|Lv (av ((k:Int)+1)) gu<|au (av ((k:Int)+1))<|Ln ?_;have OO:aY CW B 69 56 (.slice m.s.na (m.s.nn) (m.s.nc)) m.s.nn (dn 56 (fun l=>mV (m.id l) (m.par l) (aN d q ((bW (d q) v.o ((m.g b) 3)).1) l))):=abN.fE (K_ (fun q=>Value.slice q m.s.nn m.s.nc) eq5.symm);refine iA ⟨k+1,(aN d q (bW (d q) v.o (m.g b 3)).1),by omega,(Kj hRk ex1 (by first|exact P|exact Classical.not_not.1 P)),h6,h7,h9,ic,(h8.trans ic),OL,Kg,Ez,Me,Kh,Uo,OM,OO,b18⟩ ?_
    show(K-(intOf (av ((k:Int)+1))).toNat)<_;simp only[h4,intOf]; omega
   refine Lv aH (mO P)<|aC<|aP<|ay<|bA IV<|au (av ((bW (d q) v.o ((m.g b) 3)).2))<|aC<|Wr<|sR<|bO<|sR<|oG<|bO<|sR<|aK (av ((bW (d q) v.o ((m.g b) 3)).2)) ?_;have I:aX v=a:=(by unfold aX; omega);have T : ¬ 0<=m.aW.nW (aX v) v.bK:=(by rw[I]; exact j_ M);have ne2 : ¬ (m.aW.jy v.o v.of<0\/m.aW.g (EC m.aW v) 4≠0):=(by rw[X]; exact fun h=>h.elim V (fun h=>h Y));have ew:rQ m.aW v=eO (fun x=>bW x v.o (m.g b 3)) (vI m.aW (m.g b 2)) m.R K:=(by unfold rQ; rw[X,show iw m.aW.t m.aW.tn (m.aW.g b 2)=K from WL.symm]; rfl);have G:kF m.aW v=(bW (d q) v.o (m.g b 3)).2:=by
    unfold kF; rw[b_ T,b_ ne2,ew];have e1:=MW hRk ex1 P;rw[EA (k:=k+1) (by rw[e1]; exact P) K (by omega)]; exact e1
   exact⟨uD G.symm,b16,fun J=>L_ (G.symm.trans J) P⟩
  refine Lv aD (fM c54)<|aC<|aL<|Wx<|cZ<|iC<|dB<|sN<|aQ ?_;have hRK:eO (fun x=>bW x v.o (m.g b 3)) (vI m.aW (m.g b 2)) m.R K=(d,0):=by rw[show K=k by omega]; exact hRk
  refine nP [0,1,2,3,5,6,4,7,8,9,10] [0,0,0,0,4,0,0,4,0,0,3] [(10,4,[4]),(10,7,[7])] fun wZ oF Fv => ?_;have⟨OP,IL,OQ,Mf,IQ,Ml,O1⟩:=kU oF sQ qc tK xY uN yj yG;have b19:=iR oF b7 u;refine eZ N<|aS (pt p)<|aS (pt p)<|aS (pf p 19)<|eZ h5<|Rp (pf F 12) (fun _=>iO L 12)<|Rs (.slice m.s.ga (m.s.gn) (m.s.gc)) (aR OP.aJ 19) ?_;refine Rs (aG v.bK) (aR IQ.aJ 12) ?_;obtain⟨gq6,eq6⟩:=Ml.wz (by omega);have Kq:aY wZ B 96 5 (dz gq6 m.s.gn m.s.gc) m.s.gn (Ka m):=Ml.fE (K_ (fun q=>Value.slice q m.s.gn m.s.gc) eq6);refine Rp (pf gq6 (5*b)) (fun _=>fC 5 (hx:=(rfl.trans (K_ (fun q=>Value.slice q (m.s.gn) (m.s.gc)) eq6))))<|aS (pf gq6 (5*b+4))<|jP<|Gb Kq (5*b+4) (aG v.bK) fun w16 Y7 Qg z7 => ?_;have tV:=gJ Qg Kq.Wq;have⟨Q9,Uy,Uz,O4,abX,Ra⟩:=YD tV OP IL OQ Mf IQ O1;have b20:=Qg.below b19 (m_ u b19.size) Kq.wo.1;have O5:aY w16 B 96 5 (dz gq6 m.s.gn m.s.gc) m.s.gn (dn 5 (fun l=>lQ (aN m.g b (aN (m.g b) 4 v.bK) l))):=Y7.congr (fun pq hp=>(MG (k:=b) (j:=4) (by omega) (by omega) pq hp).trans (bZ (fun i H j hj=>Zf i H j hj) pq hp));refine Ln<|dJ<|aQ ?_;have O6:aY w16 B 96 5 (.slice m.s.ga (m.s.gn) (m.s.gc)) m.s.gn (dn 5 (fun l=>lQ (aN m.g b (aN (m.g b) 4 v.bK) l))):=O5.fE (K_ (fun q=>Value.slice q m.s.gn m.s.gc) eq6.symm);have abY:aY w16 B 26 1 (.slice (m.ra a) (m.rn a) (m.rc a)) (m.rn a) (rv .u64 (m.rq a)):=O4.1 a ha;have bra:=C.br a ha;refine W.nC [0,1,4,5,8,9,12,16,17,2,3,6,7,10,11,13,14,15,18,19] [0,0,1,0,0,0,1,0,0,0,0,1,0,4,2,2,0,0,0,3] (jk [26]) vS Fx.jk.trans (bR := [(19,2,[2]),(19,6,[6]),(19,11,[11]),(14,13,[13]),(15,13,[14,13]),(19,13,[13]),(15,14,[14]),(18,14,[14]),(19,14,[14]),(18,15,[15]),(19,15,[15])]) (by kernel_rfl) (by kernel_rfl) (by kernel_rfl) (by kernel_rfl) (by kernel_rfl) fun wt5 sU MV => ?_;have⟨UA,Y8,amE,UC,DF,IU,Y9,Rb⟩:=lY sU Q9 Uy Uz O4 abX Ra O6 abY;have DW:=iR sU b20 u;refine eZ N<|Rp (pt F) (fun _=>iO L 0)<|eZ N<|Rp (pt F) (fun _=>iO L 0)<|aS (pt p)<|aS (pf p 21)<|Rp (pf F 12) (fun _=>iO L 12)<|aS (pt p)<|aS (pf p 21)<|lI (v:=av v.o) (by rfl) (by rfl) (vS _) (fun U E=>bE (x:=dH v) rfl rfl (by kernel_rfl) (DF.nA E (by decide)).aJ (i:=0) (by omega) (by omega) rfl) ?_;refine Rp (av a) (fun _=>jK)<|lI (v:=av v.o) (by rfl) (by rfl) (vS _) (fun U E=>bE (x:=dH v) rfl rfl (by kernel_rfl) (DF.nA E (by decide)).aJ (i:=0) (by omega) (by omega) rfl) ?_;refine Rp (av a) (fun _=>jK)<|Rp (pf p (a+21)) (fun _=>jh 6 1)<|lI (v := .slice (m.ra a) (m.rn a) (m.rc a)) (by rfl) (by rfl) (vS _) (fun U E=>bE (x:=nQ m) rfl rfl (by kernel_rfl) (UA.nA E (by decide)).aJ (i:=a+21) (by omega) (by omega) (Aq _ (by omega))) ?_;refine Rs (aG v.bK) (aR DF.aJ 12) ?_;refine mF<|uz (vs := [(0,aG v.bK)]) (s:=1) (zc:=rv .u64 (fun _=>0)) (y:=bJ (fun j=>(rv .u64 (fun _=>0)) (j % 1)) (0*1) 1 (fun _=>aG v.bK)) (by rfl) rfl rfl underlying45 (by kernel_rfl) (by rfl) (by rfl) (by kernel_rfl) (by rw[aT (off:=0*1) (s:=1) (y:=fun _=>aG v.bK) rfl (bG (by rfl)) (by rfl)]; rfl) rfl fun g4 Fg yL Za s20 z8 => ?_;have⟨Rc,amF,Zb,Zc,amG,amH,UD⟩:=kU s20.bP UA Y8 amE UC IU Y9 Rb;have zl:=iR s20.bP DW u;have Uw:=gQ yL DW.size;have⟨awj,awk,awl⟩:=El yL UA.lt Y8.lt DF.lt;have awm:(.slice (m.ra a) (m.rn a) (m.rc a):Value).ownBlock≠some g4:=by rw[yL]; exact Rb.gW (A_ _)
  have TR:=Za.lt;refine Ln ⟨Fx.jk.jr s20.bP,?_⟩;refine mF<|xX (B:=B) (s:=1) (bytes:=8) (k:=(m.rn a)) (m:=1) (v := .slice (m.ra a) (m.rn a) (m.rc a)) (x:=rv .u64 (m.rq a)) (by rfl) rfl rfl rfl underlying45 (by kernel_rfl) (by kernel_rfl) rfl rfl UD Za.aJ (CZ (fun _=>rfl)) (by omega) (by omega) (by omega) (m_ u zl.size) fun g5 A En ho1 hg1 vE hlt1 => ?_;have tX:=yc hg1 UD;have⟨ahr,ace,acf,Mh,O7⟩:=xu tX Rc amF Zb amG amH;have acd:aY En B 26 1 (.slice (some ⟨g5,0,none⟩) ((m.rn a)+1) A) ((m.rn a)+1) (rv .u64 (aN (m.rq a) (m.rn a) v.bK)):=(ho1.congr (fun j hj=>Xb j hj));have Fh:Below B w En:=sO zl hg1 (m_ u zl.size) (fun q hq=>(UD.ge hq).1);have UF:yT En B 6 { m with ra:=aN m.ra a (some ⟨g5,0,none⟩),rn:=aN m.rn a (m.rn a+1),rc:=aN m.rc a A,rq:=aN m.rq a (aN (m.rq a) (m.rn a) v.bK) }:=yT.app Zc ha rfl rfl rfl rfl acd hg1 vE;refine Ln ⟨tX,?_⟩;refine Rp (pf p (a+21)) (fun _=>jh 6 1)<|jP<|jf ahr (a+21) (.slice (some ⟨g5,0,none⟩) ((m.rn a)+1) (A)) fun YF O8 Rf z9 => ?_;have Av:=gJ Rf ahr.ty;have⟨IW,Mi,ach,amI,Zd⟩:=xu Av ace acf Mh O7 UF;have Gs:=Rf.below Fh (m_ u Fh.size) (by omega);refine Ln<|dJ<|ay<|au (av 0)<|aC<|Wr<|aK (av 0) ?_;have I:aX v=a:=by unfold aX; omega
  have T : ¬ 0<=m.aW.nW (aX v) v.bK:=by rw[I]; exact j_ M
  have ne2 : ¬ (m.aW.jy v.o v.of<0\/m.aW.g (EC m.aW v) 4≠0):=by rw[X]; exact fun h=>h.elim V (fun h=>h Y)
  have ew:rQ m.aW v=eO (fun x=>bW x v.o (m.g b 3)) (vI m.aW (m.g b 2)) m.R K:=by unfold rQ; rw[X,show iw m.aW.t m.aW.tn (m.aW.g b 2)=K from WL.symm]; rfl
  have G:kF m.aW v=0:=by unfold kF; rw[b_ T,b_ ne2,ew,hRK]
  have eW:rQ m.aW v=(d,0):=ew.trans hRK;refine⟨uD G.symm,Gs,fun _=>⟨{ m with s := { m.s with ga:=m.s.ga,gn:=m.s.gn,gc:=m.s.gc },R:=d,g:=aN m.g b (aN (m.g b) 4 v.bK),ra:=aN m.ra a (some ⟨g5,0,none⟩),rn:=aN m.rn a (m.rn a+1),rc:=aN m.rc a A,rq:=aN m.rq a (aN (m.rq a) (m.rn a) v.bK) },?_,?_⟩⟩
  ·unfold nG vJ; rw[eW,I]; rw[X]; rfl
  exact { c:=O8.to (QX _ rfl _ _ _),n:=ach,g:=amI,tc:=IW,t:=Mi,r:=Zd,pB:=wY,tB:=IJ,bn:=bn,bg:=(by show m.s.gn<=1000000; omega),bt:=bt,br:=(fun i H=>by show aN m.rn a (m.rn a+1) i<=1000000; have:=brr i H; have:=brr a ha; unfold aN; split <;> omega) }
 refine Lv aH (mO Y)<|au aH<|aC<|aP<|ay<|au (av 12)<|aC<|Wr<|sR<|aK (av 12) ?_;have I:aX v=a:=by unfold aX; omega
 have T : ¬ 0<=m.aW.nW (aX v) v.bK:=by rw[I]; exact j_ M
 have G:kF m.aW v=12:=by unfold kF; rw[b_ T,X]; exact d_ (.inr Y)
 exact⟨uD G.symm,b4,fun J=>by rw[G]at J; cases J⟩
namespace Rt
def AP(L:iQ)(v:dA):Int:=if L.node v.node<0 then 9 else if 140737488355328<L.R (L.node v.node).toNat (aX v)+v.bF then 6 else 0
def Kw(L:iQ)(v:dA):iQ := { L with R:=aN L.R (L.node v.node).toNat (fZ (L.R (L.node v.node).toNat) (aX v) (L.R (L.node v.node).toNat (aX v)+v.bF)) }
def D7(L:iQ)(v:dA):(Nat->Int) × Int:=dX (L.R (L.node v.node).toNat) v.o v.dst v.bF
def uh(L:iQ)(v:dA):Int:=if L.node v.node<0 then 9 else if v.dst<1\/6<v.dst\/L.dF (v.dst-1).toNat=false then 10 else(D7 L v).2
def Ky(L:iQ)(v:dA):iQ := { L with R:=aN L.R (L.node v.node).toNat (D7 L v).1 }
noncomputable def fJ(L:iQ)(v:dA):Int :=
 if v.aI=1 then nE L v else if v.aI=2 then AP L v else if v.aI=3 then kW L v else if v.aI=4 then kF L v else if v.aI=5 then uh L v else 0
def kH(L:iQ)(v:dA):iQ :=
 if v.aI=1 then vF L v else if v.aI=2 then Kw L v else if v.aI=3 then oU L v else if v.aI=4 then nG L v else if v.aI=5 then Ky L v
 else if v.aI=6 then { L with dF:=aN L.dF (v.dst-1).toNat true } else { L with left:=aN L.left (aX v) true }
theorem UK{q a:Nat}{id par:Nat->Int}{R:Nat->Nat->Int}{x:Int} : ∀ i,i<m -> ∀ j,j<56->wu (fun b=>mV (id b) (par b) (R b)) q (dN (mV (id q) (par q) (R q)) (a+2) (av x)) i j=mV (id i) (par i) (aN R q (fZ (R q) a x) i) j:=fun i _ j _=>by
 unfold wu;by_cases h:i=q
 ·subst h; rw[d_ rfl,WT rfl]; unfold aN; rw[d_ rfl]
 ·rw[b_ h]; unfold aN; rw[b_ h]
theorem ahC(i:ow)(hi:m<6):dN (nQ i) m (.bool true)=nQ { i with s := { i.s with dF:=aN i.s.dF m true } }:=by
 funext p
 unfold dN nQ;by_cases h:p=m
 ·subst h; rw[d_ rfl,d_]; unfold dS; rw[d_ hi]; simp[aN]
 rw[b_ h];by_cases a:p<20
 ·rw[d_ a,d_ a]; unfold dS;by_cases b:p<6
  ·rw[d_ b,d_ b]; simp[aN,h]
  rw[b_ b,b_ b]
 rw[b_ a,b_ a]
theorem acj(i:ow)(hi:m<6)(d:k=m+6):dN (nQ i) k (.bool true)=nQ { i with s := { i.s with left:=aN i.s.left m true } }:=by
 subst d
 funext p
 unfold dN nQ;by_cases h:p=m+6
 ·subst h; rw[d_ rfl,d_]; unfold dS; rw[b_,d_]; simp[aN]
 rw[b_ h];by_cases a:p<20
 ·rw[d_ a,d_ a]; unfold dS;by_cases b:p<6
  ·rw[d_ b,d_ b]
  rw[b_ b,b_ b];by_cases c:p<12
  ·rw[d_ c,d_ c]; simp[aN,show ¬ p-6=m by omega]
  rw[b_ c,b_ c]
 rw[b_ a,b_ a]
theorem Zg(i:ow)(hi:m<6)(e:k=m+12)(x:Int):dN (nQ i) k (aG x)=nQ { i with s := { i.s with aF:=aN i.s.aF m x } }:=by
 subst e
 funext p
 unfold dN nQ;by_cases h:p=m+12
 ·subst h; rw[d_ rfl,d_]; unfold dS; rw[b_,b_,d_]; simp[aN]
 rw[b_ h];by_cases a:p<20
 ·rw[d_ a,d_ a]; unfold dS;by_cases b:p<6
  ·rw[d_ b,d_ b]
  rw[b_ b,b_ b];by_cases c:p<12
  ·rw[d_ c,d_ c]
  rw[b_ c,b_ c];by_cases d:p<18
  ·rw[d_ d,d_ d]; simp[aN,show ¬ p-12=m by omega]
  rw[b_ d,b_ d]
 rw[b_ a,b_ a]
theorem lD{v:dA}(h:dG v=true):1<=v.aI/\v.aI<=7:=by
 unfold dG at h;simp only[Q_]at h;have a:=h.2;unfold eU at a;split at a; · omega
 split at a; · omega
 split at a; · omega
 split at a; · omega
 split at a; · omega
 split at a; · omega
 have:=h_ a; omega
theorem nX{v:dA}(h:dG v=true)(c:v.aI=2\/v.aI=3\/v.aI=5):1<=v.bF/\v.bF<=1125899906842624:=by
 unfold dG at h;simp only[Q_]at h;have a:=h.2;unfold eU at a;rw[b_]at a;have b:sP v=true->1<=v.bF/\v.bF<=1125899906842624:=fun h=>by unfold sP at h; simpa using h
 split at a; · exact b a
 split at a; · rw[Q_]at a; exact b a.1
 rw[b_]at a;split at a; · rw[Q_]at a; exact b a.1
 omega
theorem M9{v:dA}(h:dG v=true)(c:v.aI=6) : ∃ b:Nat,b<6/\v.dst=(b:Int)+1:=by
 unfold dG at h;simp only[Q_]at h;have a:=h.2;unfold eU at a;rw[b_,b_,b_,b_,b_,d_ c]at a;unfold oO at a;rw[Q_]at a;exact gY a.1
end Rt
set_option maxRecDepth 20000 in
set_option maxHeartbeats 2000000 in
theorem amV(m:ow)(B p a:Nat)(v:dA)(w:World)(P:zU w B p m)(z:B<=w.heap.size)(ha:a<6)(ho:v.o=(a:Int)+1)(bnn:m.s.nn<=900)(bgg:m.s.gn<=900000)(brr : ∀ i,i<6->m.rn i<=900000)(hTN : ∀ x,m.node x=bT m.t m.tn x)(hDx : ∀ x,∃ D,D<=1000/\bT m.t m.tn (bU m.t m.tn D x)<0)(hv:jB v)(hmay:dG v=true)(hR : ∀ k,k<m.s.nn->iV (m.R k)=true) :
 Calls prog 61 #[(pt p),.agg (aA 14 (dH v))] w fun e w'=>e = .returned (av (fJ m.aW v))/\Below B w w'/\(fJ m.aW v=0 -> ∃ m',m'.aW=kH m.aW v/\zU w' B p m'):=by
 have wY:=P.pB;have IJ:=P.tB;have bn:=P.bn;have bg:=P.bg;have bt:=P.bt;have lpp:p<w.heap.size:=P.c.lt;have yC:m.tb<w.heap.size:=P.tc.lt;have hvk:=hv.aI;have hvt:=hv.dst;have hkr:=lD hmay;obtain⟨D,hD2,hD⟩:=hDx v.node;refine bX func61 152 ?_;refine ay<|oq fun H w1 kV T s1 z1 => ?_;have A:=bL s1.bP P;have U:=iR s1.bP (Below.refl B w) z;have tJ:=gQ kV (Below.refl B w).size;have vB:=T.lt;refine au (av 0)<|aC<|aQ<|ay<|au (pf H 8)<|Lv (.int .u8 (v.aI)) (aR T.aJ 8)<|aC<|Wb<|ay ?_;by_cases E:v.aI=1
 ·refine Lv aH (gU E)<|au aH<|aC<|aP<|ay<|au (pt p)<|Lv (.agg (aA 14 (dH v))) (dZ T.aJ 0)<|dO (ahl m B p a D v _ A (m_ z U.size) ha ho bnn hD hD2) _ rfl ?_;rintro w2 ⟨hb1,hr1⟩;have b2:Below B w w2:=U.trans hb1;refine au (av (nE m.aW v))<|aC<|Wr<|bO<|sR<|aK (av (nE m.aW v)) ?_;have l:fJ m.aW v=nE m.aW v:=by unfold fJ; rw[d_ E]
  have ec:kH m.aW v=vF m.aW v:=by unfold kH; rw[d_ E]
  exact⟨uD l.symm,b2,fun C=>by rw[ec]; exact hr1 (l.symm.trans C)⟩
 refine Lv aD (gX E)<|au aD<|aC<|aL<|ay ?_;by_cases F:v.aI=2
 ·refine Lv aH (gU F)<|au aH<|aC<|aP<|aQ ?_;have V:=A.c;have Y:=A.n;have X:=A.g;have aa:=A.tc;have ab:=A.t;have Z:=A.r;refine Wl<|au (pt p)<|au (pf H 9)<|Lv (aG v.node) (aR T.aJ 9) ?_;have Uv:H6 w1 p m := { c:=V.aJ,an:=Y.oI,ag:=X.oI,tc:=aa.aJ,YS:=ab.oI,ar:=fun i hi=>(Z.1 i hi).oI,bn:=(by show m.s.nn<=1000000; omega),bg:=bg,bt:=(by show m.tn<=1000000; omega),br:=P.br };refine dO (OE m p v.node _ Uv) _ rfl ?_;intro w3 hb2;have⟨m3,m4,m5,m6,m7,m8,m9⟩:=kU hb2 T V Y X aa ab Z;have b3:=iR hb2 U z;refine au (av (m.node v.node))<|aC<|aQ<|ay<|au (av (m.node v.node)) ?_;by_cases c23:(m.node v.node)<0
  ·refine Lv aH (fK c23)<|aC<|aP<|ay<|au (av 9)<|aC<|Wr<|sR<|bO<|sR<|aK (av 9) ?_;have N:aX v=a:=(by unfold aX; omega);have l:fJ m.aW v=9:=(by unfold fJ; rw[b_ E,d_ F]; unfold AP; exact d_ c23);exact⟨uD l.symm,b3,fun C=>by rw[l]at C; cases C⟩
  obtain⟨kn,hkq,S,_⟩:=Jm (m:=m) (x:=v.node) (by omega);have S:m.node v.node=(kn:Int):=S;have ekN:(m.aW.node v.node).toNat=kn:=by show(m.node v.node).toNat=kn; rw[S]; rfl
  refine Lv aD (fM c23)<|aC<|aL<|Wk<|sN<|aQ<|aQ ?_;have hRb:=qh (hR kn hkq) a (by omega);have hab:=nX hmay (.inl F);refine zu<|bI (pt p)<|bI (pt p)<|bI (pt p)<|bI (pf p 18)<|Qv (.slice m.s.na (m.s.nn) (m.s.nc)) (fun u d=>aR (m4.aJ.dr d) 18)<|iL (K_ (Value.int .i64) S)<|bI (pt H)<|Qv (av v.o) (fun u d=>aR (m3.aJ.dr d) 0)<|Qv (av a) (fun u d=>jK) ?_;obtain⟨O,eq1⟩:=m5.wz (by omega);have m10:aY w3 B 69 56 (dz O m.s.nn m.s.nc) m.s.nn (LP m):=m5.fE (K_ (fun q=>Value.slice q m.s.nn m.s.nc) eq1);refine Qv (pf O (56*kn)) (fun u d=>fC 56 (hx:=(rfl.trans (K_ (fun q=>Value.slice q (m.s.nn) (m.s.nc)) eq1))))<|bI (pf O (56*kn+2))<|bI (pf O (56*kn+2))<|Qv (pf O (a+56*kn+2)) (fun u d=>jh 6 1)<|Qv (av ((m.R kn) a)) (fun u d=>aR (m10.aJ.dr d) (a+56*kn+2) (je (k:=kn) (j:=a+2) (by omega) (by omega) (abB _ _ _ (by omega))))<|bI (pf H 11)<|Qv (av v.bF) (fun u d=>aR (m3.aJ.dr d) 11)<|Qv (av (((m.R kn) a)+v.bF)) (fun u d=>gu) ?_;by_cases c41:140737488355328<(((m.R kn) a)+v.bF)
  ·refine Qv aH (fun u d=>lK c41)<|Qn ?_;rintro _ ⟨J,rfl⟩;obtain⟨IC,xI⟩ : ∃ u,u=World.drewN w3 J:=⟨_,rfl⟩;rw[<- xI];have s3:eG w3.heap.size w3 IC:=(by rw[xI]; exact Sb (kQ w3 J));have b4:=iR s3.bP b3 z;clear xI;refine sN<|aP<|ay<|au (av 6)<|aC<|Wr<|sR<|bO<|sR<|aK (av 6) ?_;have N:aX v=a:=(by unfold aX; omega);have l:fJ m.aW v=6:=(by unfold fJ; rw[b_ E,d_ F]; unfold AP; rw[ekN,N,b_ (show ¬ m.aW.node v.node<0 from c23)]; exact d_ c41);exact⟨uD l.symm,b4,fun C=>by rw[l]at C; cases C⟩
  refine Qv aD (fun u d=>lM c41)<|Qn ?_;rintro _ ⟨J,rfl⟩;obtain⟨Ma,Aw⟩ : ∃ u,u=World.drewN w3 J:=⟨_,rfl⟩;rw[<- Aw];have s4:eG w3.heap.size w3 Ma:=by rw[Aw]; exact Sb (kQ w3 J)
  have⟨m18,m19,m20,mG,m22,m23,m24⟩:=kU s4.bP m3 m4 m6 m7 m8 m9 m10;have b5:=iR s4.bP b3 z;clear Aw;refine sN<|aL<|Wk<|sN ?_;refine nP [0,1,2,3,5,6,14,4,9,10,11,17,18,19,7,8,12,13,15,16,20,21] [0,0,0,0,4,0,0,4,0,0,0,0,0,4,0,4,0,0,0,0,0,3] [(21,4,[4]),(21,7,[7]),(21,13,[13]),(21,15,[15])] fun qN eX iM => ?_;have⟨mU,pK,pO,om,qb,qV,mY⟩:=kU eX m18 m19 m20 mG m22 m23 m24;have b6:=iR eX b5 z;refine aS (pt p)<|aS (pt p)<|aS (pt p)<|aS (pf p 18)<|eZ (K_ (Value.int .i64) S)<|aS (pt H)<|aS (pf H 11)<|Rs (.slice m.s.na (m.s.nn) (m.s.nc)) (aR pK.aJ 18) ?_;refine Rp (pf O (56*kn)) (fun _=>fC 56 (hx:=(rfl.trans (K_ (fun q=>Value.slice q (m.s.nn) (m.s.nc)) eq1))))<|aS (pf O (56*kn+2))<|aS (pf O (56*kn+2))<|Rp (pf O (56*kn)) (fun _=>fC 56 (hx:=(rfl.trans (K_ (fun q=>Value.slice q (m.s.nn) (m.s.nc)) eq1))))<|aS (pf O (56*kn+2))<|aS (pf O (56*kn+2))<|Rs (av v.o) (aR mU.aJ 0) ?_;refine Rp (av a) (fun _=>jK)<|Rp (pf O (a+56*kn+2)) (fun _=>jh 6 1)<|Rs (av ((m.R kn) a)) (aR mY.aJ (a+56*kn+2) (je (k:=kn) (j:=a+2) (by omega) (by omega) (abB _ _ _ (by omega)))) ?_;refine Rs (av v.bF) (aR mU.aJ 11) ?_;refine Rp (av (((m.R kn) a)+v.bF)) (fun _=>gu)<|Rp (pf O (a+56*kn+2)) (fun _=>jh 6 1)<|jP<|Gb mY (a+56*kn+2) (av (((m.R kn) a)+v.bF)) fun w4 m32 s6 z2 => ?_;have gT:=gJ s6 mY.Wq;have⟨pz,pQ,rE,sD,qM⟩:=xu gT pK pO om qb qV;have b7:=s6.below b6 (m_ z b6.size) mY.wo.1;have qW:aY w4 B 69 56 (dz O m.s.nn m.s.nc) m.s.nn (dn 56 (fun M=>mV (m.id M) (m.par M) (aN m.R kn (fZ (m.R kn) a (((m.R kn) a)+v.bF)) M))):=m32.congr (fun pq hp=>(MG (k:=kn) (j:=a+2) (by omega) (by omega) pq hp).trans (bZ (fun i hi j hj=>UK (a:=a) (x:=((m.R kn) a)+v.bF) (q:=kn) (id:=m.id) (par:=m.par) (R:=m.R) i hi j hj) pq hp));refine Ln<|Rn<|bS<|sN<|ay<|au (av 0)<|aC<|Wr<|aK (av 0) ?_;have N:aX v=a:=by unfold aX; omega
  have vk:aY w4 B 69 56 (.slice m.s.na (m.s.nn) (m.s.nc)) m.s.nn (dn 56 (fun M=>mV (m.id M) (m.par M) (aN m.R kn (fZ (m.R kn) a (((m.R kn) a)+v.bF)) M))):=qW.fE (K_ (fun q=>Value.slice q m.s.nn m.s.nc) eq1.symm);have l:fJ m.aW v=0:=by unfold fJ; rw[b_ E,d_ F]; unfold AP; rw[ekN,N,b_ (show ¬ m.aW.node v.node<0 from c23)]; exact b_ c41
  refine⟨uD l.symm,b7,fun _=>⟨{ m with R:=aN m.R kn (fZ (m.R kn) a (m.R kn a+v.bF)) },by symm; unfold kH; rw[b_ E,d_ F]; unfold Kw; rw[ekN,N]; rfl,?_⟩⟩;exact { c:=pz,n:=vk,g:=pQ,tc:=rE,t:=sD,r:=qM,pB:=wY,tB:=IJ,bn:=bn,bg:=bg,bt:=bt,br:=P.br }
 refine Lv aD (gX F)<|au aD<|aC<|aL<|ay ?_;by_cases I:v.aI=3
 ·refine Lv aH (gU I)<|au aH<|aC<|aP<|ay<|au (pt p)<|Lv (.agg (aA 14 (dH v))) (dZ T.aJ 0)<|dO (ahp m B p a D v _ A (m_ z U.size) ha ho bgg brr hTN hD hD2) _ rfl ?_;rintro w5 ⟨hb3,hr2⟩;have b8:Below B w w5:=U.trans hb3;refine au (av (kW m.aW v))<|aC<|Wr<|bO<|sR<|aK (av (kW m.aW v)) ?_;have l:fJ m.aW v=kW m.aW v:=by unfold fJ; rw[b_ E,b_ F,d_ I]
  have ec:kH m.aW v=oU m.aW v:=by unfold kH; rw[b_ E,b_ F,d_ I]
  exact⟨uD l.symm,b8,fun C=>by rw[ec]; exact hr2 (l.symm.trans C)⟩
 refine Lv aD (gX I)<|au aD<|aC<|aL<|ay ?_;by_cases L:v.aI=4
 ·refine Lv aH (gU L)<|au aH<|aC<|aP<|ay<|au (pt p)<|Lv (.agg (aA 14 (dH v))) (dZ T.aJ 0)<|dO (ahy m B p a  v _ A (m_ z U.size) ha ho bgg brr hTN hDx) _ rfl ?_;rintro w6 ⟨hb4,hr3⟩;have G:Below B w w6:=U.trans hb4;refine au (av (kF m.aW v))<|aC<|Wr<|bO<|sR<|aK (av (kF m.aW v)) ?_;have l:fJ m.aW v=kF m.aW v:=by unfold fJ; rw[b_ E,b_ F,b_ I,d_ L]
  have ec:kH m.aW v=nG m.aW v:=by unfold kH; rw[b_ E,b_ F,b_ I,d_ L]
  exact⟨uD l.symm,G,fun C=>by rw[ec]; exact hr3 (l.symm.trans C)⟩
 refine Lv aD (gX L)<|au aD<|aC<|aL<|ay ?_;by_cases Q:v.aI=5
 ·refine Lv aH (gU Q)<|au aH<|aC<|aP<|aQ ?_;have V:=A.c;have Y:=A.n;have X:=A.g;have aa:=A.tc;have ab:=A.t;have Z:=A.r;refine Wl<|au (pt p)<|au (pf H 9)<|Lv (aG v.node) (aR T.aJ 9) ?_;have abV:H6 w1 p m := { c:=V.aJ,an:=Y.oI,ag:=X.oI,tc:=aa.aJ,YS:=ab.oI,ar:=fun i hi=>(Z.1 i hi).oI,bn:=(by show m.s.nn<=1000000; omega),bg:=bg,bt:=(by show m.tn<=1000000; omega),br:=P.br };refine dO (OE m p v.node _ abV) _ rfl ?_;intro K hb5;have⟨pR,qx,qy,uF,sQ,qc,tK⟩:=kU hb5 T V Y X aa ab Z;have b10:=iR hb5 U z;refine au (av (m.node v.node))<|aC<|aQ<|ay<|au (av (m.node v.node)) ?_;by_cases c80:(m.node v.node)<0
  ·refine Lv aH (fK c80)<|aC<|aP<|ay<|au (av 9)<|aC<|Wr<|sR<|bO<|sR<|aK (av 9) ?_;have N:aX v=a:=(by unfold aX; omega);have l:fJ m.aW v=9:=(by unfold fJ; rw[b_ E,b_ F,b_ I,b_ L,d_ Q]; unfold uh; exact d_ c80);exact⟨uD l.symm,b10,fun C=>by rw[l]at C; cases C⟩
  obtain⟨kn,hkq,S,_⟩:=Jm (m:=m) (x:=v.node) (by omega);have S:m.node v.node=(kn:Int):=S;have ekN:(m.aW.node v.node).toNat=kn:=by show(m.node v.node).toNat=kn; rw[S]; rfl
  refine Lv aD (fM c80)<|aC<|aL<|Wk<|sN<|aQ<|aQ ?_;refine zu<|bI (pf H 10)<|Qv (av v.dst) (fun u d=>aR (pR.aJ.dr d) 10) ?_;by_cases c83:v.dst<1
  ·refine Qv aH (fun u d=>fK c83)<|bI aH<|bD<|bD<|bD<|bI aH<|bI aH<|bD<|bD<|bD<|bD<|bD<|bD<|bD<|bD<|bD<|bD<|bI aH<|Qn ?_;rintro _ ⟨J,rfl⟩;obtain⟨wq3,Ku⟩ : ∃ u,u=World.drewN K J:=⟨_,rfl⟩;rw[<- Ku];have s8:eG K.heap.size K wq3:=(by rw[Ku]; exact Sb (kQ K J));have b11:=iR s8.bP b10 z;clear Ku;refine sN<|aP<|ay<|au (av 10)<|aC<|Wr<|sR<|bO<|sR<|aK (av 10) ?_;have N:aX v=a:=(by unfold aX; omega);have l:fJ m.aW v=10:=(by unfold fJ; rw[b_ E,b_ F,b_ I,b_ L,d_ Q]; unfold uh; rw[b_ (show ¬ m.aW.node v.node<0 from c80)]; exact d_ (.inl c83));exact⟨uD l.symm,b11,fun C=>by rw[l]at C; cases C⟩
  refine Qv aD (fun u d=>fM c83)<|bI aD<|bI (pf H 10)<|Qv (av v.dst) (fun u d=>aR (pR.aJ.dr d) 10) ?_;by_cases c87:6<v.dst
  ·refine Qv aH (fun u d=>lK c87)<|bI aH<|bI aH<|bD<|bD<|bD<|bD<|bD<|bD<|bD<|bD<|bD<|bD<|bI aH<|Qn ?_;rintro _ ⟨J,rfl⟩;obtain⟨wq4,Kv⟩ : ∃ u,u=World.drewN K J:=⟨_,rfl⟩;rw[<- Kv];have s9:eG K.heap.size K wq4:=(by rw[Kv]; exact Sb (kQ K J));have b12:=iR s9.bP b10 z;clear Kv;refine sN<|aP<|ay<|au (av 10)<|aC<|Wr<|sR<|bO<|sR<|aK (av 10) ?_;have N:aX v=a:=(by unfold aX; omega);have l:fJ m.aW v=10:=(by unfold fJ; rw[b_ E,b_ F,b_ I,b_ L,d_ Q]; unfold uh; rw[b_ (show ¬ m.aW.node v.node<0 from c80)]; exact d_ (.inr (.inl c87)));exact⟨uD l.symm,b12,fun C=>by rw[l]at C; cases C⟩
  obtain⟨G,Zh,eb9⟩ : ∃ b:Nat,b<6/\v.dst=(b:Int)+1:=⟨(v.dst-1).toNat,by omega,by omega⟩;refine Qv aD (fun u d=>lM c87)<|bI aD<|bI aD<|bI (pt p)<|bI (pf H 10)<|Qv (av v.dst) (fun u d=>aR (pR.aJ.dr d) 10)<|Qv (av G) (fun u d=>jK)<|bI (pt p)<|bI (pt p)<|bI (pt p)<|Qv (pf p G) (fun u d=>jh 6 1) ?_;by_cases c98:(m.s.dF G)=true
  ·refine Qv aH (fun u d=>aR (qx.aJ.dr d) G ((nD _ (by omega) (iX _ (by omega))).trans (K_ Value.bool c98)))<|bI aD<|bI aD<|Qn ?_;rintro _ ⟨J,rfl⟩;obtain⟨wq5,UJ⟩ : ∃ u,u=World.drewN K J:=⟨_,rfl⟩;rw[<- UJ];have oP:eG K.heap.size K wq5:=(by rw[UJ]; exact Sb (kQ K J));have⟨pE,vV,m64,xB,sG,sH,sI⟩:=kU oP.bP pR qx qy uF sQ qc tK;have b13:=iR oP.bP b10 z;clear UJ;refine sN<|aL<|Wk<|sN<|yh (fun f w_ => ∃ g8:Nat,w.heap.size<=g8/\H≠g8/\p≠g8/\m.tb≠g8/\f 0=(pt p)/\f 1 = .agg (aA 14 (dH v))/\f 3=(pt H)/\f 4=av 0/\f 6=av (kn:Int)/\f 7=(pt g8)/\f 8=av ((dX (m.R kn) v.o v.dst v.bF).2)/\aM w_ H 14 (dH v) 30/\aM w_ p 27 (nQ m) 48/\aY w_ B 69 56 (.slice m.s.na (m.s.nn) (m.s.nc)) m.s.nn (LP m)/\aY w_ B 96 5 (.slice m.s.ga (m.s.gn) (m.s.gc)) m.s.gn (Ka m)/\aM w_ m.tb 1 (fun _ => .slice m.ta m.tn m.tc) 136/\aY w_ B 207 2 (.slice m.ta (m.tn) (m.tc)) m.tn (QN m.t)/\yT w_ B 6 m/\aM w_ g8 54 (rv .i64 ((dX (m.R kn) v.o v.dst v.bF).1)) 67/\Below B w w_) ?_ ?_
   ·-- region 21 draws
    refine W.Ko [0,1,2,3,5,9,11,13,4,6,7,8,10,12,14] [15,16,17,18,19,20,21] [0,0,0,0,1,0,0,0,1,0,1,0,1,0,1,2,0,0,0,2,3,0] Mk mE Mk.trans (bR := [(20,4,[4]),(20,8,[8]),(20,10,[10]),(20,12,[12]),(20,14,[14]),(16,15,[15]),(17,15,[16,15]),(18,15,[16,15]),(20,15,[15]),(21,15,[15]),(20,19,[19]),(21,19,[19]),(21,20,[20])]) (by kernel_rfl) (by kernel_rfl) (by kernel_rfl) (by kernel_rfl) (by kernel_rfl) (by kernel_rfl) fun Fu iZ rM => ?_;have⟨ac,tO,qg,sS,vW,yR,xZ⟩:=kU iZ pE vV m64 xB sG sH sI;have b14:=iR iZ b13 z;refine aS (pt p)<|aS (pt p)<|aS (pt p)<|aS (pf p 18)<|eZ (K_ (Value.int .i64) S)<|aS (pt H)<|aS (pf H 10)<|aS (pf H 11)<|lI (v := .slice m.s.na (m.s.nn) (m.s.nc)) (by rfl) (by rfl) (mE _) (fun u d=>bE (x:=nQ m) rfl rfl (by kernel_rfl) (tO.aJ.below d (by have:=tO.lt; omega)) (i:=18) (by omega) (by omega) rfl) ?_;obtain⟨OY,D6⟩:=qg.wz (by omega);have wE:aY Fu B 69 56 (dz OY m.s.nn m.s.nc) m.s.nn (LP m):=qg.fE (K_ (fun q=>Value.slice q m.s.nn m.s.nc) D6);refine Rp (pf OY (56*kn)) (fun _=>fC 56 (hx:=(rfl.trans (K_ (fun q=>Value.slice q (m.s.nn) (m.s.nc)) D6))))<|aS (pf OY (56*kn+2))<|lI (v := .agg (aA 54 (rv .i64 (m.R kn)))) (by rfl) (by rfl) (mE _) (fun u d=>eB (x:=LP m) (y:=rv .i64 (m.R kn)) rfl rfl (by kernel_rfl) (by kernel_rfl) (wE.aJ.below d (by have:=wE.lt; omega)) (i:=56*kn+2) (by omega) (by omega) (fun jq hjq=>(eF (k:=kn) (j:=2+jq) (by omega) (by omega)).trans ((fun jq _=>CY _ _ _ jq) jq hjq))) ?_;refine lI (v:=av v.o) (by rfl) (by rfl) (mE _) (fun u d=>bE (x:=dH v) rfl rfl (by kernel_rfl) (ac.aJ.below d (by have:=ac.lt; omega)) (i:=0) (by omega) (by omega) rfl) ?_;refine lI (v:=av v.dst) (by rfl) (by rfl) (mE _) (fun u d=>bE (x:=dH v) rfl rfl (by kernel_rfl) (ac.aJ.below d (by have:=ac.lt; omega)) (i:=10) (by omega) (by omega) rfl) ?_;refine lI (v:=av v.bF) (by rfl) (by rfl) (mE _) (fun u d=>bE (x:=dH v) rfl rfl (by kernel_rfl) (ac.aJ.below d (by have:=ac.lt; omega)) (i:=11) (by omega) (by omega) rfl) ?_;refine Rn<|RA.Q7 15 19 [16,17,18,19,20,21] [15,16,17,18,20,21] (by rfl) (by kernel_rfl) (by kernel_rfl) (by kernel_rfl) ?_ ?_
    ·refine mF<|dO (Xa (m.R kn) v.o v.dst v.bF _) _ rfl ?_;intro w8 hb6;have s12:=Sb hb6;have⟨zh,yS,zi,yI,xC,zk,zS⟩:=kU hb6 ac tO sS vW yR xZ wE;have b15:=iR hb6 b14 z;refine Ln ⟨s12.bP,?_⟩;refine Rn<|RA.still (by rfl) ?_;refine aS (.tuple #[.agg (aA 54 (rv .i64 ((dX (m.R kn) v.o v.dst v.bF).1))),av ((dX (m.R kn) v.o v.dst v.bF).2)])<|Rn<|RA.still (by rfl) ?_;refine aS (.agg (aA 54 (rv .i64 ((dX (m.R kn) v.o v.dst v.bF).1))))<|Rn<|RA.still (by rfl) ?_;refine aS (av ((dX (m.R kn) v.o v.dst v.bF).2))<|Rn<|RA.one 19 [20,21] (by rfl) (by kernel_rfl) (by kernel_rfl) ?_;refine mF<|oJ 54 (rv .i64 (fun _=>0)) fun g2 w9 nN zw s13 z3 => ?_;have⟨Aj,Bq,BQ,zT,BR,Bj,Ak⟩:=kU s13.bP zh yS zi yI xC zk zS;have b16:=iR s13.bP b15 z;have xw:=gQ nN b15.size;have⟨aAT,amT,amU,aAU⟩:=J2 nN zh.lt yS.lt yI.lt zS.lt;have zR:=zw.lt;refine Ln ⟨s13.bP,?_⟩;refine Rn<|RA.one 20 [21] (by rfl) (by kernel_rfl) (by kernel_rfl) ?_;refine jP<|dY zw 0 fun uE BF D5 z4 => ?_;have DY:aM uE g2 54 (rv .i64 ((dX (m.R kn) v.o v.dst v.bF).1)) 67:=aO BF;have jC:=gJ D5 zw.ty;have⟨Et,Bt,Dv,BZ,Eu,Gd,vG⟩:=QD jC Aj Bq BQ zT BR Bj Ak;have b17:=D5.below b16 (m_ z b16.size) (by omega);refine Ln<|Rn<|RA.still (by rfl)<|aS (av ((dX (m.R kn) v.o v.dst v.bF).2))<|Rn<|RA.nil ?_;have qO:aY uE B 69 56 (.slice m.s.na (m.s.nn) (m.s.nc)) m.s.nn (LP m):=vG.fE (K_ (fun q=>Value.slice q m.s.nn m.s.nc) D6.symm);exact nL ⟨g2,(by omega),(by omega),(by omega),(by omega),(by rfl),(by rfl),(by rfl),ic,((K_ (Value.int .i64) S).trans ic),(by rfl),ic,Et,Bt,qO,Dv,BZ,Eu,Gd,DY,b17⟩
    refine mF<|oJ 54 (rv .i64 (fun _=>0)) fun g3 Bg nO rO s15 z5 => ?_;have⟨tY,qz,qP,qQ,pV,qA,uR⟩:=kU s15.bP ac tO sS vW yR xZ wE;have b18:=iR s15.bP b14 z;have Gc:=gQ nO b14.size;have⟨ahz,ahA,awo,ahB⟩:=J2 nO ac.lt tO.lt vW.lt wE.lt;have Gr:=rO.lt;refine Ln ⟨s15.bP,?_⟩;refine Rn<|RA.one 15 [16,17,18,20,21] (by rfl) (by kernel_rfl) (by kernel_rfl) ?_;refine mF<|dO (Xa (m.R kn) v.o v.dst v.bF _) _ rfl ?_;intro BD M8;have s16:=Sb M8;have⟨vH,qR,tZ,zD,wG,wH,Ay,yV⟩:=lY M8 tY qz qP qQ pV qA uR rO;have b19:=iR M8 b18 z;refine Ln ⟨s16.bP,?_⟩;refine Rn<|RA.still (by rfl) ?_;refine aS (.tuple #[.agg (aA 54 (rv .i64 ((dX (m.R kn) v.o v.dst v.bF).1))),av ((dX (m.R kn) v.o v.dst v.bF).2)])<|Rn<|RA.still (by rfl) ?_;refine aS (.agg (aA 54 (rv .i64 ((dX (m.R kn) v.o v.dst v.bF).1))))<|Rn<|RA.still (by rfl) ?_;refine aS (av ((dX (m.R kn) v.o v.dst v.bF).2))<|Rn<|RA.one 20 [21] (by rfl) (by kernel_rfl) (by kernel_rfl) ?_;refine jP<|dY yV 0 fun Bh uf LU z6 => ?_;have oQ:aM Bh g3 54 (rv .i64 ((dX (m.R kn) v.o v.dst v.bF).1)) 67:=aO uf;have oz:=gJ LU yV.ty;have⟨wI,yX,wJ,Bu,Ca,zF,zG⟩:=QD oz vH qR tZ zD wG wH Ay;have b20:=LU.below b19 (m_ z b19.size) (by omega);refine Ln<|Rn<|RA.still (by rfl)<|aS (av ((dX (m.R kn) v.o v.dst v.bF).2))<|Rn<|RA.nil ?_;have Az:aY Bh B 69 56 (.slice m.s.na (m.s.nn) (m.s.nc)) m.s.nn (LP m):=zG.fE (K_ (fun q=>Value.slice q m.s.nn m.s.nc) D6.symm);exact nL ⟨g3,(by omega),(by omega),(by omega),(by omega),(by rfl),(by rfl),(by rfl),ic,((K_ (Value.int .i64) S).trans ic),(by rfl),ic,wI,yX,Az,wJ,Bu,Ca,zF,oQ,b20⟩
   rintro f1 EU ⟨g8,lg8,arK,arL,arM,h1,h2,h3,h4,h5,h6,h7,Bv,Dw,AA,DC,Dx,AB,zH,AJ,DW⟩;refine aQ<|ay<|bA h7 ?_;by_cases ahD:((dX (m.R kn) v.o v.dst v.bF).2)=0
   ·refine Lv aD (kr ahD)<|aC<|aL<|Wk<|sN ?_;refine nP [0,1,2,3,5,4,6,7,8,9] [0,0,0,0,4,0,4,0,0,3] [(9,4,[4]),(9,6,[6])] fun MU mZ DZ => ?_;have⟨Cb,Cc,Ev,Cg,IK,Fw,Dy⟩:=kU mZ Dw AA DC Dx AB zH AJ;have zl:=iR mZ DW z;refine eZ h1<|aS (pt p)<|aS (pt p)<|aS (pf p 18)<|eZ h5<|Rs (.slice m.s.na (m.s.nn) (m.s.nc)) (aR Cb.aJ 18) ?_;refine Rs (.agg (aA 54 (rv .i64 ((dX (m.R kn) v.o v.dst v.bF).1)))) (dZ Dy.aJ 0 (ha:=h6)) ?_;obtain⟨Y6,LQ⟩:=Cc.wz (by omega);have Ew:aY MU B 69 56 (dz Y6 m.s.nn m.s.nc) m.s.nn (LP m):=Cc.fE (K_ (fun q=>Value.slice q m.s.nn m.s.nc) LQ);refine Rp (pf Y6 (56*kn)) (fun _=>fC 56 (hx:=(rfl.trans (K_ (fun q=>Value.slice q (m.s.nn) (m.s.nc)) LQ))))<|aS (pf Y6 (56*kn+2))<|jP<|L6 Ew (56*kn+2) fun CW Ce M6 z7 => ?_;have tV:=gJ M6 Ew.Wq;have⟨IX,Ey,OJ,FB,Gw⟩:=xu tV Cb Ev Cg IK Fw;have Fh:=M6.below zl (m_ z zl.size) Ew.wo.1;have Kg:aY CW B 69 56 (dz Y6 m.s.nn m.s.nc) m.s.nn (dn 56 (fun M=>mV (m.id M) (m.par M) (aN m.R kn ((dX (m.R kn) v.o v.dst v.bF).1) M))):=Ce.congr (fun pq hp=>(Gp (k:=kn) (j:=2) (by omega) (by omega) pq hp).trans (bZ (fun i hi j hj=>Gy (r:=(dX (m.R kn) v.o v.dst v.bF).1) (q:=kn) (id:=m.id) (par:=m.par) (R:=m.R) i hi j hj) pq hp));refine Ln<|Rn<|bS<|sN<|ay<|au (av 0)<|aC<|Wr<|aK (av 0) ?_;have N:aX v=a:=(by unfold aX; omega);have eto : ¬ (v.dst<1\/6<v.dst\/m.aW.dF (v.dst-1).toNat=false):=fun h=>h.elim c83 (fun h=>h.elim c87 (fun h=>by rw[show(v.dst-1).toNat=G by omega]at h; rw[show m.aW.dF G=true from c98]at h; cases h))
    have eW:D7 m.aW v=dX (m.R kn) v.o v.dst v.bF:=(by unfold D7; rw[ekN]; rfl);have Ez:aY CW B 69 56 (.slice m.s.na (m.s.nn) (m.s.nc)) m.s.nn (dn 56 (fun M=>mV (m.id M) (m.par M) (aN m.R kn ((dX (m.R kn) v.o v.dst v.bF).1) M))):=Kg.fE (K_ (fun q=>Value.slice q m.s.nn m.s.nc) LQ.symm);have l:fJ m.aW v=0:=(by unfold fJ; rw[b_ E,b_ F,b_ I,b_ L,d_ Q]; unfold uh; rw[b_ (show ¬ m.aW.node v.node<0 from c80),b_ eto,eW]; exact ahD);refine⟨uD l.symm,Fh,fun _=>⟨{ m with R:=aN m.R kn (dX (m.R kn) v.o v.dst v.bF).1 },by symm; unfold kH; rw[b_ E,b_ F,b_ I,b_ L,d_ Q]; unfold Ky; rw[ekN,eW]; rfl,?_⟩⟩;exact { c:=IX,n:=Ez,g:=Ey,tc:=OJ,t:=FB,r:=Gw,pB:=wY,tB:=IJ,bn:=bn,bg:=bg,bt:=bt,br:=P.br }
   refine Lv aH (mO ahD)<|aC<|aP<|ay<|bA h7<|au (av ((dX (m.R kn) v.o v.dst v.bF).2))<|aC<|Wr<|sR<|bO<|sR<|aK (av ((dX (m.R kn) v.o v.dst v.bF).2)) ?_;have N:aX v=a:=(by unfold aX; omega);have eto : ¬ (v.dst<1\/6<v.dst\/m.aW.dF (v.dst-1).toNat=false):=fun h=>h.elim c83 (fun h=>h.elim c87 (fun h=>by rw[show(v.dst-1).toNat=G by omega]at h; rw[show m.aW.dF G=true from c98]at h; cases h))
   have eW:D7 m.aW v=dX (m.R kn) v.o v.dst v.bF:=(by unfold D7; rw[ekN]; rfl);have l:fJ m.aW v=(dX (m.R kn) v.o v.dst v.bF).2:=(by unfold fJ; rw[b_ E,b_ F,b_ I,b_ L,d_ Q]; unfold uh; rw[b_ (show ¬ m.aW.node v.node<0 from c80),b_ eto,eW]);exact⟨uD l.symm,DW,fun C=>by rw[l]at C; exact L_ C ahD⟩
  rw[R_]at c98;refine Qv aD (fun u d=>aR (qx.aJ.dr d) G ((nD _ (by omega) (iX _ (by omega))).trans (K_ Value.bool c98)))<|bI aH<|bI aH<|Qn ?_;rintro _ ⟨J,rfl⟩;obtain⟨wq6,amX⟩ : ∃ u,u=World.drewN K J:=⟨_,rfl⟩;rw[<- amX];have s20:eG K.heap.size K wq6:=by rw[amX]; exact Sb (kQ K J)
  have Gs:=iR s20.bP b10 z;clear amX;refine sN<|aP<|ay<|au (av 10)<|aC<|Wr<|sR<|bO<|sR<|aK (av 10) ?_;have N:aX v=a:=by unfold aX; omega
  have l:fJ m.aW v=10:=by unfold fJ; rw[b_ E,b_ F,b_ I,b_ L,d_ Q]; unfold uh; rw[b_ (show ¬ m.aW.node v.node<0 from c80)]; exact d_ (.inr (.inr (by rw[show(v.dst-1).toNat=G by omega]; exact c98)))
  exact⟨uD l.symm,Gs,fun C=>by rw[l]at C; cases C⟩
 refine Lv aD (gX Q)<|au aD<|aC<|aL<|ay ?_;by_cases acn:v.aI=6
 ·refine Lv aH (gU acn)<|au aH<|aC<|aP ?_;have V:=A.c;have Y:=A.n;have X:=A.g;have aa:=A.tc;have ab:=A.t;have Z:=A.r;obtain⟨G,Zh,eb9⟩:=M9 hmay acn;refine nP [0,1,4,5,6,2,3,7,8] [0,0,4,0,0,0,0,0,3] [(8,2,[2])] fun wZ oF Fv => ?_;have⟨OP,IL,OQ,Mf,IQ,Ml,Ux⟩:=kU oF T V Y X aa ab Z;have M7:=iR oF U z;refine aS (pt p)<|aS (pf H 10)<|aS (pt p)<|aS (pt p)<|aS (pt p)<|Rs (av v.dst) (aR OP.aJ 10) ?_;refine Rp (av G) (fun _=>jK)<|Rp (pf p G) (fun _=>jh 6 1)<|jP<|jf IL G aH fun w16 O1 Xc z8 => ?_;have tX:=gJ Xc IL.ty;have⟨Y7,Q9,Uy,Uz,O4⟩:=xu tX OQ Mf IQ Ml Ux;have TS:=Xc.below M7 (m_ z M7.size) (by omega);refine Ln<|Rn<|bS<|sN<|ay<|au (av 0)<|aC<|Wr<|aK (av 0) ?_;have N:aX v=a:=by unfold aX; omega
  have l:fJ m.aW v=0:=by unfold fJ; rw[b_ E,b_ F,b_ I,b_ L,b_ Q]
  refine⟨uD l.symm,TS,fun _=>⟨{ m with s := { m.s with dF:=aN m.s.dF G true } },by symm; unfold kH; rw[b_ E,b_ F,b_ I,b_ L,b_ Q,d_ acn]; rw[show(v.dst-1).toNat=G by omega]; rfl,?_⟩⟩;exact { c:=O1.to (ahC m Zh),n:=Y7,g:=Q9,tc:=Uy,t:=Uz,r:=O4,pB:=wY,tB:=IJ,bn:=bn,bg:=bg,bt:=bt,br:=P.br }
 refine Lv aD (gX acn)<|au aD<|aC<|aL<|ay<|Lv aH Qy<|au aH<|aC<|aP ?_;have V:=A.c;have Y:=A.n;have X:=A.g;have aa:=A.tc;have ab:=A.t;have Z:=A.r;refine nP [0,1,4,5,6,2,3,7,8] [0,0,4,0,0,0,0,0,3] [(8,2,[2])] fun wt5 sU MV => ?_;have⟨abX,Kt,Ra,O5,O6,abY,UA⟩:=kU sU T V Y X aa ab Z;have UG:=iR sU U z;refine aS (pt p)<|aS (pt H)<|aS (pt p)<|aS (pt p)<|aS (pf p 6)<|Rs (av v.o) (aR abX.aJ 0) ?_;refine Rp (av a) (fun _=>jK)<|Rp (pf p (a+6)) (fun _=>jh 6 1)<|jP<|jf Kt (a+6) aH fun Fg Y8 s24 z9 => ?_;have Av:=gJ s24 Kt.ty;have⟨UC,DF,IU,Y9,Rb⟩:=xu Av Ra O5 O6 abY UA;have UH:=s24.below UG (m_ z UG.size) (by omega);refine Ln<|Rn<|bS<|sN<|ay<|au (av 0)<|aC<|Wr<|aK (av 0) ?_;have N:aX v=a:=by unfold aX; omega
 have l:fJ m.aW v=0:=by unfold fJ; rw[b_ E,b_ F,b_ I,b_ L,b_ Q]
 refine⟨uD l.symm,UH,fun _=>⟨{ m with s := { m.s with left:=aN m.s.left a true } },by symm; unfold kH; rw[b_ E,b_ F,b_ I,b_ L,b_ Q,b_ acn]; rw[N]; rfl,?_⟩⟩;exact { c:=Y8.to (acj m ha rfl),n:=UC,g:=DF,tc:=IU,t:=Y9,r:=Rb,pB:=wY,tB:=IJ,bn:=bn,bg:=bg,bt:=bt,br:=P.br }
namespace Rt
structure amY(L:iQ)(T:Nat):Prop where
 nn:L.nn<=33
 gn:L.gn<=T
 rn : ∀ i,i<6->L.rn i<=T
 tn : ∀ x,L.node x=bT L.t L.tn x
 dx : ∀ x,∃ D,D<=1000/\bT L.t L.tn (bU L.t L.tn D x)<0
 iV : ∀ k,k<L.nn->iV (L.R k)=true
 kn:J4 L.aF
open Classical in
noncomputable def dP(L:iQ)(v:dA):Int :=
 if dG v=false then 1 else if qG L.aF v=true then 14 else if fq L.aF v=false then 13 else if L.dF (aX v)=false\/L.left (aX v)=true then 10 else fJ L v
def Na(L:iQ)(v:dA):iQ := { L with aF:=aN L.aF (aX v) (L.aF (aX v)+1) }
open Classical in
noncomputable def fF(L:iQ)(v:dA):iQ:=if dP L v=0 then Na (kH L v) v else L
theorem uT(L:iQ)(v:dA):(kH L v).aF=L.aF:=by
 unfold kH;split; · unfold vF; rfl
 split; · unfold Kw; rfl
 split; · unfold oU vJ; rfl
 split; · unfold nG vJ; rfl
 split; · unfold Ky; rfl
 split <;> rfl
end Rt
set_option maxRecDepth 20000 in
set_option maxHeartbeats 2000000 in
theorem Xe(m:ow)(B p T:Nat)(v:dA)(w:World)(L:zU w B p m)(z:jB v)(I:amY m.aW T)(hT:T<=900000:=by omega) :
 Calls prog 21 #[(pt p),.agg (aA 14 (dH v))] w fun e w' => ∃ p' m',e = .returned (.tuple #[(pt p'),av (dP m.aW v)])/\m'.aW=fF m.aW v/\zU w' B p' m'/\Below w.heap.size w w':=by
 have O:=L.c;have lpp:=O.lt;have hpB:=L.pB;refine bX func21 73 ?_;refine ay<|oq fun g1 w1 kV U s1 z1 => ?_;have⟨F,d,Y⟩:=iP s1.bP L O (Below.refl w.heap.size w);have tJ:=iy kV;have akx:=gD kV O.lt;have vB:=U.lt;refine au (.pointer none)<|au (av 0)<|aC<|aQ<|ay<|Lv (.agg (aA 14 (dH v))) (dZ U.aJ 0) ?_;by_cases l:(dG v)=true
 ·refine dO (MI _ _ z) aH (by rw[l]) ?_;intro w2 hb1;have⟨m4,m5,m6,Z⟩:=jv hb1 F d U Y;refine au aD<|aC<|aL<|Wk<|sN<|aQ<|aQ<|rA<|bI (pt p)<|bI (pt p)<|bI (pt p)<|bI (pf p 12)<|Qv (.agg (aA 6 (rv .u64 m.s.aF))) (fun W A=>dZ (m5.cb A) 12 (fun j S=>nD _ (by omega) (fA _ S)))<|Qv (.agg (aA 14 (dH v))) (fun W A=>dZ (m6.cb A) 0) ?_;by_cases u:(qG m.s.aF v)=true
  ·refine zo (fun _ _=>aaY m.s.aF _ _ z) aH (by rw[u])<|Qn ?_;intro OC xG;have⟨m7,b3⟩:=fB xG m4 Z;refine sN<|aP<|ay<|au (pt p)<|au (pt p)<|au (av 14)<|aC<|Wr<|sR<|aK (.tuple #[(pt p),av 14])<|have b:dP m.aW v=14:=(by unfold dP; rw[b_ (by rw[l]; decide)]; exact d_ u);have q:fF m.aW v=m.aW:=(by unfold fF; rw[b_ (by rw[b]; decide)]);⟨p,m,by rw[b],q.symm,m7,b3⟩
  rw[R_]at u;refine zo (fun _ _=>aaY m.s.aF _ _ z) aD (by rw[u])<|Qn ?_;intro wb2 FC;have⟨m10,m11,kY,b4⟩:=jv FC m4 m5 m6 Z;refine sN<|aL<|Wk<|sN<|aQ<|aQ<|rA<|bI (pt p)<|bI (pt p)<|bI (pt p)<|bI (pf p 12)<|Qv (.agg (aA 6 (rv .u64 m.s.aF))) (fun W A=>dZ (m11.cb A) 12 (fun j S=>nD _ (by omega) (fA _ S)))<|Qv (.agg (aA 14 (dH v))) (fun W A=>dZ (kY.cb A) 0) ?_;by_cases x:(fq m.s.aF v)=true
  ·refine zo (fun _ _=>WG m.s.aF v _ z I.kn) aH (by rw[x])<|bI aD<|Qn ?_;intro N FD;have⟨K,M,m15,G⟩:=jv FD m10 m11 kY b4;refine sN<|aL<|Wk<|sN<|aQ ?_;obtain⟨a,P,ho⟩:=gY (kM l);refine Wl<|au (pt g1)<|Lv (av v.o) (aR m15.aJ 0)<|Lv (av a) jK<|au (av a)<|aC<|aQ<|ay<|au (pt p)<|au (av a)<|au (pt p)<|au (pt p)<|au (pt p)<|Lv (pf p a) (jh 6 1) ?_;by_cases C:(m.s.dF a)=true
   ·refine Lv aH (aR M.aJ a ((nD _ (by omega) (iX _ (by omega))).trans (K_ Value.bool C)))<|au aD<|au aD<|au (pt p)<|au (av a)<|au (pt p)<|au (pt p)<|au (pf p 6)<|Lv (pf p (a+6)) (jh 6 1) ?_;by_cases D:(m.s.left a)=true
    ·refine Lv aH (aR M.aJ (a+6) ((nD _ (by omega) (fT _ (by omega) (by omega))).trans (K_ Value.bool D)))<|au aH<|aC<|aP<|ay<|au (pt p)<|au (pt p)<|au (av 10)<|aC<|Wr<|sR<|aK (.tuple #[(pt p),av 10]) ?_;have y:aX v=a:=(by unfold aX; omega);have b:dP m.aW v=10:=(by unfold dP; rw[b_ (by rw[l]; decide),b_ (by rw[show qG m.aW.aF v=false from u]; decide),b_ (by rw[show fq m.aW.aF v=true from x]; decide),y]; exact d_ (.inr D));have q:fF m.aW v=m.aW:=(by unfold fF; rw[b_ (by rw[b]; decide)]);exact⟨p,m,by rw[b],q.symm,K,G⟩
    rw[R_]at D;refine Lv aD (aR M.aJ (a+6) ((nD _ (by omega) (fT _ (by omega) (by omega))).trans (K_ Value.bool D)))<|au aD<|aC<|aL<|Wk<|sN<|ay<|au (pt p)<|lX (amv m p _ K.ldg (by have:=I.nn; have e:m.aW.nn=m.s.nn:=rfl; omega) K.bt) ?_;rintro e w3 ⟨f,F,J,R,hL2,Q⟩;refine⟨(pt f),J,?_⟩;clear J;have⟨m18,b6⟩:=fB Q m15 G;have E:amY F.aW T:=(by rw[R]; exact I);refine au (pt f)<|aC<|aQ ?_;have aAW:=hL2;refine Wl<|au (pt f)<|Lv (.agg (aA 14 (dH v))) (dZ m18.aJ 0)<|lX (amV F N.heap.size f a v _ aAW Q.size P ho (by have h9:F.s.nn<=33:=E.nn; omega) (m_ E.gn hT) (fun i hi=>m_ (E.rn i hi) hT) E.tn E.dx z l E.iV) ?_;rintro e X ⟨J,hbd,hL3⟩;refine⟨av (fJ m.aW v),by rw[<- R]; exact J,?_⟩;clear J;rw[R]at hL3;have b8:Below N.heap.size N X:=Q.trans hbd;have b7:Below w.heap.size w X:=b6.trans (hbd.mono (m_ (A_ _) G.size));have m19:zU X B p m:=K.up b8;refine au (av (fJ m.aW v))<|aC<|aQ<|ay<|au (av (fJ m.aW v)) ?_;by_cases H:(fJ m.aW v)=0
    ·refine Lv aD (kr H)<|aC<|aL<|Wk<|sN<|aQ ?_;obtain⟨d,hc3,k⟩:=hL3 H;have hMc:=k.c;have hMn:=k.n;have hMg:=k.g;have hMt:=k.tc;have aAY:=k.t;have hMr:=k.r;have ek3:d.s.aF=m.s.aF:=(by show d.aW.aF=_; rw[hc3,uT]; rfl);have hk3:=I.kn a P;have hk3:0<=d.s.aF a/\d.s.aF a<1099511627776:=(by rw[ek3]; exact hk3);have lp2:=k.pB;have sw1:=G.size;refine nP [0,1,2,3,4,5,8,9,10,6,7,11,12] [0,0,0,0,0,0,4,0,0,0,0,0,3] [(12,6,[6])] fun qN eX iM => ?_;have⟨V,mG,m22,m23,m24,mU,b9⟩:=kU eX hMc hMn hMg hMt aAY hMr b7;refine aS (pt f)<|aS (av a)<|aS (pt f)<|aS (pt f)<|aS (pf f 12)<|Rp (pf f (a+12)) (fun _=>jh 6 1)<|aS (pt f)<|aS (pt f)<|aS (pf f 12)<|Rs (aG (d.s.aF a)) (aR V.aJ (a+12) (nD _ (by omega) (fA _ (by omega) (by omega)))) ?_;refine Rp (aG (d.s.aF a+1)) (fun _=>gu)<|Rp (pf f (a+12)) (fun _=>jh 6 1)<|jP<|jf V (a+12) (aG (d.s.aF a+1)) fun w5 pK s8 z2 => ?_;have gT:=gJ s8 V.ty;have⟨pO,om,qb,qV,mY⟩:=xu gT mG m22 m23 m24 mU;have b10:=s8.below b9 b9.size (by omega);refine Ln<|dJ<|ay<|au (pt f)<|au (pt f)<|au (av 0)<|aC<|Wr<|aK (.tuple #[(pt f),av 0]) ?_;have y:aX v=a:=(by unfold aX; omega);have b:dP m.aW v=0:=by unfold dP; rw[b_ (by rw[l]; decide),b_ (by rw[show qG m.aW.aF v=false from u]; decide),b_ (by rw[show fq m.aW.aF v=true from x]; decide),y]; rw[b_ (show ¬ (m.aW.dF a=false\/m.aW.left a=true)from fun h=>h.elim (fun h=>by rw[show m.aW.dF a=true from C]at h; cases h) (fun h=>by rw[show m.aW.left a=false from D]at h; cases h))]; exact H
     have hfin:zU w5 N.heap.size f { d with s := { d.s with aF:=aN d.s.aF a (d.s.aF a+1) } } := { c:=pK.to (Zg d P rfl _),n:=pO,g:=om,tc:=qb,t:=qV,r:=mY,pB:=k.pB,tB:=k.tB,bn:=k.bn,bg:=k.bg,bt:=k.bt,br:=k.br };refine⟨f,{ d with s := { d.s with aF:=aN d.s.aF a (d.s.aF a+1) } },by rw[b],?_,hfin.mono (by have:=L.pB; have:=lpp; omega),b10⟩;unfold fF; rw[d_ b]; unfold Na; rw[y,uT,<- hc3,show m.aW.aF=d.s.aF from ek3.symm]; rfl
    refine Lv aH (mO H)<|aC<|aP<|ay<|au (pt p)<|au (av (fJ m.aW v))<|au (pt p)<|au (av (fJ m.aW v))<|aC<|Wr<|sR<|aK (.tuple #[(pt p),av (fJ m.aW v)]) ?_;have y:aX v=a:=(by unfold aX; omega);have b:dP m.aW v=fJ m.aW v:=by unfold dP; rw[b_ (by rw[l]; decide),b_ (by rw[show qG m.aW.aF v=false from u]; decide),b_ (by rw[show fq m.aW.aF v=true from x]; decide),y]; rw[b_ (show ¬ (m.aW.dF a=false\/m.aW.left a=true)from fun h=>h.elim (fun h=>by rw[show m.aW.dF a=true from C]at h; cases h) (fun h=>by rw[show m.aW.left a=false from D]at h; cases h))]
    have q:fF m.aW v=m.aW:=(by unfold fF; rw[b_ (by rw[b]; exact H)]);exact⟨p,m,by rw[b],q.symm,m19,b7⟩
   rw[R_]at C;refine Lv aD (aR M.aJ a ((nD _ (by omega) (iX _ (by omega))).trans (K_ Value.bool C)))<|au aH<|au aH<|bf<|bf<|bf<|bf<|bf<|bf<|bf<|au aH<|aC<|aP<|ay<|au (pt p)<|au (pt p)<|au (av 10)<|aC<|Wr<|sR<|aK (.tuple #[(pt p),av 10]) ?_;have y:aX v=a:=(by unfold aX; omega);have b:dP m.aW v=10:=(by unfold dP; rw[b_ (by rw[l]; decide),b_ (by rw[show qG m.aW.aF v=false from u]; decide),b_ (by rw[show fq m.aW.aF v=true from x]; decide),y]; exact d_ (.inl C));have q:fF m.aW v=m.aW:=(by unfold fF; rw[b_ (by rw[b]; decide)]);exact⟨p,m,by rw[b],q.symm,K,G⟩
  rw[R_]at x;refine zo (fun _ _=>WG m.s.aF v _ z I.kn) aD (by rw[x])<|bI aH<|Qn ?_;intro wb4 Nb;have⟨m32,b11⟩:=fB Nb m10 b4;refine sN<|aP<|ay<|au (pt p)<|au (pt p)<|au (av 13)<|aC<|Wr<|sR<|aK (.tuple #[(pt p),av 13]) ?_;have b:dP m.aW v=13:=by unfold dP; rw[b_ (by rw[l]; decide),b_ (by rw[show qG m.aW.aF v=false from u]; decide)]; exact d_ x
  have q:fF m.aW v=m.aW:=by unfold fF; rw[b_ (by rw[b]; decide)]
  exact⟨p,m,by rw[b],q.symm,m32,b11⟩
 rw[R_]at l;refine dO (MI v _ z) aD (by rw[l]) ?_;intro w6 hb2;have⟨pQ,b12⟩:=fB hb2 F Y;refine au aH<|aC<|aP<|ay<|au (pt p)<|au (pt p)<|au (av 1)<|aC<|Wr<|sR<|aK (.tuple #[(pt p),av 1]) ?_;have b:dP m.aW v=1:=by unfold dP; exact d_ l
 have q:fF m.aW v=m.aW:=by unfold fF; rw[b_ (by rw[b]; decide)]
 exact⟨p,m,by rw[b],q.symm,pQ,b12⟩
section
namespace Rt
structure Inv0(L:iQ)(T:Nat):Prop where
 GA:L.tn=L.nn
 nn:L.nn<=32
 IY : ∀ i,i<L.nn->L.t i 0=L.id i/\L.t i 1=L.par i
 GD : ∀ i j,i<j->j<L.nn->L.id i<L.id j
 Rj : ∀ i,i<L.nn->1<=L.id i
 top : ∀ i,i<L.nn->L.id i<7696581394432
 up : ∀ i,i<L.nn->L.par i=0 \/ ∃ j,j<L.nn/\L.id j=L.par i
 Zi : ∀ x,∃ D,D<=4/\bT L.t L.tn (bU L.t L.tn D x)<0
 gn:L.gn<=T
 rn : ∀ i,i<6->L.rn i<=T
 iV : ∀ k,k<L.nn->iV (L.R k)=true
 g47 : ∀ k,k<L.nn -> ∀ a,a<6->L.R k a<=140737488355328
 kn:J4 L.aF
theorem ilt(a:Int):a<0\/0<=a:=by omega
theorem kZ:0<=bT c m a <-> ∃ i,i<m/\c i 0=a:=by
 grind [iW,bT]
theorem zK:bT c m a<0 <-> ∀ i,i<m->c i 0≠a:=by
 grind [kZ,ilt]
theorem xJ(i : ∀ m j,m<k->j<k->c m 0=c j 0->m=j)(hi:m<k):bT c k (c m 0)=(m:Int):=by
 obtain⟨j,b,e,a⟩:=BU (kZ.2 ⟨m,hi,rfl⟩);rw[e,i j m b hi a]
theorem ED{t:Nat->Nat->Int}{tn:Nat}{x:Int} : ∀ j,bU t tn (j+1) x=bU t tn j (bU t tn 1 x)
 | 0=>rfl
 | j+1=>by
   show t (bT t tn (bU t tn (j+1) x)).toNat 1=t (bT t tn (bU t tn j (bU t tn 1 x))).toNat 1;rw[ED j]
section
variable {L:iQ} {T:Nat}
theorem Inv0.inj(h:Inv0 L T) : ∀ i j,i<L.nn->j<L.nn->L.id i=L.id j->i=j:=fun i j a b e=>by
 rcases Nat.lt_trichotomy i j with h1|h1|h1
 ·have:=h.GD i j h1 b; omega
 ·exact h1
 ·have:=h.GD j i h1 a; omega
theorem Inv0.amZ(h:Inv0 L T) : ∀ i j,i<L.tn->j<L.tn->L.t i 0=L.t j 0->i=j:=fun i j a b e=>by
 rw[h.GA]at a b;rw[(h.IY i a).1,(h.IY j b).1]at e;exact h.inj i j a b e
theorem Ib{P Q:Nat->Bool} : ∀ {n:Nat},(∀ i,i<n->P i=Q i)->gF P n=gF Q n
 | 0,_=>rfl
 | n+1,h=>by
   simp only[gF];rw[Ib (n:=n) fun i a=>h i (by omega),h n (by omega)]
theorem Inv0.node(h:Inv0 L T)(x:Int):L.node x=bT L.t L.tn x:=by
 grind [iQ.node,bT,h.GA,Ib,h.IY]
theorem Inv0.w(h:Inv0 L T):amY L T where
 nn:=by grind [h.nn]
 gn:=h.gn
 rn:=h.rn
 tn:=h.node
 dx:=fun x=>by obtain⟨D,a,b⟩:=h.Zi x; grind
 iV:=h.iV
 kn:=h.kn
theorem Inv0.mono(h:Inv0 L T)(b:T<=m):Inv0 L m := { h with gn:=m_ h.gn b,rn:=fun i c=>m_ (h.rn i c) b }
theorem Jo{a:Type}{f:Nat->a}{v:a}(h:m<k):dW f k v m=f m:=by grind [dW]
theorem gy{a:Type}{f:Nat->a}{v:a}:dW f k v k=v:=by grind [dW]
theorem Jp{a:Type}{f:Nat->a}{v:a}(h:k<m):dW f k v m=f (m-1):=by grind [dW]
theorem fU(i:k<=b)(hi:m<b+1):m=k \/ ∃ j,j<b/\(∀ {α:Type} (f:Nat->α) (v:α),dW f k v m=f j)/\(j<k->m=j)/\(k<=j->m=j+1):=by
 rcases Nat.lt_trichotomy m k with h|h|h
 ·grind [Jo]
 ·omega
 exact .inr ⟨m-1,by omega,fun f v=>Jp h,fun a=>by omega,fun _=>by omega⟩
theorem FE(a:j<m) : ∃ i,i<m+1/\i≠k /\ ∀ {α:Type} (f:Nat->α) (v:α),dW f k v i=f j:=by
 by_cases h:j<k
 ·exact⟨j,by omega,by omega,fun f v=>Jo h⟩
 exact⟨j+1,by omega,by omega,fun f v=>by grind [Jp]⟩
theorem O9(t:Nat->Nat->Int)(k:Nat)(id par:Int)(i:Nat):wF t k id par i=dW t k (fun j=>if j=0 then id else par) i:=by rfl
theorem Nc{P Q:Nat->Bool} : ∀ {n:Nat},(∀ i,i<n->P i=Q i)->down P n=down Q n
 | 0,_=>rfl
 | n+1,h=>by
   unfold down;rw[Nc (n:=n) fun i a=>h i (by omega),h n (by omega)]
structure uj(t t':Nat->Nat->Int)(tn:Nat)(id par:Int):Prop where
 u : ∀ i j,i<tn->j<tn->t i 0=t j 0->i=j
 u' : ∀ i j,i<tn+1->j<tn+1->t' i 0=t' j 0->i=j
 no : ∀ i,i<tn->t i 0≠id
 bP : ∀ i,i<tn -> ∃ j,j<tn+1/\t' j=t i
 TT : ∃ j,j<tn+1/\t' j 0=id/\t' j 1=par
 back : ∀ j,j<tn+1->t' j 0=id \/ ∃ i,i<tn/\t' j=t i
variable {t t':Nat->Nat->Int} {tn:Nat} {id par:Int}
theorem uj.find(h:uj t t' tn id par):0<=bT t' (tn+1) a<->(0<=bT t tn a\/a=id):=by
 rw[kZ,kZ];constructor
 ·rintro ⟨j,x,e⟩
  rcases h.back j x with b|⟨i,hi,b⟩
  ·omega
  exact .inl ⟨i,hi,by simp_all⟩
 rintro (⟨i,hi,e⟩|e)
 ·obtain⟨j,x,b⟩:=h.bP i hi;exact⟨j,x,by simp_all⟩
 grind [h.TT]
theorem uj.ahF(h:uj t t' tn id par)(hx:0<=bT t tn a):t' (bT t' (tn+1) a).toNat 1=t (bT t tn a).toNat 1:=by
 obtain⟨i,x,e⟩:=kZ.1 hx;obtain⟨j,f,b⟩:=h.bP i x;have c:bT t tn a=(i:Int):=by grind [xJ,h.u]
 have d:bT t' (tn+1) a=(j:Int):=by
  grind [xJ,h.u']
 simp_all
theorem uj.iter(h:uj t t' tn id par){x:Int} : ∀ K,(∀ i,i<K->0<=bT t tn (bU t tn i x))->bU t' (tn+1) K x=bU t tn K x
 | 0,_=>rfl
 | K+1,hk=>by
   have a:=uj.iter h K fun i b=>hk i (by omega);show t' (bT t' (tn+1) (bU t' (tn+1) K x)).toNat 1=t (bT t tn (bU t tn K x)).toNat 1;rw[a]; exact h.ahF (hk K (by omega))
theorem Db{t:Nat->Nat->Int}{tn:Nat}{x:Int} : ∀ D,bT t tn (bU t tn D x)<0 -> ∃ K,K<=D/\bT t tn (bU t tn K x)<0 /\ ∀ i,i<K->0<=bT t tn (bU t tn i x)
 | 0,h=>⟨0,A_ _,h,fun _ a=>L_ a (z_ _)⟩
 | D+1,h=>by
   by_cases d : ∀ i,i<D+1->0<=bT t tn (bU t tn i x)
   ·grind
   ·obtain⟨i,a⟩:=Classical.not_forall.1 d;obtain⟨a,e⟩:=Classical.not_imp.1 a
    rcases Nat.lt_or_ge i D with h3|h3
    ·-- an earlier end
     have : ∀ n,n<=D->(∃ j,j<=n/\bT t tn (bU t tn j x)<0) -> ∃ K,K<=n/\bT t tn (bU t tn K x)<0 /\ ∀ i,i<K->0<=bT t tn (bU t tn i x):=by
      intro n
      induction n with
      | zero=>simp_all
      | succ n ih =>
        rintro l ⟨j,g,k⟩;by_cases f : ∃ j,j<=n/\bT t tn (bU t tn j x)<0
        ·grind
        grind
     obtain⟨K,c,b⟩:=this i (by omega) ⟨i,A_ _,by omega⟩
     grind
    ·obtain rfl:i=D:=(by omega);obtain⟨K,c,b⟩:=Db (t:=t) (tn:=tn) (x:=x) i (by omega)
     grind
theorem uj.Zi(h:uj t t' tn id par)(v:1<=id)(z : ∀ i,i<tn->t i 1=0\/0<=bT t tn (t i 1))(y:par=0\/0<=bT t tn par)(A:bT t tn 0<0)(k : ∀ x,∃ D,D<=4/\bT t tn (bU t tn D x)<0)(l : ¬ H7 t tn par) :
 ∀ x,∃ D,D<=4/\bT t' (tn+1) (bU t' (tn+1) D x)<0:=by
 have w:bT t tn id<0:=zK.2 h.no;have B : ∀ x K,x≠id->bT t tn (bU t tn K x)<0->(∀ i,i<K->0<=bT t tn (bU t tn i x))->bT t' (tn+1) (bU t' (tn+1) K x)<0:=fun x K c g b=>by
  rw[h.iter K b]
  rcases ilt (bT t' (tn+1) (bU t tn K x))with h1|h1
  ·omega
  ·exfalso
   rcases h.find.1 h1 with h2|h2
   ·omega
   ·cases K with
    | zero=>exact c h2
    | succ K =>
      have m:=b K (by omega);obtain⟨i,a,e⟩:=kZ.1 m;have d:bU t tn (K+1) x=t i 1:=by
       show t (bT t tn (bU t tn K x)).toNat 1=t i 1;rw[<- e,xJ h.u a]; rfl
      grind
 intro x;by_cases c:x=id
 ·subst c;obtain⟨i,a⟩:=Classical.not_forall.1 l;obtain⟨s,a⟩:=Classical.not_imp.1 a;obtain⟨K,g,r,b⟩:=Db (t:=t) (tn:=tn) (x:=par) i (by omega);refine⟨K+1,by omega,?_⟩;have o:bU t' (tn+1) 1 x=par:=by
   obtain⟨j,n,f,d⟩:=h.TT;show t' (bT t' (tn+1) x).toNat 1=par;rw[<- f,xJ h.u' n]; exact d
  grind [ED]
 obtain⟨D,p,q⟩:=k x
 grind
end
end Rt
end
section
namespace Rt
section
variable {L:iQ} {T:Nat} {v:dA}
theorem ahG(h:pU c m d a=0):d≠0/\bT c m d<0/\(a=0\/0<=bT c m a)/\m<32 /\ ¬ H7 c m a:=by
 grind [pU]
theorem rR(h:dG v=true):1<=v.o/\v.o<=6/\1<=v.seq/\v.seq<1099511627776:=by
 have a:=kM h
 simp_all [Jh,uM]
theorem wK(h:dG v=true):lU v.o v.seq=1099511627776*v.o+v.seq:=by
 grind [rR,lU]
theorem ql(h:dG v=true):aX v<6:=by
 have:=rR h; grind [aX]
theorem ahH(ha:m<6)(b:0<=a)(h1:a<=1125899906842624):iV (fZ (fun _=>0) m a)=true:=by
 have e : ∀ p,fZ (fun _=>0) m a p=if p=m then a else 0:=fun p=>rfl;rw[mh];refine⟨fun p d => ?_,fun k c => ?_,?_⟩
 ·grind
 ·have f : ∀ i j,R (fZ (fun _=>0) m a) i j=0:=fun i j=>by grind [R]
  grind [L,G,F,C]
 grind [xE,G]
theorem AQ(h:Inv0 L T)(f:dG v=true)(K:v.aI=1)(c:nE L v=0) : ∃ k,k<=L.nn/\1<=lU v.o v.seq/\L.nn<32/\(0<=v.bF/\v.bF<=140737488355328)/\(v.node=0\/0<=bT L.t L.tn v.node) /\ ¬ H7 L.t L.tn v.node /\
 vF L v = { L with nn:=L.nn+1,id:=dW L.id k (lU v.o v.seq),par:=dW L.par k v.node,R:=dW L.R k (fZ (fun _=>0) (aX v) v.bF),tn:=L.tn+1,t:=wF L.t k (lU v.o v.seq) v.node } /\
 (∀ i j,i<j->j<L.nn+1->dW L.id k (lU v.o v.seq) i<dW L.id k (lU v.o v.seq) j)/\(∀ i,i<L.nn+1->wF L.t k (lU v.o v.seq) v.node i 0=dW L.id k (lU v.o v.seq) i/\wF L.t k (lU v.o v.seq) v.node i 1=dW L.par k v.node i) /\
 uj L.t (wF L.t k (lU v.o v.seq) v.node) L.tn (lU v.o v.seq) v.node:=by
 unfold nE at c;split at c
 ·omega
 rename_i h47;obtain⟨s,g,w,y,z⟩:=ahG c;have G:=rR f;have H:=wK f;have O:=ql f;have F:0<=v.bF/\v.bF<=140737488355328:=by
  grind [dG,eU]
 generalize hx:lU v.o v.seq=x at *;have U:1<=x:=by omega
 have m:down (fun i=>decide (x<L.t i 0)) L.tn=xH L.id L.nn x:=by
  grind [xH,h.GA,Nc,h.IY]
 have A:vF L v = { L with nn:=L.nn+1,id:=dW L.id (xH L.id L.nn x) x,par:=dW L.par (xH L.id L.nn x) v.node,R:=dW L.R (xH L.id L.nn x) (fZ (fun _=>0) (aX v) v.bF),tn:=L.tn+1,t:=wF L.t (xH L.id L.nn x) x v.node }:=by
  unfold vF; rw[hx,m]; rfl
 generalize hkk:xH L.id L.nn x=k at *;have d:k<=L.nn:=by rw[<- hkk]; exact CV _ _
 have p : ∀ i,i<L.nn->L.id i≠x:=fun i a e=>zK.1 g i (by grind [h.GA]) (by grind [h.IY]);have E : ∀ q,k<=q->q<L.nn->x<L.id q:=fun q b l=>by
  grind [Ow,xH]
 have D : ∀ q,q<k->L.id q<x:=fun q b=>by
  obtain⟨j,rfl⟩ : ∃ j,k=j+1:=⟨k-1,by omega⟩;have l:=Ox (P:=fun i=>decide (x<L.id i)) (n:=L.nn) (j:=j) hkk;have B : ¬ x<L.id j:=j_ l;have C:=p j (by omega);by_cases e:q=j
  ·grind
  ·have:=h.GD q j (by omega) (by omega); omega
 have M:L.nn<32:=by grind [h.GA]
 have N : ∀ i j,i<j->j<L.nn+1->dW L.id k x i<dW L.id k x j:=fun i j I hj=>by
  rcases fU d (show i<L.nn+1 by omega)with rfl|⟨q,hq,eq,q1,q2⟩
  ·grind [fU,gy]
  ·rcases fU d hj with rfl|⟨r,hr,er,r1,r2⟩
   ·grind [gy]
   ·rw[eq,er];exact h.GD q r (by omega) hr
 have Q : ∀ i,i<L.nn+1->wF L.t k x v.node i 0=dW L.id k x i/\wF L.t k x v.node i 1=dW L.par k v.node i:=fun i a=>by
  rw[O9]
  rcases fU d a with rfl|⟨q,hq,eq,_,_⟩
  ·grind [gy]
  simp_all [h.IY]
 have J : ∀ i j,i<L.nn+1->j<L.nn+1->dW L.id k x i=dW L.id k x j->i=j:=fun i j a hj e=>by
  rcases Nat.lt_trichotomy i j with b|b|b
  ·grind
  ·omega
  grind
 have S:uj L.t (wF L.t k x v.node) L.tn x v.node := {
  u:=h.amZ
  u':=fun i j a hj e=>by
   grind [h.GA]
  no:=zK.1 g
  bP:=fun i a=>by
   obtain⟨j,hj,_,e⟩:=FE (k:=k) a;exact⟨j,hj,by grind [O9]⟩
  TT:=⟨k,by grind [h.GA],by grind [gy],by grind [gy]⟩
  back:=fun j hj=>by
   grind [h.GA,fU,O9,gy] }
 grind
theorem Zj(h:Inv0 L T)(d:dG v=true)(p:v.aI=1)(n:nE L v=0):Inv0 (vF L v) (T+1):=by
 obtain⟨k,c,w,H,B,g,l,m,r,s,u⟩:=AQ h d p n;have C:=rR d;have G:=wK d;have K:=ql d;rw[m];generalize hx:lU v.o v.seq=x at *;have I : ∀ j,j<L.nn -> ∃ i,i<L.nn+1/\dW L.id k x i=L.id j:=fun j hj=>by
  obtain⟨i,a,_,e⟩:=FE (k:=k) hj
  grind
 have A:bT L.t L.tn 0<0:=zK.2 fun i a e=>by
  rw[h.GA]at a;rw[(h.IY i a).1]at e;have:=h.Rj i a; omega
 have J:v.node=0 \/ ∃ j,j<L.nn/\L.id j=v.node:=by
  grind [kZ,h.GA,h.IY]
 exact {
  GA:=by grind [h.GA]
  nn:=by assumption
  IY:=s
  GD:=r
  Rj:=fun i a=>by
   show 1<=dW L.id k x i
   rcases fU c a with rfl|⟨q,hq,eq,_,_⟩
   ·grind [gy]
   simp_all [h.Rj]
  top:=fun i a=>by
   show dW L.id k x i<_
   rcases fU c a with rfl|⟨q,hq,eq,_,_⟩
   ·rw[gy]; omega
   simp_all [h.top]
  up:=fun i a=>by
   show dW L.par k v.node i=0 \/ ∃ j,j<L.nn+1/\dW L.id k x j=dW L.par k v.node i;have F : ∀ y,(y=0 \/ ∃ j,j<L.nn/\L.id j=y)->(y=0 \/ ∃ j,j<L.nn+1/\dW L.id k x j=y):=fun y z=>z.imp id fun⟨j,hj,e⟩=>by
    grind
   rcases fU c a with rfl|⟨q,hq,eq,_,_⟩
   ·grind [gy]
   grind [h.up]
  Zi:=by
   show ∀ y,∃ D,D<=4/\bT (wF L.t k x v.node) (L.tn+1) (bU (wF L.t k x v.node) (L.tn+1) D y)<0;refine u.Zi w (fun i a => ?_) g A h.Zi l;have f:=a;rw[h.GA]at f;rw[(h.IY i f).2]
   rcases h.up i f with e|⟨j,hj,e⟩
   ·omega
   ·exact .inr (kZ.2 ⟨j,by grind [h.GA],by grind [h.IY]⟩)
  gn:=Nat.le_succ_of_le h.gn
  rn:=fun i a=>Nat.le_succ_of_le (h.rn i a)
  iV:=fun i a=>by
   grind [fU,gy,ahH,h.iV]
  g47:=fun i a b E=>by
   show dW L.R k _ i b<=_
   rcases fU c a with rfl|⟨q,hq,eq,_,_⟩
   ·rw[gy];show(if b=aX v then v.bF else 0)<=_;omega
   simp_all [h.g47]
  kn:=h.kn }
theorem Nf{b:iQ}(h:Inv0 L T)(g:b.nn=L.nn)(j:b.id=L.id)(l:b.par=L.par)(d:b.tn=L.tn)(e:b.t=L.t)(c:b.aF=L.aF)(f:b.gn<=m)(hr : ∀ i,i<6->b.rn i<=m)
 (n : ∀ k,k<L.nn->iV (b.R k)=true /\ ∀ a,a<6->b.R k a<=140737488355328):Inv0 b m where
 GA:=by grind [h.GA]
 nn:=by grind [h.nn]
 IY:=by simp_all [h.IY]
 GD:=by simp_all [h.GD]
 Rj:=by simp_all [h.Rj]
 top:=by simp_all [h.top]
 up:=by simp_all [h.up]
 Zi:=by rw[d,e]; exact h.Zi
 gn:=f
 rn:=hr
 iV:=by simp_all
 g47:=by simp_all
 kn:=by grind [h.kn]
def AU(x:Nat->Int):Prop:=iV x=true /\ ∀ a,a<6->x a<=140737488355328
theorem Kz{f:(Nat->Int)->(Nat->Int) × Int}{idx:Nat->Nat}{R:Nat->Nat->Int}{n:Nat}(d : ∀ x,AU x->(f x).2=0->AU (f x).1)(a : ∀ k,k<n->AU (R k)) : ∀ K k,k<n->AU ((eO f idx R K).1 k)
 | 0,k,hk=>a k hk
 | K+1,k,hk=>by
   have e:=Kz d a (idx:=idx) K;unfold eO;by_cases b:(eO f idx R K).2=0
   ·rw[d_ b];by_cases c:(f ((eO f idx R K).1 (idx K))).2=0
    ·rw[d_ c];show AU (if k=idx K then _ else _)
     grind
    simp_all
   simp_all
theorem ahI(h:AU X)(c:(bV X a d).2=0):AU (bV X a d).1:=by
 obtain⟨x,g,_,_,_,_,_,f,_,_,_,e⟩:=OT c;exact⟨f,fun b i=>by rw[e,jE _ _ _ _ (by omega)]; exact h.2 b i⟩
theorem ahJ(h:AU X)(c:(bW X a d).2=0):AU (bW X a d).1:=by
 obtain⟨x,g,_,_,_,_,f,_,_,_,e⟩:=OU c;exact⟨f,fun b i=>by rw[e,jE _ _ _ _ (by omega)]; exact h.2 b i⟩
theorem ahK(h:AU X)(i:(dX X a d e).2=0):AU (dX X a d e).1:=by
 obtain⟨x,b,k,l,_,_,_,_,_,_,g,j⟩:=Fy i;exact⟨g.iV,fun c f=>by rw[j,jE _ _ _ _ (by omega)]; exact h.2 c f⟩
theorem aco(ha:m<6)(h:AU X)(q:0<=d)(j : ¬ 140737488355328<X m+d):AU (fZ X m (X m+d)):=by
 have c:=(mh X).1 h.1;have e : ∀ p,fZ X m (X m+d) p=if p=m then X m+d else X p:=fun p=>rfl;have f : ∀ b,b<6->fZ X m (X m+d) b<=140737488355328:=fun b a=>by
  rw[e]; split
  ·omega
  ·exact h.2 b a
 refine⟨(mh _).2 ⟨fun p i => ?_,fun k g => ?_,?_⟩,f⟩
 ·have:=c.1 p i
  grind
 ·obtain⟨l,x,o⟩:=c.2.1 k g
  grind [C,F,abO,arE,R]
 grind [xE,G]
theorem Inv0.Rl(h:Inv0 L T) : ∀ k,k<L.nn->AU (L.R k):=fun k a=>⟨h.iV k a,h.g47 k a⟩
theorem Xf(h:Inv0 L T)(a:Nat) : ∀ i,i<6->aN L.rn a (L.rn a+1) i<=T+1:=fun i b=>by
 unfold aN;by_cases e:i=a
 ·subst e; rw[d_ rfl]; have:=h.rn i b; omega
 ·rw[b_ e]; have:=h.rn i b; omega
theorem Xg(h : ∀ k,k<L.nn->AU (L.R k))(hr:AU X) : ∀ k,k<L.nn->AU (aN L.R m X k):=fun k a=>by
 unfold aN; split
 ·exact hr
 ·exact h k a
theorem Inv0.Xh(h:Inv0 L T)(hx : ¬ L.node a<0):(L.node a).toNat<L.nn:=by
 grind [h.node,BU,h.GA]
theorem Zk(h:Inv0 L T)(a : ∀ k,k<L.nn->AU ((ug L v).1 k)):Inv0 (oU L v) (T+1):=by
 unfold oU vJ;generalize ug L v=W at a;exact Nf h rfl rfl rfl rfl rfl rfl (Nat.succ_le_succ h.gn) (Xf h _) a
theorem Zl(h:Inv0 L T)(a : ∀ k,k<L.nn->AU ((rQ L v).1 k)):Inv0 (nG L v) (T+1):=by
 unfold nG vJ;generalize rQ L v=W at a;exact Nf h rfl rfl rfl rfl rfl rfl (Nat.le_succ_of_le h.gn) (Xf h _) a
theorem acp(h:Inv0 L T)(d:dG v=true)(a:fJ L v=0):Inv0 (kH L v) (T+1):=by
 have k:=ql d;have c:=h.gn;have b : ∀ i,i<6->L.rn i<=T+1:=fun i j=>Nat.le_succ_of_le (h.rn i j);unfold fJ at a;unfold kH;by_cases k1:v.aI=1
 ·grind [Zj]
 by_cases k2:v.aI=2
 ·rw[b_ k1,d_ k2]at a ⊢;unfold AP at a;split at a; · omega
  rename_i n1;split at a; · omega
  rename_i n2;have l:=nX d (.inl k2);exact Nf h rfl rfl rfl rfl rfl rfl (Nat.le_succ_of_le c) b (Xg h.Rl (aco k (h.Rl _ (h.Xh n1)) (by omega) n2))
 by_cases e:v.aI=3
 ·grind [ug,Kz,ahI,h.Rl,Zk]
 by_cases f:v.aI=4
 ·grind [rQ,Kz,ahJ,h.Rl,Zl]
 by_cases g:v.aI=5
 ·rw[b_ k1,b_ k2,b_ e,b_ f,d_ g]at a ⊢;unfold uh at a;split at a; · omega
  rename_i n1;split at a; · omega
  exact Nf h rfl rfl rfl rfl rfl rfl (Nat.le_succ_of_le c) b (Xg h.Rl (ahK (h.Rl _ (h.Xh n1)) a))
 rw[b_ k1,b_ k2,b_ e,b_ f,b_ g];split
 ·exact Nf h rfl rfl rfl rfl rfl rfl (Nat.le_succ_of_le c) b h.Rl
 exact Nf h rfl rfl rfl rfl rfl rfl (Nat.le_succ_of_le c) b h.Rl
theorem EF(h:Inv0 L T):Inv0 (fF L v) (T+1):=by
 unfold fF;by_cases a:dP L v=0
 ·rw[d_ a];unfold dP at a;split at a; · omega
  rename_i h1;split at a; · omega
  split at a; · omega
  rename_i h3;split at a; · omega
  have b:dG v=true:=by simp_all
  have c:fq L.aF v=true:=by simp_all
  have e:=acp h b a;have k:=Jh b;refine { e with kn:=fun i f => ?_ };have d:(Na (kH L v) v).aF=aN L.aF (aX v) (L.aF (aX v)+1):=by grind [Na,uT]
  rw[d];unfold fq at c;simp only[Q_,decide_eq_true_eq]at c;have g:=h.kn;unfold aN;split
  ·grind [aX]
  exact g i f
 grind [h.mono]
end
end Rt
end
section
namespace Rt
def Pb(t:Nat->Nat->Int)(tn:Nat)(x y:Int):Nat->Int
 | 0=>0
 | k+1=>Pb t tn x y k+if bU t tn k x=y then 1 else 0
def IZ(t:Nat->Nat->Int)(tn:Nat)(x y:Int):Int:=Pb t tn x y (iw t tn x)
def zL(t:Nat->Nat->Int)(tn:Nat)(g:Nat->Int)(y:Int):Int:=if g 4=0 then g 3*IZ t tn (g 2) y else 0
def sV(t:Nat->Nat->Int)(tn:Nat)(g:Nat->Nat->Int)(y:Int):Nat->Int
 | 0=>0
 | q+1=>sV t tn g y q+zL t tn (g q) y
structure EG(L:iQ):Prop where
 us : ∀ k,k<L.nn->sJ (L.R k)=sV L.t L.tn L.g (L.id k) L.gn
 gb : ∀ q,q<L.gn->0<=bT L.t L.tn (L.g q 2)/\1<=L.g q 0/\L.g q 0<=6/\0<=L.g q 3/\L.g q 3<=1125899906842624
structure wL(v:dA):Prop where
 bF:v.bF<=65536
 bK:v.bK<=256
structure Zm(L:iQ)(T:Nat):Prop where
 kt : ∀ i,i<6->L.aF i<=T
 rb : ∀ k,k<L.nn -> ∀ a,a<54->L.R k a<=2097152*T
 rq : ∀ i,i<6 -> ∀ j,j<L.rn i->L.rq i j<=256
structure UL(L:iQ)(T:Nat):Prop extends Inv0 L T where
 s:EG L
 b:Zm L T
section
variable {L:iQ} {T:Nat} {v:dA}
theorem Pf{P:Nat->Bool} : ∀ {n i:Nat},i<Gx P n->P i=true
 | 0,i,h=>L_ h (z_ _)
 | n+1,i,h=>by
   unfold Gx at h;by_cases e:Gx P n=n/\P n=true
   ·rw[d_ e]at h;by_cases a:i=n
    ·simp_all
    ·exact Pf (n:=n) (by omega)
   ·rw[b_ e]at h; exact Pf h
theorem FH{i:Nat}{x:Int}(h:i<iw c m x):0<=bT c m (bU c m i x):=h_ (Pf (P:=fun i=>decide (0<=bT c m (bU c m i x))) h)
theorem Dc{t t':Nat->Nat->Int}{tn b:Nat}{g a:Nat->Nat->Int}{y c:Int} : ∀ n,(∀ q,q<n->zL t' b (a q) c=zL t tn (g q) y)->sV t' b a c n=sV t tn g y n
 | 0,_=>rfl
 | n+1,h=>by unfold sV; rw[Dc n fun q d=>h q (by omega),h n (by omega)]
theorem Ng{t:Nat->Nat->Int}{tn:Nat}{g:Nat->Nat->Int}{y:Int} : ∀ n,(∀ q,q<n->zL t tn (g q) y=0)->sV t tn g y n=0
 | 0,_=>rfl
 | n+1,h=>by unfold sV; rw[Ng n fun q a=>h q (by omega),h n (by omega)]; rfl
theorem Rm{t:Nat->Nat->Int}{tn k:Nat}{g:Nat->Nat->Int}{x:Nat->Int}{y:Int} : ∀ n,k<n->sV t tn (aN g k x) y n=sV t tn g y n-zL t tn (g k) y+zL t tn x y
 | 0,h=>L_ h (z_ _)
 | n+1,h=>by
   unfold sV;by_cases e:k=n
   ·grind [Dc,aN]
   ·rw[Rm n (by omega)]
    grind [aN]
theorem Ro{t:Nat->Nat->Int}{tn k:Nat}{g:Nat->Nat->Int}{x:Nat->Int}{y:Int} : ∀ n,k<=n->sV t tn (dW g k x) y (n+1)=sV t tn g y n+zL t tn x y
 | 0,h=>by
   obtain rfl:k=0:=(by omega);rfl
 | n+1,h=>by
   by_cases e:k=n+1
   ·grind [sV,gy,Dc,Jo]
   ·show sV t tn (dW g k x) y (n+1)+zL t tn (dW g k x (n+1)) y=sV t tn g y n+zL t tn (g n) y+_;rw[Ro n (by omega),Jp (by omega),Nat.add_sub_cancel]; omega
def acr(idx:Nat->Nat)(k:Nat):Nat->Int
 | 0=>0
 | j+1=>acr idx k j+if idx j=k then 1 else 0
theorem GH{f:(Nat->Int)->(Nat->Int) × Int}{idx:Nat->Nat}{R:Nat->Nat->Int}{d:Int}(c : ∀ x,(f x).2=0->sJ (f x).1=sJ x+d) : ∀ K,(eO f idx R K).2=0 -> ∀ k,sJ ((eO f idx R K).1 k)=sJ (R k)+d*acr idx k K
 | 0,_,k=>by show sJ (R k)=sJ (R k)+d*0; omega
 | K+1,h,k=>by
   unfold eO at h ⊢;by_cases a:(eO f idx R K).2=0
   ·have e:=GH c K a k;rw[d_ a]at h ⊢;by_cases b:(f ((eO f idx R K).1 (idx K))).2=0
    ·rw[d_ b]
     grind [aN,acr]
    simp_all
   simp_all
theorem UM{t:Nat->Nat->Int}{tn k:Nat}{x y:Int}{idx:Nat->Nat} : ∀ K,(∀ i,i<K->(idx i=k<->bU t tn i x=y))->acr idx k K=Pb t tn x y K
 | 0,_=>rfl
 | K+1,h=>by
   unfold acr Pb;rw[UM K fun i a=>h i (by omega)]
   simp_all
theorem Pg(h:Inv0 L T)(c:k<L.nn)(hi:m<iw L.t L.tn a):vI L a m=k<->bU L.t L.tn m a=L.id k:=by
 obtain⟨j,b,e,x⟩:=BU (FH hi)
 grind [h.GA,vI,h.node,h.IY,h.inj]
theorem Rq(ha:m<6):sJ (fZ X m d)=sJ X:=by
 grind [C,jE,F,sJ]
theorem acs(h:dG v=true)(a:v.aI=4):1<=v.bK:=by
 grind [dG,eU]
theorem ana(a:k<=m)(P:(Nat->Int)->Prop)(h : ∀ q,q<m->P (c q))(hx:P X) : ∀ q,q<m+1->P (dW c k X q):=fun q b=>by
 rcases fU a b with rfl|⟨j,hj,e,_,_⟩
 ·rw[gy]; exact hx
 ·rw[e]; exact h j hj
attribute [local irreducible] iw in
theorem UN(j:Inv0 L T)(h:EG L)(e:dG v=true)(b:v.aI=3)(a:kW L v=0):EG (oU L v):=by
 unfold kW at a;split at a; · omega
 split at a; · omega
 rename_i hp;have c:=rR e;have l:=nX e (.inr (.inl b));unfold oU vJ;have p:=GH (f:=fun x=>bV x v.o v.bF) (idx:=vI L v.node) (R:=L.R) (d:=v.bF) (fun x r=>by grind [OT]) _ a;refine⟨fun k b => ?_,fun q n => ?_⟩
 ·show sJ ((ug L v).1 k)=sV L.t L.tn (dW L.g (down (fun i=>Jl v (L.g i)) L.gn) (uS v)) (L.id k) (L.gn+1);rw[Ro _ (CV _ _)];have:=p k;rw[show zL L.t L.tn (uS v) (L.id k)=v.bF*IZ L.t L.tn v.node (L.id k)from rfl,<- h.us k b];unfold IZ;rw[<- UM (idx:=vI L v.node) (k:=k) _ fun i m=>Pg j b m];exact this
 exact ana (CV _ _) (fun y=>0<=bT L.t L.tn (y 2)/\1<=y 0/\y 0<=6/\0<=y 3/\y 3<=1125899906842624) h.gb
  ⟨FH (i:=0) (x:=v.node) (by omega),c.1,c.2.1,by show 0<=v.bF; omega,l.2⟩ q n
attribute [local irreducible] iw in
theorem UO(r:Inv0 L T)(h:EG L)(l:dG v=true)(b:v.aI=4)(a:kF L v=0):EG (nG L v):=by
 unfold kF at a;split at a; · omega
 split at a; · omega
 rename_i m;have w:=acs l b;have u:0<=L.jy v.o v.of:=by omega
 have z:L.g (EC L v) 4=0:=by
  omega
 have c:EC L v<L.gn:=by
  rcases iW (fun i=>decide (L.g i 0=v.o)&&decide (L.g i 1=v.of)) L.gn with ⟨k,b,e,_⟩|⟨e,_⟩
  ·have j:L.jy v.o v.of=(k:Int):=e
   grind [EC]
  ·have j:L.jy v.o v.of = -1:=e;omega
 unfold nG vJ rQ;unfold rQ at a;generalize EC L v=q at *;have n:=GH (f:=fun x=>bW x v.o (L.g q 3)) (idx:=vI L (L.g q 2)) (R:=L.R) (d := -(L.g q 3)) (fun x y=>by grind [OU]) _ a;have s:=h.gb q c;refine⟨fun k b => ?_,fun p m => ?_⟩
 ·show sJ ((eO _ _ _ _).1 k)=sV L.t L.tn (aN L.g q (aN (L.g q) 4 v.bK)) (L.id k) L.gn;rw[Rm _ c,<- h.us k b,n k]
  grind [zL,aN,IZ,UM,Pg]
 show 0<=bT L.t L.tn (aN L.g q (aN (L.g q) 4 v.bK) p 2)/\1<=aN L.g q (aN (L.g q) 4 v.bK) p 0/\aN L.g q (aN (L.g q) 4 v.bK) p 0<=6/\0<=aN L.g q (aN (L.g q) 4 v.bK) p 3/\aN L.g q (aN (L.g q) 4 v.bK) p 3<=1125899906842624;by_cases e:p=q
 ·simp_all [aN]
 simp_all [aN,h.gb]
theorem Ph{a:iQ}(h:EG L)(b:a.nn=L.nn)(c:a.id=L.id)(d:a.tn=L.tn)(e:a.t=L.t)(f:a.gn=L.gn)(i:a.g=L.g)(j : ∀ k,k<L.nn->sJ (a.R k)=sJ (L.R k)):EG a:=by
 refine⟨fun k l => ?_,fun q m => ?_⟩
 ·grind [h.us]
 simp_all [h.gb]
theorem acu(hr:sJ X=sJ (c m))(k:Nat):sJ (aN c m X k)=sJ (c k):=by
 grind [aN]
theorem uj.dI(h:uj c s m e V)(v:1<=e)(A : ∀ i,i<m->c i 1=0\/0<=bT c m (c i 1))(k : ∃ D,D<=4/\bT c m (bU c m D a)<0)(B:0<=bT c m a) :
 IZ s (m+1) a d=IZ c m a d/\(d=e->IZ c m a d=0):=by
 obtain⟨D,q,b⟩:=k;obtain⟨K,r,t,z⟩:=Db D b;have tn:K=iw c m a:=zI z t b (by omega);have g : ∀ i,i<=K->bU s (m+1) i a=bU c m i a:=fun i f=>h.iter i fun j w=>z j (by omega);have y:bT s (m+1) (bU s (m+1) K a)<0:=by
  rw[g K (A_ _)]
  rcases ilt (bT s (m+1) (bU c m K a))with h1|h1
  ·omega
  ·exfalso
   rcases h.find.1 h1 with h2|h2
   ·omega
   ·cases K with
    | zero=>have:bT c m a<0:=t; omega
    | succ K =>
      obtain⟨i,f,id⟩:=kZ.1 (z K (by omega))
      grind [bU,xJ,h.u]
 have o:K=iw s (m+1) a:=zI (fun i f=>by rw[g i (by omega)]; simp_all [h.find]) y y (by omega);have t' : ∀ n,n<=K->Pb s (m+1) a d n=Pb c m a d n:=by
  intro n
  induction n with
  | zero=>intro _; rfl
  | succ n ih=>grind [Pb]
 refine⟨?_,fun l => ?_⟩
 ·grind [IZ]
 subst l;have : ∀ n,n<=K->Pb c m a d n=0:=by
  intro n
  induction n with
  | zero=>intro _; rfl
  | succ n ih =>
    intro x; unfold Pb;rw[ih (by omega),b_ ?_]
    ·rfl
    ·intro id;have:=z n (by omega);rw[id]at this;have p:=zK.2 h.no;omega
 grind [IZ]
attribute [local irreducible] iw in
theorem UQ(a:Inv0 L T)(h:EG L)(f:dG v=true)(p:v.aI=1)(n:nE L v=0):EG (vF L v):=by
 obtain⟨k,r,w,C,B,z,A,m,E,F,l⟩:=AQ a f p n;have u:=ql f;rw[m];generalize lU v.o v.seq=x at *;have s : ∀ i,i<L.tn->L.t i 1=0\/0<=bT L.t L.tn (L.t i 1):=fun i c=>by
  have d:=c;rw[a.GA]at d;rw[(a.IY i d).2]
  rcases a.up i d with e|⟨j,hj,e⟩
  ·omega
  ·exact .inr (kZ.2 ⟨j,by grind [a.GA],by grind [a.IY]⟩)
 have D : ∀ q,q<L.gn -> ∀ y,IZ (wF L.t k x v.node) (L.tn+1) (L.g q 2) y=IZ L.t L.tn (L.g q 2) y/\(y=x->IZ L.t L.tn (L.g q 2) y=0):=fun q b y=>l.dI w s (a.Zi _) (h.gb q b).1;refine⟨fun i c => ?_,fun q b => ?_⟩
 ·show sJ (dW L.R k (fZ (fun _=>0) (aX v) v.bF) i)=sV (wF L.t k x v.node) (L.tn+1) L.g (dW L.id k x i) L.gn;rw[Dc (t:=L.t) (tn:=L.tn) (g:=L.g) (y:=dW L.id k x i) L.gn fun q b=>by grind [zL]]
  rcases fU r c with rfl|⟨j,hj,e,_,_⟩
  ·rw[gy,gy,Rq u,Ng L.gn fun q b=>by grind [zL]];rfl
  grind [h.us]
 simp_all [h.gb,l.find]
theorem Nh(i:Inv0 L T)(h:EG L)(b:dG v=true)(a:fJ L v=0):EG (kH L v):=by
 have g:=ql b;unfold fJ at a;unfold kH;by_cases k1:v.aI=1
 ·grind [UQ]
 by_cases k2:v.aI=2
 ·rw[b_ k1,d_ k2]at a ⊢;exact Ph h rfl rfl rfl rfl rfl rfl fun k _=>acu (Rq g) k
 by_cases c:v.aI=3
 ·grind [UN]
 by_cases d:v.aI=4
 ·grind [UO]
 by_cases e:v.aI=5
 ·rw[b_ k1,b_ k2,b_ c,b_ d,d_ e]at a ⊢;unfold uh at a;split at a; · omega
  split at a; · omega
  obtain⟨_,_,_,_,_,_,_,_,_,_,f,_⟩:=Fy a;exact Ph h rfl rfl rfl rfl rfl rfl fun k _=>acu f.u k
 rw[b_ k1,b_ k2,b_ c,b_ d,b_ e];split
 ·grind [Ph]
 grind [Ph]
theorem acv(h:bT c m (bU c m k a)<0):iw c m a<=k:=by
 rcases Nat.lt_or_ge k (iw c m a)with h1|h1
 ·have:=FH h1; omega
 omega
theorem Inv0.arZ(h:Inv0 L T)(x:Int):iw L.t L.tn x<=4:=by
 obtain⟨D,b,a⟩:=h.Zi x;have:=acv a; omega
theorem FI{x:Nat->Int}{p:Nat}{n c:Int}(h : ∀ a,a<54->x a<=c)(d:n<=c) : ∀ a,a<54->fZ x p n a<=c:=fun a b=>by
 show(if a=p then n else x a)<=c;split
 ·exact d
 ·exact h a b
theorem KA{f:(Nat->Int)->(Nat->Int) × Int}{idx:Nat->Nat}{R:Nat->Nat->Int}{n:Nat}{B d:Int}(m:0<=d)(i : ∀ x c,(f x).2=0->(∀ a,a<54->x a<=c) -> ∀ a,a<54->(f x).1 a<=c+d)(g : ∀ k,k<n -> ∀ a,a<54->R k a<=B) : ∀(K:Nat) k,k<n -> ∀ a,a<54->(eO f idx R K).1 k a<=B+d*(K:Int)
 | 0,k,hk,a,ha=>by have h:=g k hk a ha; show R k a<=B+d*0; omega
 | K+1,k,hk,a,ha=>by
   have o:=KA m i g (idx:=idx) K;have e:d*((K+1:Nat):Int)=d*(K:Int)+d:=(by grind);rw[e];unfold eO;by_cases j:(eO f idx R K).2=0
   ·rw[d_ j];by_cases b:(f ((eO f idx R K).1 (idx K))).2=0
    ·rw[d_ b];show(if k=idx K then _ else _:Nat->Int) a<=_;by_cases l:k=idx K
     ·rw[d_ l];have:=i _ (B+d*(K:Int)) b (by simp_all) a ha; omega
     grind
    ·rw[b_ b]; grind
   grind
theorem acw(g:a<=65536)(h:(bV X d a).2=0)(hx : ∀ n,n<54->X n<=e) : ∀ n,n<54->(bV X d a).1 n<=e+65536:=by
 obtain⟨n,x,_,_,_,_,_,_,_,_,_,i⟩:=OT h;rw[i];have:=hx (6+n) (by omega);exact FI (fun b f=>by grind) (by omega)
theorem acy(h:(bW X d a).2=0)(hx : ∀ x,x<54->X x<=e) : ∀ x,x<54->(bW X d a).1 x<=e+0:=by
 obtain⟨x,g,_,_,_,b,_,_,_,_,i⟩:=OU h;rw[i,D_];have f:a<=X (6+x)-X (12+x):=b
 grind [FI]
theorem Xi(h:Zm L T)(hr:d<=256) : ∀ i,i<6 -> ∀ j,j<aN L.rn m (L.rn m+1) i->aN L.rq m (aN (L.rq m) (L.rn m) d) i j<=256:=fun i a j b=>by
 unfold aN at b ⊢;by_cases e:i=m
 ·subst e;rw[d_ rfl]at b ⊢;by_cases c:j=L.rn i
  ·rw[d_ c]; exact hr
  ·rw[b_ c]; exact h.rq i a j (by omega)
 ·rw[b_ e]at b ⊢; exact h.rq i a j b
attribute [local irreducible] iw in
theorem Zn(u:Inv0 L T)(h:Zm L T)(A:wL v)(z:dG v=true)(d:fJ L v=0) :
 (∀ k,k<(kH L v).nn -> ∀ a,a<54->(kH L v).R k a<=2097152*((T+1:Nat):Int))/\(∀ i,i<6 -> ∀ j,j<(kH L v).rn i->(kH L v).rq i j<=256):=by
 have m:=lD z;have Y:=ql z;have C : ∀ k,k<L.nn -> ∀ a,a<54->L.R k a<=2097152*((T+1:Nat):Int):=fun k m a l=>by have:=h.rb k m a l; omega
 have D : ∀ q r,(∀ a,a<54->r a<=2097152*((T+1:Nat):Int)) -> ∀ k,k<L.nn -> ∀ a,a<54->aN L.R q r k a<=2097152*((T+1:Nat):Int):=fun q r W k m a l=>by
  unfold aN; grind
 have J:=A.bF;unfold fJ at d;unfold kH;by_cases k1:v.aI=1
 ·rw[d_ k1]at d ⊢;obtain⟨k,I,ab,V,U,M,N,F,X,Z,aa⟩:=AQ u z k1 d;rw[F];refine⟨fun i H a l => ?_,h.rq⟩;show dW L.R k (fZ (fun _=>0) (aX v) v.bF) i a<=_
  rcases fU I H with rfl|⟨j,hj,e,_,_⟩
  ·rw[gy];exact FI (c:=2097152*((T+1:Nat):Int)) (fun b _=>by omega) (by omega) a l
  simp_all
 by_cases k2:v.aI=2
 ·rw[b_ k1,d_ k2]at d ⊢;unfold AP at d;split at d; · omega
  rename_i n1;split at d; · omega
  have s:=u.Xh n1;have G:=h.rb _ s (aX v) (by omega);exact⟨D _ _ (FI (fun b w=>C _ s b w) (by omega)),h.rq⟩
 by_cases y:v.aI=3
 ·rw[b_ k1,b_ k2,d_ y]at d ⊢;have K : ∀ k,k<L.nn -> ∀ a,a<54->(ug L v).1 k a<=2097152*((T+1:Nat):Int):=fun k m a l=>by
   have O:=u.arZ v.node;have:=KA (f:=fun x=>bV x v.o v.bF) (idx:=vI L v.node) (by decide) (fun x c=>acw J) h.rb (iw L.t L.tn v.node) k m a l
   grind [ug]
  unfold oU vJ
  grind [Xi,A.bK]
 by_cases B:v.aI=4
 ·rw[b_ k1,b_ k2,b_ y,d_ B]at d ⊢;have K : ∀ k,k<L.nn -> ∀ a,a<54->(rQ L v).1 k a<=2097152*((T+1:Nat):Int):=fun k m a l=>by
   have:=KA (f:=fun x=>bW x v.o (L.g (EC L v) 3)) (idx:=vI L (L.g (EC L v) 2)) (M_ 0) (fun x c=>acy) h.rb (iw L.t L.tn (L.g (EC L v) 2)) k m a l
   grind [rQ]
  unfold nG vJ
  grind [Xi,A.bK]
 by_cases E:v.aI=5
 ·rw[b_ k1,b_ k2,b_ y,b_ B,d_ E]at d ⊢;unfold uh at d;split at d; · omega
  rename_i n1;split at d; · omega
  have s:=u.Xh n1;obtain⟨a,b,l,w,_,_,_,_,_,_,_,e⟩:=Fy d;have G:=h.rb _ s (18+a*6+b) (by omega);have P:=D (L.node v.node).toNat _ (FI (x:=L.R (L.node v.node).toNat) (p:=18+a*6+b) (n:=L.R (L.node v.node).toNat (18+a*6+b)+v.bF) (fun b w=>C _ s b w) (by omega));refine⟨?_,h.rq⟩;show ∀ k,k<L.nn -> ∀ c,c<54->aN L.R (L.node v.node).toNat (D7 L v).1 k c<=_
  grind [D7]
 rw[b_ k1,b_ k2,b_ y,b_ B,b_ E];split
 ·grind [h.rq]
 grind [h.rq]
theorem Zm.mono(h:Zm L T)(f:T<=b):Zm L b where
 kt:=fun i d=>by have:=h.kt i d; omega
 rb:=fun k e a c=>by have:=h.rb k e a c; omega
 rq:=h.rq
theorem Ni(j:wL v)(h:UL L T):UL (fF L v) (T+1):=by
 refine⟨EF h.toInv0,?_,?_⟩ <;> unfold fF <;> by_cases a:dP L v=0
 ·rw[d_ a];unfold dP at a;split at a; · omega
  rename_i e;split at a; · omega
  split at a; · omega
  split at a; · omega
  have d:dG v=true:=by simp_all
  have c:=Nh h.toInv0 h.s d a;exact⟨c.us,c.gb⟩
 ·grind [h.s]
 ·rw[d_ a];unfold dP at a;split at a; · omega
  rename_i e;split at a; · omega
  split at a; · omega
  split at a; · omega
  have d:dG v=true:=by simp_all
  have c:=Zn h.toInv0 h.b j d a;refine⟨fun i g => ?_,c.1,c.2⟩;have f:(Na (kH L v) v).aF=aN L.aF (aX v) (L.aF (aX v)+1):=by grind [Na,uT]
  rw[f];have e:=h.b.kt i g
  grind [aN]
 grind [h.b.mono]
theorem UL.mono{a:Nat}(h:UL L T)(c:T<=a):UL L a:=⟨h.toInv0.mono c,h.s,h.b.mono c⟩
end
end Rt
end
section
namespace Rt
def evX(e:Nat->dA):Nat->Value:=dn 14 fun k=>dH (e k)
noncomputable def qJ(e:Nat->dA)(K:Nat->Int)(L:iQ):Nat->iQ
 | 0=>L
 | j+1=>if(e j).seq<=K (aX (e j))then fF (qJ e K L j) (e j)else qJ e K L j
def Ru(L M:iQ):Prop := ∀ i,i<6->L.aF i=M.aF i
open Classical in
noncomputable def jL(e:Nat->dA)(n:Nat)(K:Nat->Int):Nat->iQ->iQ
 | 0,L=>L
 | f+1,L=>if Ru (qJ e K L n) L then qJ e K L n else jL e n K f (qJ e K L n)
noncomputable def KC(e:Nat->dA)(n:Nat)(K:Nat->Int)(L:iQ):iQ:=jL e n K (n+1) L
section
variable {e:Nat->dA} {K:Nat->Int} {L M M':iQ} {j n r:Nat}
theorem acz(h:M=qJ e K L j)(b:(e j).seq<=K (aX (e j)))(a:M'=fF M (e j)):M'=qJ e K L (j+1):=by unfold qJ; rw[d_ b,<- h,a]
theorem ahL(h:M=qJ e K L j)(a : ¬ (e j).seq<=K (aX (e j))):M=qJ e K L (j+1):=by unfold qJ; rw[b_ a,<- h]
theorem Zo(hr:r<=n)(h:M=qJ e K L n)(a:Ru M L):jL e n K (n+1-r) L=M:=by
 rw[show n+1-r=(n-r)+1 by omega]; unfold jL; rw[<- h,d_ a]
theorem acA(hr:r<=n)(h:M=qJ e K L n)(a : ¬ Ru M L):jL e n K (n+1-(r+1)) M=jL e n K (n+1-r) L:=by
 rw[show n+1-r=(n-r)+1 by omega,show n+1-(r+1)=n-r by omega]
 conv=>rhs; unfold jL
 rw[<- h,b_ a]
theorem Nj{m a:ow}:Ru m.aW a.aW <-> ∀ i,i<6->(rv .u64 m.s.aF) i=(rv .u64 a.s.aF) i:=by
 unfold Ru rv;simp only[Value.int.injEq,true_and]; exact Iff.rfl
end
theorem J4.kd(h:J4 X):Kd (List.replicate 6 (some .u64)) (rv .u64 X):=Wm fun i a=>xk (by have:=h i a; omega)
end Rt
attribute [irreducible] Rt.jL
set_option maxRecDepth 20000 in
theorem ahM(m:ow)(B p T:Nat)(O:Option Addr)(an E:Nat)(ev:Nat->dA)(K:Nat->Int)(w:World)(hL:zU w B p m)(hI:UL m.aW T)(hA:iB w O an 14 (evX ev))(hwf : ∀ k,k<an->jB (ev k))(hmay : ∀ k,k<an->dG (ev k)=true)(hsm : ∀ k,k<an->wL (ev k))(han:an<=60)(hT:T<=890000) :
 Calls prog 19 #[(pt p),.slice O (an) (E),.agg (aA 6 (rv .u64 K))] w fun e w' => ∃ p' m',e = .returned (pt p')/\m'.aW=KC ev an K m.aW/\UL m'.aW (T+3660)/\zU w' B p' m'/\Below w.heap.size w w':=by
 refine bX func19 59 ?_;refine ay<|oq fun H w1 kV g s1 z1 =>have⟨l,b1⟩:=fB s1.bP hL (Below.refl w.heap.size w);have tJ:=iy kV;have vB:=g.lt;au (.pointer none)<|aC<|aQ<|ay<|au (av 0)<|aC<|Wb<|Wo (fun f z => ∃ r:Nat,∃ x:Nat,∃ g:ow,∃ N:Nat,r<=an+1/\jL ev an K (an+1-r) g.aW=KC ev an K m.aW/\UL g.aW N/\N<=T+r*60/\f 0=(pt x)/\f 1 = .slice O (an) (E)/\f 5=(pt H)/\f 7=av (r:Int)/\aM z H 6 (rv .u64 K) 28/\zU z B x g/\Below w.heap.size w z) (fun f _=>(an+1-(intOf (f 7)).toNat)) ⟨0,p,m,T,by omega,rfl,hI,by omega,(by rfl),(by rfl),(by rfl),ic,g,l,b1⟩ ?_;rintro f1 w2 ⟨r,x,g,N,hr,hc1,S,hT1,h1,h2,h3,h4,m3,m4,b2⟩;refine aQ<|ay<|bA h4<|bA h2<|au (av an) ?_;by_cases c13:(r:Int)<=(an:Int)
 ·refine Lv aH (xq c13)<|aC<|aP<|Wk<|sN<|aQ<|Wb<|aQ<|have asa:=m4.c;Wl<|bA h1<|au (pt x)<|au (pt x)<|au (pf x 12)<|Lv (.agg (aA 6 (rv .u64 g.s.aF))) (dZ asa.aJ 12 (fun j V=>nD _ (by omega) (fA _ V)))<|oJ 6 (rv .u64 (fun _=>0)) fun g2 w3 nN m5 s2 z2 =>have⟨m6,m7,b3⟩:=iP s2.bP m3 m4 b2;have xw:=gQ nN b2.size;have⟨aky,akG⟩:=oM nN m3.lt asa.lt;have zR:=m5.lt;dY m5 0 fun w4 m9 s3 z3 =>have m10:aM w4 g2 6 (rv .u64 g.s.aF) 28:=aO m9;have m11:=m6.cK s3 (by omega);have gT:=gJ s3 m5.ty;have kY:=jU gT m7;have b4:=s3.below b3 b3.size (by omega);aC<|aQ<|ay<|au (av 0)<|aC<|Wb<|Wo (fun f z => ∃ j:Nat,∃ u:Nat,∃ l:ow,∃ A:Nat,j<=an/\l.aW=qJ ev K g.aW j/\UL l.aW A/\A<=T+r*60+j/\f 0=(pt u)/\f 1 = .slice O (an) (E)/\f 5=(pt H)/\f 7=av (r:Int)/\f 8=(pt g2)/\f 9=av (j:Int)/\aM z H 6 (rv .u64 K) 28/\aM z g2 6 (rv .u64 g.s.aF) 28/\zU z B u l/\Below w.heap.size w z) (fun f _=>(an-(intOf (f 9)).toNat)) ⟨0,x,g,N,by omega,rfl,S,by omega,h1,h2,h3,(h4.trans ic),(by rfl),ic,m11,m10,kY,b4⟩ ?_;rintro f2 t ⟨j,u,l,A,V,U,D,hT2,I,C,R,h8,h9,y,W,m15,J,G⟩;refine aQ<|ay<|bA y<|bA C<|au (av an) ?_;by_cases c24:(j:Int)<(an:Int)
  ·refine Lv aH (fK c24)<|aC<|aP<|Wk<|sN<|aQ<|Wb<|aQ ?_;obtain⟨a,ha,ho⟩:=gY (kM (hmay j (by omega)));have eN:aX (ev j)=a:=(by unfold aX; omega);refine zu<|iL C<|iL y ?_;obtain⟨F,L,eq1,Z⟩:=(hA.up G rfl) (by omega);refine Qv (pf F (14*j+L)) (fun b d=>fC 14 (hx:=(rfl.trans (K_ (fun q=>Value.slice q (an) (E)) eq1))))<|bI (pf F (14*j+L+1))<|Qv (aG ((ev j).seq)) (fun b d=>aR (Z.dr d) (14*j+1) (je (k:=j) (j:=1) (by omega) (by omega) rfl))<|iL C<|iL y<|Qv (pf F (14*j+L)) (fun b d=>fC 14 (hx:=(rfl.trans (K_ (fun q=>Value.slice q (an) (E)) eq1))))<|bI (pf F (14*j+L))<|Qv (av ((ev j).o)) (fun b d=>aR (Z.dr d) (14*j) (je (k:=j) (j:=0) (by omega) (by omega) rfl))<|Qv (av a) (fun b d=>jK)<|Qv (pf H a) (fun b d=>jh 6 1 (hx:=R))<|Qv (aG (K a)) (fun b d=>aR (W.aJ.dr d) a) ?_;by_cases P:((ev j).seq)<=(K a)
   ·refine Qv aH (fun b d=>xq P)<|Qn ?_;rintro _ ⟨v,rfl⟩;obtain⟨IC,xI⟩ : ∃ b,b=World.drewN t v:=⟨_,rfl⟩;rw[<- xI];have s4:eG t.heap.size t IC:=(by rw[xI]; exact Sb (kQ t v));have⟨m18,m19,m20,mG,b6⟩:=oK s4.bP W m15 J Z G;clear xI;refine sN<|aP<|Wl<|bA I<|bA C<|bA y<|Lv (pf F (14*j+L)) (fC 14 (hx:=(rfl.trans (K_ (fun q=>Value.slice q (an) (E)) eq1))))<|Lv (.agg (aA 14 (dH (ev j)))) (dZ mG (14*j) (fun jq hjq=>eF (k:=j) (by omega) hjq))<|lX (Xe _ _ _ _ _ _ m20 (hwf j (by omega)) D.w) ?_;rintro e9 w6 ⟨M,m3,he,hc3,hL1,hb1⟩;refine⟨.tuple #[(pt M),av (dP l.aW (ev j))],he,?_⟩;clear he;have⟨m22,m23,b7⟩:=iP hb1 m18 m19 b6;refine au (.tuple #[(pt M),av (dP l.aW (ev j))])<|au (pt M)<|au (av (dP l.aW (ev j)))<|au (pt M)<|Ln<|bS<|sN<|Wl<|bA y<|Lv (av ((j:Int)+1)) gu<|au (av ((j:Int)+1))<|Ln<|iA ⟨j+1,M,m3,A+1,by omega,(acz U (by rw[eN]; exact P) hc3),(by rw[hc3]; exact Ni (hsm j (by omega)) D),by omega,(by rfl),C,R,(h8.trans ic),h9,ic,m22,m23,hL1,b7⟩ ?_;show(an-(intOf (av ((j:Int)+1))).toNat)<_;simp only[y,intOf]; omega
   refine Qv aD (fun b d=>yg P)<|Qn ?_;rintro _ ⟨v,rfl⟩;obtain⟨Ma,Aw⟩ : ∃ b,b=World.drewN t v:=⟨_,rfl⟩;rw[<- Aw];have s6:eG t.heap.size t Ma:=(by rw[Aw]; exact Sb (kQ t v));have⟨mU,pK,pO,b8⟩:=jv s6.bP W m15 J G;clear Aw;refine sN<|aL<|Wk<|bS<|sN<|Wl<|bA y<|Lv (av ((j:Int)+1)) gu<|au (av ((j:Int)+1))<|Ln<|iA ⟨j+1,u,l,A,by omega,(ahL U (by rw[eN]; exact P)),D,by omega,I,C,R,(h8.trans ic),h9,ic,mU,pK,pO,b8⟩ ?_;show(an-(intOf (av ((j:Int)+1))).toNat)<_;simp only[y,intOf]; omega
  refine Lv aD (fM c24)<|aC<|aL<|Wx<|cZ<|iC<|dB<|sN<|aQ<|have aA0:=J.c;zu<|iL I<|bI (pt u)<|bI (pt u)<|bI (pf u 12)<|Qv (.agg (aA 6 (rv .u64 l.s.aF))) (fun b d=>dZ (aA0.aJ.dr d) 12 (fun j V=>nD _ (by omega) (fA _ V)))<|Qv (.agg (aA 6 (rv .u64 g.s.aF))) (fun b d=>dZ (m15.aJ.dr d) 0 (ha:=h9)) ?_;by_cases Q : ∀ i,i<6->(rv .u64 l.s.aF) i=(rv .u64 g.s.aF) i
  ·refine Qv aH (fun b d=>qY (n:=6) (ks:=List.replicate 6 (some .u64)) (X:=rv .u64 l.s.aF) (Y:=rv .u64 g.s.aF) 12 true rfl rfl rfl (E5 Q) (J4.kd D.kn) (J4.kd S.kn) rfl (by kernel_rfl))<|Qn ?_;rintro _ ⟨v,rfl⟩;obtain⟨wq3,Ku⟩ : ∃ b,b=World.drewN t v:=⟨_,rfl⟩;rw[<- Ku];have s7:eG t.heap.size t wq3:=(by rw[Ku]; exact Sb (kQ t v));have⟨mY,b9⟩:=fB s7.bP J G;clear Ku;refine sN<|aP<|ay<|bA I<|au (pt u)<|aC<|Wr<|bO<|sR<|oG<|bO<|sR<|aK (pt u)<|⟨u,l,rfl,((Zo (n:=an) (r:=r) (by omega) (by rw[show an=j by omega]; exact U) (Nj.2 Q)).symm.trans hc1),D.mono (by omega),mY,b9⟩
  refine Qv aD (fun b d=>qY (n:=6) (ks:=List.replicate 6 (some .u64)) (X:=rv .u64 l.s.aF) (Y:=rv .u64 g.s.aF) 12 false rfl rfl rfl (nob Q) (J4.kd D.kn) (J4.kd S.kn) rfl (by kernel_rfl))<|Qn ?_;rintro _ ⟨v,rfl⟩;obtain⟨wq4,Kv⟩ : ∃ b,b=World.drewN t v:=⟨_,rfl⟩;rw[<- Kv];have s8:eG t.heap.size t wq4:=by rw[Kv]; exact Sb (kQ t v)
  have⟨oD,pQ,b10⟩:=iP s8.bP W J G;clear Kv;refine sN<|aL<|Wk<|bS<|sN<|Wl<|bA h8<|Lv (av ((r:Int)+1)) gu<|au (av ((r:Int)+1))<|Ln<|iA ⟨r+1,u,l,A,by omega,(acA (by omega) (by rw[show an=j by omega]; exact U) (fun h=>Q (Nj.1 h))).trans hc1,D,by omega,I,C,R,ic,oD,pQ,b10⟩ ?_;show(an+1-(intOf (av ((r:Int)+1))).toNat)<_;simp only[h4,intOf]; omega
 refine Lv aD (yg c13)<|aC<|aL<|Wx<|cZ<|iC<|dB<|sN<|ay<|bA h1<|au (pt x)<|aC<|Wr<|aK (pt x)<|⟨x,g,rfl,(by rw[<- hc1,show an+1-r=0 by omega]; unfold jL; rfl),S.mono (by omega),m4,b2⟩
end
section
namespace Rt
def Nk:dA:=⟨0,0,fun _=>0,0,0,0,0,0,0⟩
def jc(ev:Nat->dA):Nat->Nat->Int
 | 0,_=>0
 | k+1,i=>jc ev k i+if aX (ev k)=i then 1 else 0
structure zV(ev:Nat->dA)(an:Nat)(K:Nat->Int):Prop where
 le : ∀ i,i<6->K i<=jc ev an i
 cl : ∀ k,k<an->(ev k).seq<=K (aX (ev k)) -> ∀ i,i<6->(ev k).bB i<=K i
structure Cz(n an:Nat)(ev:Nat->dA)(kn:Nat->Nat->Int):Prop where
 rd : ∀ k,k<an->fq (jc ev k) (ev k)=true
 MR : ∀ k,k<an->aX (ev k)<n
 own : ∀ o,o<n->kn o o=jc ev an o
 kc : ∀ o,o<n->zV ev an (kn o)
section
variable {ev:Nat->dA} {an n j k i:Nat} {K:Nat->Int} {kn kn':Nat->Nat->Int} {v:dA} {L:iQ}
theorem acB : ∀ d k i,jc ev k i<=jc ev (k+d) i
 | 0,_,_=>M_ _
 | d+1,k,i=>by have:=acB d k i; grind [jc]
theorem FJ(h:j<=k:=by omega):jc ev j i<=jc ev k i:=by have:=acB (ev:=ev) (k-j) j i; simp_all
theorem Jq(h:j<k):jc ev j (aX (ev j))+1<=jc ev k (aX (ev j)):=by
 have a:jc ev (j+1) (aX (ev j))<=jc ev k (aX (ev j)):=FJ (by omega)
 grind [jc]
theorem KD : ∀ k i,0<=jc ev k i
 | 0,_=>M_ _
 | k+1,i=>by have:=KD k i; grind [jc]
theorem I4(h:fq K v=true):dG v=true/\v.seq=K (aX v)+1 /\ ∀ i,i<6->v.bB i<=K i:=by
 unfold fq at h;simp only[Q_,decide_eq_true_eq]at h;refine⟨h.1.1,h.1.2,fun i a => ?_⟩
 grind [BS]
theorem Pk(h1:dG v=true)(a:v.seq=K (aX v)+1)(b : ∀ i,i<6->v.bB i<=K i):fq K v=true:=by
 unfold fq;simp only[Q_,decide_eq_true_eq];refine⟨⟨h1,a⟩,?_⟩
 grind [BS]
theorem Cz.seq(h:Cz n an ev kn)(a:k<an):(ev k).seq=jc ev k (aX (ev k))+1:=(I4 (h.rd k a)).2.1
theorem Cz.UR(h:Cz n an ev kn)(a:k<an):(ev k).seq<=jc ev an (aX (ev k)):=by simp_all [h.seq,Jq]
theorem Cz.uniq(h:Cz n an ev kn)(b:j<an)(c:k<an)(d:aX (ev j)=aX (ev k))(a:(ev j).seq=(ev k).seq):j=k:=by
 rw[h.seq b,h.seq c]at a
 rcases Nat.lt_trichotomy j k with h1|h1|h1
 ·have:=Jq (ev:=ev) h1; grind
 ·omega
 have:=Jq (ev:=ev) h1; grind
theorem Cz.step(h:Cz n an ev kn)(a:zV ev an K)(c:j<an)(hr:fq K (ev j)=true):zV ev an (aN K (aX (ev j)) (K (aX (ev j))+1)):=by
 obtain⟨_,f,m⟩:=I4 hr;have g : ∀ i,K i<=aN K (aX (ev j)) (K (aX (ev j))+1) i:=fun i=>by grind [aN]
 refine⟨fun i b => ?_,fun k d l i b => ?_⟩
 ·unfold aN; split
  ·rename_i e; rw[e,<- f]; exact h.UR c
  simp_all [a.le]
 by_cases e:(ev k).seq<=K (aX (ev k))
 ·exact P_ (a.cl k d e i b) (g i)
 grind [aN,h.uniq]
theorem mK(h:dP L v=0):fq L.aF v=true:=by
 grind [dP]
theorem wM(L:iQ)(v:dA):(dP L v=0/\(fF L v).aF=aN L.aF (aX v) (L.aF (aX v)+1))\/(dP L v≠0/\fF L v=L):=by
 by_cases h:dP L v=0
 ·refine .inl ⟨h,?_⟩;unfold fF; rw[d_ h];show aN (kH L v).aF _ _=_;rw[uT]
 grind [fF]
def KnO(ev:Nat->dA)(an o:Nat)(K:Nat->Int):Prop:=zV ev an K/\K o=jc ev an o
theorem Cz.apply(h:Cz n an ev kn)(a:KnO ev an m L.aF)(c:j<an):KnO ev an m (fF L (ev j)).aF:=by
 rcases wM L (ev j)with ⟨f,b⟩|⟨_,b⟩
 ·have d:=mK f;rw[b];refine⟨h.step a.1 c d,?_⟩;unfold aN;split
  ·rename_i e;have:=(I4 d).2.1;have g:=h.UR c;rw[<- e]at this g;have:=a.2;omega
  exact a.2
 rw[b]; exact a
theorem Cz.Pm(h:Cz n an ev kn){o:Nat}{b:Nat->Int}(a:KnO ev an o L.aF) : ∀ j,j<=an->KnO ev an o (qJ ev b L j).aF
 | 0,_=>a
 | j+1,hj=>by
   unfold qJ;split
   ·exact h.apply (h.Pm a j (by omega)) (by omega)
   ·exact h.Pm a j (by omega)
theorem Cz.jL(h:Cz n an ev kn){o:Nat}{a:Nat->Int} : ∀ f L,KnO ev an o L.aF->KnO ev an o (jL ev an a f L).aF
 | 0,L,hL=>by unfold Rt.jL; exact hL
 | f+1,L,hL=>by
   unfold Rt.jL;split
   ·exact h.Pm hL an (A_ _)
   ·exact h.jL f _ (h.Pm hL an (A_ _))
theorem Cz.learn(h:Cz n an ev kn){o:Nat}(d:o<n)(f:L.aF=kn o)(i : ∀ q,q≠o->kn' q=kn q)(b:kn' o=(KC ev an X L).aF):Cz n an ev kn':=by
 have c:KnO ev an o (KC ev an X L).aF:=h.jL (an+1) L (by rw[f]; exact⟨h.kc o d,h.own o d⟩);refine⟨h.rd,h.MR,fun q g => ?_,fun q g => ?_⟩
 ·by_cases e:q=o
  ·subst e; rw[b]; exact c.2
  simp_all [h.own]
 by_cases e:q=o
 ·subst e; rw[b]; exact c.1
 grind [h.kc]
theorem FK : ∀ k,k<=an -> ∀ i,jc (aN ev an v) k i=jc ev k i
 | 0,_,_=>rfl
 | k+1,hk,i=>by
   have e:aN ev an v k=ev k:=(by grind [aN]);show jc (aN ev an v) k i+(if aX (aN ev an v k)=i then 1 else 0)=jc ev k i+if aX (ev k)=i then 1 else 0;rw[e,FK k (by omega) i]
theorem Xj(i:Nat):jc (aN ev an v) (an+1) i=jc ev an i+if aX v=i then 1 else 0:=by
 grind [jc,aN,FK]
theorem Cz.event(h:Cz n an ev kn){o:Nat}(m:o<n)(hr:fq (kn o) v=true)(g:aX v=o)(t:v.bB=kn o)(d : ∀ q,q≠o->kn' q=kn q)(j:kn' o=aN (kn o) o (kn o o+1)):Cz n (an+1) (aN ev an v) kn':=by
 obtain⟨u,s,w⟩:=I4 hr;rw[g]at s;have r : ∀ k,k<an->aN ev an v k=ev k:=fun k l=>by grind [aN]
 have p:aN ev an v an=v:=by grind [aN]
 have z:=h.own o m;refine⟨fun k l => ?_,fun k l => ?_,fun q c => ?_,fun q c=>⟨fun i a => ?_,fun k l b i a => ?_⟩⟩
 ·have e:jc (aN ev an v) k=jc ev k:=funext fun i=>FK k (by omega) i;rw[e];by_cases f:k=an
  ·subst f; rw[p];refine Pk u (by simp_all) fun i a =>P_ (w i a) ((h.kc o m).le i a)
  grind [h.rd]
 ·by_cases f:k=an
  ·simp_all
  rw[r k (by omega)]; exact h.MR k (by omega)
 ·rw[Xj,g];by_cases e:q=o
  ·simp_all [aN]
  rw[d q e,b_ (fun x=>e x.symm),h.own q c,D_]
 ·rw[Xj,g];by_cases e:q=o
  ·subst e; rw[j]; unfold aN;split
   ·simp_all
   have:=(h.kc q c).le i a; omega
  rw[d q e]; have:=(h.kc q c).le i a; omega
 by_cases f:k=an
 ·subst f;rw[p]at b ⊢;by_cases e:q=o
  ·subst e; rw[j,t]; grind [aN]
  rw[d q e,g,s]at b;have:=(h.kc q c).le o
  grind [ql]
 rw[r k (by omega)]at b ⊢;by_cases e:q=o
 ·subst e;rw[j]at b ⊢;have y : ∀ i,kn q i<=aN (kn q) q (kn q q+1) i:=fun i=>by grind [aN]
  refine P_ ((h.kc q c).cl k (by omega) ?_ i a) (y i);unfold aN at b;split at b
  ·rename_i e3; have:=h.UR (k:=k) (by omega); simp_all
  omega
 rw[d q e]at b ⊢; exact(h.kc q c).cl k (by omega) b i a
theorem Cz.zero(n:Nat)(h : ∀ o,o<n->kn o=fun _=>0):Cz n 0 ev kn:=⟨fun _ h=>L_ h (z_ _),fun _ h=>L_ h (z_ _),fun o a=>by rw[h o a]; rfl,fun o a=>⟨fun i _=>by rw[h o a]; exact M_ _,fun _ h=>L_ h (z_ _)⟩⟩
end
end Rt
end
section
namespace Rt
def qm(K:Nat->Int)(v:dA):Bool:=decide (v.seq<=K (aX v))
def dh(ev:Nat->dA)(K:Nat->Int)(A0:Ab):Nat->Ab
 | 0=>A0
 | n+1=>if qm K (ev n)=true then(dh ev K A0 n).ru (ev n)else dh ev K A0 n
structure Evs(A0:Ab)(ev:Nat->dA)(an:Nat):Prop where
 ok0:A0.Ok
 rd : ∀ k,k<an->fq (jc ev k) (ev k)=true
 g : ∀ k,k<an->WS (ev k)
 dc : ∀ k,k<an->zV ev an (ev k).bB
 tk : ∀ k,k<an->(dh ev (ev k).bB A0 k).WR (ev k)
section
variable {A0:Ab} {ev:Nat->dA} {an n m i j k:Nat} {K K1 K2:Nat->Int}
theorem acC(v:dA):aX v=aV v:=by rfl
theorem jF{v:dA}:qm K v=true<->v.seq<=K (aX v):=by grind [qm]
theorem Evs.seq(h:Evs A0 ev an)(a:k<an):(ev k).seq=jc ev k (aX (ev k))+1:=(I4 (h.rd k a)).2.1
theorem Evs.mono(h:Evs A0 ev an)(a:j<an)(c:k<an)(e:aX (ev j)=aX (ev k))(b:j<k):(ev j).seq<(ev k).seq:=by
 rw[h.seq a,h.seq c];have:=Jq (ev:=ev) b
 grind
theorem Evs.uniq(h:Evs A0 ev an)(b:j<an)(c:k<an)(a:aX (ev j)=aX (ev k))(d:(ev j).seq=(ev k).seq):j=k:=by
 rcases Nat.lt_trichotomy j k with q|q|q
 ·have:=h.mono b c a q; omega
 ·exact q
 have:=h.mono c b a.symm q; omega
theorem Evs.ahead(h:Evs A0 ev an)(a:j<an)(b:k<an)(e:qm (ev k).bB (ev j)=true):j<k:=by
 have e:=jF.1 e;have d:=(I4 (h.rd k b)).2.2 (aX (ev j)) (h.g j a).MR.2;rw[h.seq a]at e;by_cases c:j<k
 ·exact c
 have:=FJ (ev:=ev) (i:=aX (ev j)) (show k<=j by omega); omega
theorem gZ(e:qm K (ev n)=true):dh ev K A0 (n+1)=(dh ev K A0 n).ru (ev n):=by show(if _ then _ else _)=_; simp_all
theorem jG(e:qm K (ev n)=false):dh ev K A0 (n+1)=dh ev K A0 n:=by show(if _ then _ else _)=_; simp_all
theorem Jr(h:Evs A0 ev an)(a:Nat)(ha:a<6)(d : ∀ i,i<6->K1 i<=K2 i) : ∀ m,m<=an->(∀ i,i<=m->(dh ev K1 A0 i).Ok)->(∀ i,i<=m->(dh ev K2 A0 i).Ok)->(∀ i,i<m->qm K1 (ev i)=true->(dh ev K1 A0 i).WR (ev i))->(∀ i,i<m->qm K2 (ev i)=true->(dh ev K2 A0 i).WR (ev i)) ->
 (∀ i,i<m->aX (ev i)=a->qm K2 (ev i)=true->qm K1 (ev i)=true)->(dh ev K1 A0 m).Le (dh ev K2 A0 m) a
 | 0,_,_,_,_,_,_=>Ab.Le.refl _ _
 | m+1,hm,o1,o2,v1,v2,ho=>by
   have f:=Jr h _ ha d m (by omega) (fun i c=>o1 i (by omega)) (fun i c=>o2 i (by omega)) (fun i c=>v1 i (by omega)) (fun i c=>v2 i (by omega)) (fun i c=>ho i (by omega))
   cases c1:qm K1 (ev m)with
   | true =>
     have b:=jF.2 (P_ (jF.1 c1) (d _ (h.g m (by omega)).MR.2));rw[gZ c1,gZ b];exact f.both (o1 m (by omega)) (o2 m (by omega)) (v1 m (by omega) c1).pre (v2 m (by omega) b).pre
   | false =>
     rw[jG c1]
     cases b:qm K2 (ev m)with
     | true =>
       rw[gZ b];exact f.step (o2 m (by omega)) (h.g m (by omega)) (v2 m (by omega) b).pre (fun e=>by have:=ho m (by omega) e b; simp_all) ha
     | false=>grind [jG]
theorem kI(h:Evs A0 ev an) : ∀ n,n<=an -> ∀ K,zV ev an K->(∀ i,i<=n->(dh ev K A0 i).Ok) /\ ∀ i,i<n->qm K (ev i)=true->(dh ev K A0 i).WR (ev i)
 | 0,_,K,_=>⟨fun i a=>(show i=0 by omega) ▸ h.ok0,fun i a=>L_ a (z_ _)⟩
 | n+1,hn,K,hc=>by
   obtain⟨o,v⟩:=kI h n (by omega) K hc;have m:qm K (ev n)=true->(dh ev K A0 n).WR (ev n):=fun c=>by
    obtain⟨p,r⟩:=kI h n (by omega) (ev n).bB (h.dc n (by omega));have f:=h.g n (by omega);have l:=Jr h _ f.MR.2 (hc.cl n (by omega) (jF.1 c)) n (by omega) p o r v (fun i a e t=>by
     have u:=h.mono (j:=i) (k:=n) (by omega) (by omega) e a;have b:=(I4 (h.rd n (by omega))).1;refine jF.2 ?_;have d:(ev n).bB (aX (ev n))=(ev n).seq-1:=by
      unfold dG at b; simp only[Q_,decide_eq_true_eq]at b; exact b.1.1.1.2
     rw[show aX (ev i)=aX (ev n)from e,d]; omega)
    grind [l.okE,h.tk]
   have s : ∀ i,i<n+1->qm K (ev i)=true->(dh ev K A0 i).WR (ev i):=fun i a e=>by
    grind
   refine⟨fun i a => ?_,s⟩;by_cases q:i=n+1
   ·subst q
    cases c:qm K (ev n)with
    | true=>rw[gZ c]; exact Ab.ams (o n (A_ _)) (m c).pre
    | false=>grind [jG]
   grind
end
end Rt
end
section
namespace Rt
section
variable {A0:Ab} {ev:Nat->dA} {an n m i j k:Nat} {K:Nat->Int}
theorem Nl(h:Evs A0 ev an)(a:j<an) : ∀ m,j<=m->m<=an->dh ev (ev j).bB A0 m=dh ev (ev j).bB A0 j
 | 0,h1,_=>by simp_all
 | m+1,h1,h2=>by
   by_cases e:j=m+1
   ·rw[e]
   ·have c:qm (ev j).bB (ev m)=false:=by
     cases q:qm (ev j).bB (ev m)with
     | true=>have:=h.ahead (show m<an by omega) a q; omega
     | false=>rfl
    rw[jG c];exact Nl h a m (by omega) (by omega)
theorem Rv{v:dA}(h:dG v=true):v.bB (aX v)=v.seq-1:=by
 unfold dG at h; simp only[Q_,decide_eq_true_eq]at h; exact h.1.1.1.2
theorem Nn(h:Evs A0 ev an)(d:zV ev an K)(b:j<an)(hr:fq K (ev j)=true)(h1:j<=m)(a:m<=an):(dh ev K A0 m).WR (ev j):=by
 obtain⟨l,p⟩:=kI h m a (ev j).bB (h.dc j b);obtain⟨o,v⟩:=kI h m a K d;obtain⟨r,s,n⟩:=I4 hr;have f:=h.g j b;have k:=Jr h _ f.MR.2 n m a l o p v (fun i q e c=>by
  refine jF.2 ?_;have:=jF.1 c;rw[show aX (ev i)=aX (ev j)from e]at this ⊢
  grind [Rv])
 grind [Nl,k.okE,h.tk]
def Rw(K:Nat->Int)(v:dA):Nat->Int:=aN K (aX v) (K (aX v)+1)
theorem acD(h:Evs A0 ev an)(a:j<an)(hr:fq K (ev j)=true)(hi:i<an)(b:i≠j):qm (Rw K (ev j)) (ev i)=qm K (ev i):=by
 have c:=(I4 hr).2.1;have:qm (Rw K (ev j)) (ev i)=true<->qm K (ev i)=true:=by
  rw[jF,jF];unfold Rw aN
  grind [h.uniq]
 simp_all
theorem KE(h:Evs A0 ev an)(a:j<an)(hr:fq K (ev j)=true) : ∀ m,m<=j->dh ev (Rw K (ev j)) A0 m=dh ev K A0 m
 | 0,_=>rfl
 | m+1,hm=>by
   have e:=acD h a hr (show m<an by omega) (show m≠j by omega)
   cases c:qm K (ev m)with
   | true=>rw[gZ (e.trans c),gZ c,KE h a hr m (by omega)]
   | false=>rw[jG (e.trans c),jG c,KE h a hr m (by omega)]
theorem Np(h:Evs A0 ev an)(b:zV ev an K)(a:j<an)(hr:fq K (ev j)=true) : ∀ m,j<m->m<=an->dh ev (Rw K (ev j)) A0 m=(dh ev K A0 m).ru (ev j)
 | 0,h1,_=>L_ h1 (z_ _)
 | m+1,h1,h2=>by
   have n:=(I4 hr).2.1;by_cases e:m=j
   ·subst e;have l:qm (Rw K (ev m)) (ev m)=true:=jF.2 (by simp_all [Rw,aN])
    grind [jF,gZ,jG,KE]
   ·have k:=Np h b a hr m (by omega) (by omega);have i:=acD h a hr (show m<an by omega) e
    cases c:qm K (ev m)with
    | true =>
      obtain⟨o,v⟩:=kI h (m+1) h2 K b;rw[gZ (i.trans c),gZ c,k];have d:(ev j).o≠(ev m).o:=fun q=>by
       have f:aX (ev j)=aX (ev m):=(by grind [aX]);have p:=h.mono a (show m<an by omega) f (by omega)
       grind [jF]
      exact Ab.abz (o m (by omega)) (Nn h b a hr (by omega) (by omega)).pre (v m (by omega) c).pre d (fun _ _=>WS.ne (h.g j a) (h.g m (by omega)) d)
    | false=>grind [jG]
theorem ahN(h:Evs A0 ev an)(a:zV ev an K)(b:j<an)(hr:fq K (ev j)=true):dh ev (Rw K (ev j)) A0 an=(dh ev K A0 an).ru (ev j):=by grind [Np]
end
end Rt
end
end Go.Proofs.YtabjalhnkndjaaaGreatDoor
namespace Go.Proofs.YtabjalhnkndjaaaGreatDoor.Fx
open Go.RowKit Go.MapKept
def kS(a b:Int):Value := .agg #[.int .i64 a,.int .u64 b]
structure Jk(a b:Int):Prop where
 a : -9223372036854775808<=a/\a<=9223372036854775807
 b:0<=b/\b<=18446744073709551615
theorem UW(h:kS a e=kS V d):a=V/\e=d:=by
 grind [kS]
theorem Ea{y:Nat->Value}{b:Int}(c:y 0 = .int .i64 a:=by rfl)(h1:y 1 = .int .u64 b:=by rfl):Value.agg (aA 2 y)=kS a b:=by
 unfold kS
 congr 1
 apply Array.ext';rw[MB];show [y 0,y 1]=_
 simp_all
structure AV(P:Program)(K:TypeId):Prop where
 kt:P.keyTypeAt 12 K=true
 fl:flatK P 12 K=some [some .i64,some .u64]
 ag:JV P K=true
section
variable {P:Program} {K:TypeId} {a b c d:Int} {w:World}
theorem AV.wide(h:AV P K):(match P.underlying K with|some (.array _ _)|some (.struct _)=>true|_=>false)=true:=by
 grind [h.ag,JV]
theorem Jk.fit(h:Jk a b):zX [some .i64,some .u64] (#[Value.int .i64 a,.int .u64 b]:Array Value).toList [.int .i64 a,.int .u64 b]:=by
 refine⟨?_,?_,trivial⟩
 ·simp[sM,aaE h.a]
 simp[sM,xk h.b]
theorem AV.eq(e:AV P K)(h1:Jk a b)(f:Jk c d)(w:World) : ∃ r:Bool,(Op.equal K (kS a b) (kS c d)).run P w = .ok r w/\(r=true<->kS a b=kS c d):=by
 refine⟨decide (a=c/\b=d),?_,?_⟩
 ·have:=tu w _ 9988 _ _ _ _ _ _ e.kt e.fl e.wide h1.fit f.fit (decide (a=c/\b=d)) (by simp);exact this
 grind [UW]
theorem AV.formed(c:AV P K)(h1:Jk a b):(kS a b).formed P K=true:=by
 grind [c.wide,c.fl,Value.formed,kS,flatK,xg]
theorem AV.Ry(c:AV P K)(h1:Jk a b)(d:Bool)(w:World):(Instr.checkKey d 10000 K (kS a b)).run P w = .ok () w:=by
 have h:=run_checkKey_deep d 9988 12 K c.kt;exact h w 12 (kS a b) _ (c.formed h1) (uK 12 K _ _ _ c.fl (by simpa [Value.cells,kS] using h1.fit))
theorem Rz(a b:Int):Instr.sameBits 10000 (kS a b) (kS a b)=true:=by
 simp_all [kS,Instr.sameBits]
end
def jV(w:World)(b n:Nat)(k1 k2:Nat->Int)(val:Nat->Value):Prop :=
 ∃ a c,w.heap[b]? = some (.map a c)/\Stamped a c/\a.size=n /\ ∀ i,i<n -> ∃ e,a[i]? = some e/\e.key=kS (k1 i) (k2 i)/\e.val=val i/\Jk (k1 i) (k2 i)
section
variable {w w':World} {b n:Nat} {k1 k2:Nat->Int} {val:Nat->Value}
theorem jV.lt(h:jV w b n k1 k2 val):b<w.heap.size:=by
 obtain⟨a,c,h,_⟩:=h
 grind
theorem jV.rT(h:jV w b n k1 k2 val)(e:w'.heap[b]? = w.heap[b]?):jV w' b n k1 k2 val:=by
 obtain⟨a,c,d,f⟩:=h;exact⟨a,c,e.trans d,f⟩
theorem jV.cK(h:jV w b n k1 k2 val)(a:eG m w w')(c:b≠m:=by omega):jV w' b n k1 k2 val:=by grind [h.rT,a.block,h.lt]
theorem jV.up(h:jV w b n k1 k2 val)(a:Below w.heap.size w w'):jV w' b n k1 k2 val:=h.rT (a.block b h.lt)
instance:Rt.Tr w w' (jV w b n k1 k2 val) (jV w' b n k1 k2 val):=⟨fun b h=>h.up b⟩
theorem jV.xK(h:jV w b n k1 k2 val)(a:Ty w b T):False:=by
 obtain⟨e,c,h,_⟩:=h;obtain⟨d,a⟩:=a
 simp_all
theorem jV.nA{a:List TypeId}(h:jV w b n k1 k2 val)(c:jk a w w')(_:True):jV w' b n k1 k2 val:=by grind [h.rT,c.block,h.lt,h.xK]
instance {a:List TypeId}:Rt.Tc a w w' (jV w b n k1 k2 val) (jV w' b n k1 k2 val) true:=⟨fun b h _=>h.nA b trivial⟩
theorem jV.Gg(h:jV w b n k1 k2 val)(a:eG b w w'):Zp b w w':=⟨a,fun _ c=>h.xK c⟩
theorem jV.fH(h:jV w b n k1 k2 val)(a:Zp m w w')(c:b≠m:=by omega):jV w' b n k1 k2 val:=h.cK a.s c
theorem jV.ok(h:jV w b n k1 k2 val)(hi:m<n):Jk (k1 m) (k2 m):=by
 obtain⟨a,c,_,_,_,d⟩:=h
 simp_all
theorem jV.qU{f:Nat->Value}(h:jV w b n k1 k2 val)(e : ∀ i,i<n->k1 i=X i/\k2 i=Y i/\val i=f i):jV w b n X Y f:=by
 obtain⟨g,c,j,k,l,m⟩:=h;exact⟨g,c,j,k,l,fun i o=>by
  simp_all⟩
theorem jV.inj(h:jV w b n k1 k2 val) : ∀ i j,i<n->j<n->k1 i=k1 j->k2 i=k2 j->i=j:=fun i j u v g k=>by
 obtain⟨f,c,_,⟨_,_,z⟩,hn,hg⟩:=h;obtain⟨x,d,r,_⟩:=hg i u;obtain⟨y,e,s,_⟩:=hg j v;rw[t_]at d e;obtain⟨o,d⟩:=d;obtain⟨p,e⟩:=e;have A:=List.pairwise_iff_getElem.1 z;have q : ∀ a c (l:a<f.size) (m:c<f.size),a<c->f[a].key≠f[c].key:=fun a c l m t=>by
  have:=A a c (by simpa using l) (by simpa using m) t
  simpa only[List.getElem_map,Array.getElem_toList] using this
 rcases Nat.lt_trichotomy i j with h1|h1|h1
 ·exact L_ (by rw[d,e,r,s,g,k]) (q i j o p h1)
 ·exact h1
 ·exact L_ (by rw[d,e,r,s,g,k]) (q j i p o h1)
end
theorem Cj(k1 k2:Nat->Int)(n:Nat)(a b:Int):(∃ j,j<n/\k1 j=a/\k2 j=b) \/ ∀ i,i<n -> ¬ (k1 i=a/\k2 i=b):=by
 grind
section
variable {P:Program} {f:Nat->Value} {w:World} {o:Oper} {K:TypeId}
variable {b n:Nat} {k1 k2:Nat->Int} {val:Nat->Value}
theorem RB(d:AV P K){x y:Int}(g:Jk x y)(w:World) : ∀(a:List MapEntry) (i:Nat),(∀ e∈a,∃ u v,e.key=kS u v/\Jk u v) ->
 ((Instr.findAsking K (kS x y) a i).run P w = .ok none w /\ ∀ e∈a,e.key≠kS x y) \/ ∃ j e,(Instr.findAsking K (kS x y) a i).run P w = .ok (some (i+j,e.val)) w/\a[j]? = some e/\e.key=kS x y
 | [],i,_ => .inl ⟨by rfl,by simp⟩
 | e::a,i,hall=>by
   obtain⟨u,v,l,m⟩:=hall e (by simp);obtain⟨r,b,f⟩:=d.eq g m w;rw[<- l]at b f
   cases r
   ·have o:e.key≠kS x y:=fun h=>by simp_all
    rcases RB d g w a (i+1) (fun y n=>hall y (by simp[n]))with ⟨c,k⟩|⟨j,e',c,k,h3⟩
    ·simp_all [Instr.findAsking]
    ·right;exact⟨j+1,e',by simp[Instr.findAsking,b,c,Nat.add_assoc,Nat.add_comm 1 j],by assumption,h3⟩
   ·right;exact⟨0,e,by simp[Instr.findAsking,b],rfl,(f.1 rfl).symm⟩
theorem jV.find(h:jV w b n k1 k2 val)(y:AV P K){x:Array MapEntry}(o:w.heap[b]? = some (.map x m))(p:Jk a d) :
 ((Instr.findKey K (kS a d) x.toList).run P w = .ok none w /\ ∀ i,i<n -> ¬ (k1 i=a/\k2 i=d)) \/ ∃ j,j<n/\k1 j=a/\k2 j=d/\(Instr.findKey K (kS a d) x.toList).run P w = .ok (some (j,val j)) w:=by
 obtain⟨f,e,g,k,l,c⟩:=h
 grind [List.getElem_of_mem,run_findKey_eq,y.wide,RB,UW]
theorem rU{E:TypeId}{ok:Bool}(m:Jk a d)(h:jV w b n k1 k2 val)(o:P.underlying T=some (.map K E))(k:AV P K)(v:(zeroValue E).run P w = .ok u w) :
 ((∀ i,i<n -> ¬ (k1 i=a/\k2 i=d))->(Instr.lookup T (.map (some b)) (kS a d) ok).run P w = .ok (if ok then .tuple #[u,.bool false]else u) w) /\
 ∀ j,j<n->k1 j=a->k2 j=d->(Instr.lookup T (.map (some b)) (kS a d) ok).run P w = .ok (if ok then .tuple #[val j,.bool true]else val j) w:=by
 have t:=h;obtain⟨q,c,f,_⟩:=t;have l:=k.Ry m q.isEmpty w
 rcases h.find k f m with ⟨g,r⟩|⟨j,x,hkj,acG,g⟩
 ·refine⟨fun _ => ?_,fun j x e y=>L_ ⟨e,y⟩ (r j x)⟩;unfold Instr.lookup;simp only[Sem.run_bind,run_underlying o,Result.andThen_ok,Go.MapKept.run_getObj_map f,Sem.run_pure,l,g,v]
 refine⟨fun z=>L_ ⟨hkj,acG⟩ (z j x),fun p s e y => ?_⟩;obtain rfl:p=j:=h.inj p j s x (e.trans hkj.symm) (y.trans acG.symm);unfold Instr.lookup;simp only[Sem.run_bind,run_underlying o,Result.andThen_ok,Go.MapKept.run_getObj_map f,Sem.run_pure,l,g]
variable {T E:TypeId} {x ix:Operand} {a r:Int} {z v:Value} {j:Nat}
theorem RD(g:o.op = .lookup T x ix false)(hx:ev f x = .map (some b))(hi:ev f ix=kS a r)(d:Jk a r)(h:jV w b n k1 k2 val)(j:P.underlying T=some (.map K E))(c:AV P K)(k:(zeroValue E).run P w = .ok z w)(e : ∀ i,i<n -> ¬ (k1 i=a/\k2 i=r)):cB P f o w z:=by
 unfold cB execOp;simp only[g,hx,hi,Sem.run_bind,((rU (ok:=false) d h j c k).1 e),Result.andThen_ok,Sem.run_pure]; rfl
theorem RF(k:o.op = .lookup T x ix false)(hx:ev f x = .map (some b))(hi:ev f ix=kS a r)(i:Jk a r)(h:jV w b n k1 k2 val)(l:P.underlying T=some (.map K E))(e:AV P K)(p:(zeroValue E).run P w = .ok z w)(g:j<n)(c:k1 j=a)(d:k2 j=r)(m:val j=v):cB P f o w v:=by
 subst m;unfold cB execOp;simp only[k,hx,hi,Sem.run_bind,((rU (ok:=false) i h l e p).2 j g c d),Result.andThen_ok,Sem.run_pure]; rfl
theorem Zq(g:o.op = .lookup T x ix true)(hx:ev f x = .map (some b))(hi:ev f ix=kS a r)(d:Jk a r)(h:jV w b n k1 k2 val)(j:P.underlying T=some (.map K E))(c:AV P K)(k:(zeroValue E).run P w = .ok z w)(e : ∀ i,i<n -> ¬ (k1 i=a/\k2 i=r)):cB P f o w (.tuple #[z,.bool false]):=by
 grind [execOp,Sem.run_bind,rU,Result.andThen_ok,Sem.run_pure]
theorem Zr(k:o.op = .lookup T x ix true)(hx:ev f x = .map (some b))(hi:ev f ix=kS a r)(i:Jk a r)(h:jV w b n k1 k2 val)(l:P.underlying T=some (.map K E))(e:AV P K)(p:(zeroValue E).run P w = .ok z w)(g:j<n)(c:k1 j=a)(d:k2 j=r)(m:val j=v):cB P f o w (.tuple #[v,.bool true]):=by
 subst m;unfold cB execOp;simp only[k,hx,hi,Sem.run_bind,((rU (ok:=true) i h l e p).2 j g c d),Result.andThen_ok,Sem.run_pure]; rfl
end
section
variable {P:Program} {w:World} {b n:Nat} {k1 k2:Nat->Int} {val:Nat->Value} {K:TypeId}
theorem Ck{E:TypeId}{v:Value}(C:Jk a d)(h:jV w b n k1 k2 val)(D:P.underlying T=some (.map K E))(A:AV P K) :
 (∀ j,j<n->k1 j=a->k2 j=d -> ∃ w',(Instr.mapUpdate T (.map (some b)) (kS a d) v).run P w = .ok () w'/\jV w' b n k1 k2 (aZ val j v)/\eG b w w'/\w'.heap.size=w.heap.size) /\
 ((∀ i,i<n -> ¬ (k1 i=a/\k2 i=d)) -> ∃ w',(Instr.mapUpdate T (.map (some b)) (kS a d) v).run P w = .ok () w'/\jV w' b (n+1) (aZ k1 n a) (aZ k2 n d) (aZ val n v)/\eG b w w'/\w'.heap.size=w.heap.size):=by
 have J:=h;obtain⟨f,c,x,t,l,u⟩:=J;have B:=A.Ry C false w
 rcases h.find A x C with ⟨m,G⟩|⟨j,g,hkj,acG,m⟩
 ·refine⟨fun j g e k=>L_ ⟨e,k⟩ (G j g),fun _ => ?_⟩;obtain⟨p,r,s⟩:=Pn (o' := .map (f.push { key:=kS a d,val:=v,born:=c }) (c+1)) x;have o:(Instr.mapUpdate T (.map (some b)) (kS a d) v).run P w = .ok () { w with heap:=w.heap.setIfInBounds b (.map (f.push { key:=kS a d,val:=v,born:=c }) (c+1)) }:=by
   unfold Instr.mapUpdate;simp only[Sem.run_bind,run_underlying D,Result.andThen_ok,Go.MapKept.run_getObj_map x,B,m];exact run_setObj_map _ x
  refine⟨_,o,⟨_,_,p,stamped_push t fun q M e => ?_,by simp[l],fun i H => ?_⟩,r,s⟩
  ·grind [List.getElem_of_mem,UW]
  by_cases e:i=n
  ·subst e;refine⟨_,by rw[Array.getElem?_push,d_ l.symm],?_,?_,?_⟩
   ·grind [aZ]
   ·grind [aZ]
   grind [aZ]
  obtain⟨z,F,O,R,Q⟩:=u i (by omega)
  grind [aZ]
 refine⟨fun y I e k => ?_,fun L=>L_ ⟨hkj,acG⟩ (L j g)⟩;obtain rfl:y=j:=h.inj y j I g (e.trans hkj.symm) (k.trans acG.symm);obtain⟨z,F,O,R,Q⟩:=u y g;obtain⟨p,r,s⟩:=Pn (o' := .map (f.modify y fun q => { q with key:=kS a d,val:=v }) c) x;have N:(Instr.keyThatStays (((f[y]?).map (·.key)).getD (kS a d)) (kS a d)).run P w = .ok (kS a d) w:=by
  rw[F];show(Instr.keyThatStays z.key (kS a d)).run P w=_
  simp_all [Instr.keyThatStays,Rz]
 have o:(Instr.mapUpdate T (.map (some b)) (kS a d) v).run P w = .ok () { w with heap:=w.heap.setIfInBounds b (.map (f.modify y fun q => { q with key:=kS a d,val:=v }) c) }:=by
  unfold Instr.mapUpdate;simp only[Sem.run_bind,run_underlying D,Result.andThen_ok,Go.MapKept.run_getObj_map x,B,m,N];exact run_setObj_map _ x
 refine⟨_,o,⟨_,_,p,stamped_modify t y _ (fun _ _=>rfl) (fun q _ M => ?_),by simp[l],fun i H => ?_⟩,r,s⟩
 ·simp_all
 grind [aZ]
end
section
variable {P:Program} {n0:Nat} {Q:kR} {f:Nat->Value} {w:World} {ops:Array Oper} {rest:List Oper} {o:Oper} {b n:Nat} {k1 k2:Nat->Int} {val:Nat->Value} {T K E:TypeId} {x ix v:Operand} {a r:Int} {u:Value} {j:Nat}
theorem L.asb(y:Region.wanted o (yf ops f)=true)(c:o.dst=none)(z:o.op = .mapUpdate T x ix v)(hx:ev f x = .map (some b))(hi:ev f ix=kS a r)(q:Jk a r)(B:ev f v=u)(h:jV w b n k1 k2 val)(t:P.underlying T=some (.map K E))(l:AV P K)(p:j<n)(d:k1 j=a)(e:k2 j=r)
 (m : ∀ w',jV w' b n k1 k2 (aZ val j u)->eG b w w'->w'.heap.size=w.heap.size->L P n0 ops Q rest f w'):L P n0 ops Q (o::rest) f w:=by
 obtain⟨w',A,g,i,k⟩:=(Ck (v:=u) q h t l).1 j p d e;have s:(execOp (ev f) o).run P w = .ok .skip w':=by
  grind [execOp,Sem.run_bind,Result.andThen_ok,Sem.run_pure]
 refine L.unit y s (by rw[c]; rfl) ?_;rw[c]; exact m w' g i k
theorem L.acH(s:Region.wanted o (yf ops f)=true)(c:o.dst=none)(t:o.op = .mapUpdate T x ix v)(hx:ev f x = .map (some b))(hi:ev f ix=kS a r)(l:Jk a r)(z:ev f v=u)(h:jV w b n k1 k2 val)(q:P.underlying T=some (.map K E))(j:AV P K)(m : ∀ i,i<n -> ¬ (k1 i=a/\k2 i=r))
 (k : ∀ w',jV w' b (n+1) (aZ k1 n a) (aZ k2 n r) (aZ val n u)->eG b w w'->w'.heap.size=w.heap.size->L P n0 ops Q rest f w'):L P n0 ops Q (o::rest) f w:=by
 obtain⟨w',y,d,e,g⟩:=(Ck (v:=u) l h q j).2 m;have p:(execOp (ev f) o).run P w = .ok .skip w':=by
  grind [execOp,Sem.run_bind,Result.andThen_ok,Sem.run_pure]
 refine L.unit s p (by rw[c]; rfl) ?_;rw[c]; exact k w' d e g
theorem L.acI(e:Region.wanted o (yf ops f)=true)(b:dF n0 o.dst=true)(h:o.op = .makeMap T none)
 (a : ∀ g w',g=w.heap.size->jV w' g 0 (fun _=>0) (fun _=>0) (fun _ => .pointer none)->eG w.heap.size w w'->w'.heap.size=w.heap.size+1->L P n0 ops Q rest (put f o.dst (.map (some g))) w'):L P n0 ops Q (o::rest) f w:=by
 have d:(execOp (ev f) o).run P w = .ok (.value (.map (some w.heap.size))) (w.alloc (.map #[] 0)):=by
  simp_all [execOp,run_makeMap']
 refine L.val e d b (a _ _ rfl ?_ (eG.alloc _ _) (by simp));exact⟨#[],0,by grind [iY],stamped_empty 0,rfl,fun i c=>L_ c (z_ _)⟩
theorem L.ang(u:Region.wanted o (yf ops f)=true)(q:dF n0 o.dst=true)(C:o.op = .range T x)(hx:ev f x = .map (some b))(h:jV w b n k1 k2 val)(t:P.underlying T=some (.map K E))
 (p : ∀ g w',g=w.heap.size->It w' g b n (fun _=>false)->eG w.heap.size w w'->w'.heap.size=w.heap.size+1->L P n0 ops Q rest (put f o.dst (.pointer (some ⟨g,0,none⟩))) w'):L P n0 ops Q (o::rest) f w:=by
 have r:=h;obtain⟨k,c,l,a,m,v⟩:=r;have F:=run_range_map (P:=P) w T K E b k c t l;have s:(execOp (ev f) o).run P w = .ok (.value (.pointer (some ⟨w.heap.size,0,none⟩))) (w.alloc (.mapIter (some b) c #[] c)):=by
  grind [execOp,Sem.run_bind,Result.andThen_ok,Sem.run_pure]
 refine L.val u s q (p _ _ rfl ?_ (eG.alloc _ _) (by simp));refine⟨k,c,c,#[],c,?_,by grind [iY],a.1,A_ _,m,a.1,A_ _,fun i j x y hx d e => ?_,fun i z => ?_⟩
 ·grind [iY]
 ·rw[t_]at hx d;obtain⟨A,hx⟩:=hx;obtain⟨B,d⟩:=d;have D:=List.pairwise_iff_getElem.1 a.2.1
  grind
 simp_all
theorem L.asc(F:Region.wanted o (yf ops f)=true)(C:dF n0 o.dst=true)(ho:o.op = .next x false)(hx:ev f x = .pointer (some ⟨m,0,none⟩))(h:jV w b n k1 k2 val)(hi:It w m b n q)
 (T:(∀ i,i<n->q i=true)->L P n0 ops Q rest (put f o.dst (.tuple #[.bool false])) w)
 (U : ∀ i w',i<n->q i=false->It w' m b n (aZ q i true)->EW w' m b i->eG m w w'->w'.heap.size=w.heap.size->L P n0 ops Q rest (put f o.dst (.tuple #[.bool true,kS (k1 i) (k2 i),val i])) w'):L P n0 ops Q (o::rest) f w:=by
 obtain⟨g,c,d,a,J,v,K,A,M,N,O,B,R,p⟩:=hi;obtain⟨es',c',u,kst,_,k4⟩:=h;rw[v]at u;simp only[Option.some.injEq,Obj.map.injEq]at u;obtain⟨rfl,rfl⟩:=u
 rcases run_next_at (P:=P) w o.type m b d J a g c K v A M with ⟨z,X⟩|⟨e,he,w1,hw1,X⟩
 ·have r:(execOp (ev f) o).run P w = .ok (.value (.tuple #[.bool false])) w:=by
   grind [execOp,Sem.run_bind,Result.andThen_ok,Sem.run_pure]
  refine L.val F r C<|T fun i hi => ?_;obtain⟨y,t,D⟩:=p i hi;rw[<- D]
  cases hq:a.contains y.born with
  | true=>rfl
  | false =>
    have l:y∈leftOf g a:=by
     grind [leftOf]
    grind
 have r:(execOp (ev f) o).run P w = .ok (.value (.tuple #[.bool true,e.key,e.val])) (Go.ChangeMaps.setBlock w1 m (.mapIter (some b) d (a.push e.born) c)):=by
  grind [execOp,Sem.run_bind,Result.andThen_ok,Sem.run_pure]
 have l:=Array.mem_toList_iff.1 he;unfold leftOf at l;rw[Array.mem_filter]at l;obtain⟨W,hns⟩:=l;obtain⟨i,hi,ei⟩:=Array.getElem_of_mem W;have S:g[i]? = some e:=by grind
 obtain⟨y,t,ky,vy,_⟩:=k4 i (by omega);rw[S]at t;obtain rfl:=C_ t;obtain⟨y2,G,D⟩:=p i (by omega);rw[S]at G;obtain rfl:=C_ G;have Z:q i=false:=by grind
 have s:w1.os=w.os/\w1.tape=w.tape/\w1.output=w.output/\w1.heap=w.heap:=by rcases hw1 with rfl|rfl <;> exact⟨rfl,rfl,rfl,rfl⟩
 have aa:(Go.ChangeMaps.setBlock w1 m (.mapIter (some b) d (a.push e.born) c)).heap.size=w.heap.size:=by
  show(w1.heap.setIfInBounds m _).size=_; grind
 have E:eG m w (Go.ChangeMaps.setBlock w1 m (.mapIter (some b) d (a.push e.born) c)) :=
  ⟨s.1,s.2.1,s.2.2.1,by omega,fun k _ hne=>by show(w1.heap.setIfInBounds m _)[k]? = _; grind⟩
 have Y:m<w1.heap.size:=by
  grind
 rw[ky,vy]at r;have H:(Go.ChangeMaps.setBlock w1 m (.mapIter (some b) d (a.push e.born) c)).heap[b]? = some (.map g c):=by grind [E.block]
 have I:(Go.ChangeMaps.setBlock w1 m (.mapIter (some b) d (a.push e.born) c)).heap[m]? = some (.mapIter (some b) d (a.push e.born) c):=by simp[Go.ChangeMaps.setBlock,Y]
 refine L.val F r C (U i _ (by omega) Z ⟨g,c,d,a.push e.born,c,H,I,A,B,N,O,B,R,fun j V => ?_⟩ ⟨g,c,d,a,e,H,I,S,kst.2.1⟩ E aa);obtain⟨y3,ab,hs3⟩:=p j V;refine⟨y3,ab,?_⟩
 grind [aZ]
theorem acJ{i:Nat}(q:o.op = .entry x)(hx:ev f x = .pointer (some ⟨m,0,none⟩))(h:jV w b n k1 k2 val)(hi:EW w m b i)(p:i<n):cB P f o w (.tuple #[kS (k1 i) (k2 i),val i]):=by
 obtain⟨d,c,s,v,e,j,k,l,r⟩:=hi;obtain⟨g,a,u,_,_,t⟩:=h
 grind [run_entry_at,execOp,Sem.run_bind,Result.andThen_ok,Sem.run_pure]
end
end Go.Proofs.YtabjalhnkndjaaaGreatDoor.Fx
namespace Go.Proofs.YtabjalhnkndjaaaGreatDoor
open Go.RowKit Go
namespace Rgq
def Xl{c:Type}(q:Nat)(J:c->World->Prop):Prop := ∀ s W a b,J s W->W.grownBy a b->(∀ r,b=some r->r=q)->J s a
def asf{d:Type}(F:Fence)(n:Nat)(P:Program)(g:Nat)(lb:Array Value)(j:d->Array Value)(i:World->World->Prop)(S:List d->Prop)(N q:Nat)(h:World->Prop):Prop :=
 ∀(l:Nat) (J:List d->World->Prop) (W:World),h W->Xl q J ->
  (∀ c x b,J c b->c.length<N->YieldAt F (n-1) P l (j x) b fun e a=>e = .returned (.bool true)/\J (c ++ [x]) a/\i b a) ->
  J [] W ->
  CallsIn F n P g (#[.func (.yield l) #[] #[]]++lb) W fun e a=>(∃ v,e = .returned v) /\ ∃ f,S f/\J f a
def Zt{c:Type}(q B:Nat)(I:c->World->Prop):Prop :=
 ∀ s W a b,I s W->W.grownBy a b->(∀ r,b=some r->r=q\/(B<=r /\ ∃ o:Obj,W.heap[r]? = some o/\o.isCells=false))->I s a
variable {F:Fence} {n:Nat} {P:Program}
theorem Zt.putObj{a:Type}{I:a->World->Prop}(W:Zt b k I){s:a}{o:Obj}(o':Obj)(f:I s h)(l:k<=m)(c:h.heap[m]? = some o)(d:o.isCells=false):I s (h.putObj m o') :=
 W s h _ (some m) f (grownBy_putObj' h m o') (fun r e=>by cases e; exact .inr ⟨l,o,c,d⟩)
theorem Zt.alloc{a:Type}{I:a->World->Prop}(W:Zt m k I){s:a}(o:Obj)(b:I s h):I s (h.alloc o) :=
 W s h _ none b (World.grownBy_alloc h o none) (fun r e=>by cases e)
def asg{a:Type}(b:World->World->Prop)(I:List a->World->Prop)(c:List a)(W:World):Exit->Act->World->Prop
 | .normal,_,W'=>KeepsOthers W W'/\b W W'/\I c W'
 | _,_,_=>False
theorem Nr(b:h.grownBy p E)(f : ∀ r,E=some r->r=m){o:Obj}(c:h.heap[k]? = some o)(d:k≠m:=by omega):p.heap[k]? = h.heap[k]? :=
 b.block k (t_.1 c).1 fun e=>d (f k e.symm)
theorem I5{α:Type}{g:Operand}{ps:Array Tmp}{assign body:Code}{Q:Exit->Act->World->Prop}{a:Act}{w:World}
 (hro:F.round=none) (h1:1<=n) {gf:Nat} {lb:Array Value} (hg:a.eval g = .func (.func gf) #[] lb) (hFg:F.fn gf) (eg : ∀ args w,(callFunc gf args).run P w = .ok (.enter gf args) w)
 {encs:α->Array Value} {Kp:World->World->Prop} {S:List α->Prop} {N q:Nat} {Ip:World->Prop} (hseq:asf F (n-1) P gf lb encs Kp S N q Ip) (hq:q<w.heap.size)
 (hIp:Ip w) (UY : ∀ W o,w.heap.size<=W.heap.size->Ip W->Ip (W.alloc o))
 (hKt : ∀ {A B C:World},Kp A B->Kp B C->Kp A C) (hKb : ∀(W:World) (l:Nat) (o o':Obj),w.heap.size<=l->W.heap[l]? = some o->o.isCells=false->o.isWalk=false->Kp W (W.putObj l o')) (hps : ∀ x,(encs x).size=ps.size)
 (I:List α->World->Prop) (hI:Zt q w.heap.size I) (h0:I [] w) (A₁:α->Act->Prop)
 (hassign : ∀(l:Nat) (x:α) (W:World),assign.wpIn (F.inRound l) (n-1-1) P (Exit.then (fun a' W'=>A₁ x a'/\W'=W) (fun _ _ _=>False)) { tmps:=(ps.zip (encs x)).foldl (fun t (p,v)=>t.setIfInBounds p v) a.tmps,defers := [] } W)
 (hbody : ∀(l:Nat) (pre:List α) (x:α) (W:World) (a':Act),A₁ x a'->I pre W->pre.length<N->body.wpIn (F.inRound l) (n-1-1) P (asg Kp I (pre ++ [x]) W) a' W)
 (hdone : ∀(D:Nat) (xs:List α) (W:World),w.heap.size<=D->S xs->I xs W->W.heap[D]? = some (.deferred (some []))->Q .normal { a with defers := { target := .collected D,args := #[] }::a.defers } W) :
 (Code.rangeFunc g ps assign body).wpIn F n P Q a w:=by
 refine wpIn_rangeFunc ?_;intro fn hfn;rw[hro];obtain⟨rec,hrec⟩ : ∃ rec:LoopState->Option Code->Loop,rec=fun st pe => { state:=st,pending:=pe,fn,tmps:=a.tmps,params:=ps,assign,body,defers:=w.heap.size }:=⟨_,rfl⟩;obtain⟨W1,hW1⟩ : ∃ W1,(w.alloc (.deferred (some []))).alloc (.loop (rec .ready none))=W1:=⟨_,rfl⟩;have hL1:W1.heap[w.heap.size+1]? = some (.loop (rec .ready none)):=by
  grind [World.alloc_heap_new,World.size_alloc]
 have hK1:W1.heap[w.heap.size]? = some (.deferred (some [])):=by
  grind [Below.heap_alloc,World.alloc_heap_new]
 have hI1:I [] W1:=by grind [hI.alloc]
 have hp1:Ip W1:=by rw[<- hW1]; exact UY _ _ (by simp) (UY _ _ (A_ _) hIp)
 refine⟨w.heap.size+1,[{ target := .collected w.heap.size,args := #[] }],W1,{ target := .fn (.func gf) lb,args := #[.func (.yield (w.heap.size+1)) #[] #[]] },W1,gf,
  #[.func (.yield (w.heap.size+1)) #[] #[]]++lb,W1,?_,?_,?_,?_,fun _=>h1,?_⟩
 ·grind [run_enterLoop_outer]
 ·simp only[resolve,hg];simp[go_sem]
 ·grind [Target.leads]
 ·grind [invoke]
 refine(hseq (w.heap.size+1)
  (fun pre W=>I pre W/\W.heap[w.heap.size+1]? = some (.loop (rec .ready none))/\W.heap[w.heap.size]? = some (.deferred (some [])))
  W1 hp1
  (fun s A B row hs hg' hr=>⟨hI s A B row hs.1 hg' (fun r e => .inl (hr r e)),(Nr hg' hr hs.2.1).trans hs.2.1,(Nr hg' hr hs.2.2).trans hs.2.2⟩)
  ?_ ⟨hI1,hL1,hK1⟩).mono ?_
 ·-- one round
  rintro pre x W ⟨hi,hl,hk⟩ hlen;have hlt:=(t_.1 hl).1;have hy:=run_yield (P:=P) (args:=encs x) hl (by simp_all);rw[hrec]at hy;refine⟨fn,_,assign,body,hy,roundIn_of_wpIn hfn (wpIn_mono (hassign _ x W) ?_)⟩;rintro e1 a1 w1 hq1
  cases e1 with
  | exit id=>assumption
  | goto t=>assumption
  | ret=>assumption
  | panic ch=>assumption
  | outgrown=>assumption
  | normal =>
  obtain⟨hA1,ew⟩:=hq1;rw[ew];refine⟨_,run_beginRound hl (by rw[hrec]),?_⟩;have hl2:(W.putObj (w.heap.size+1) (.loop { rec .ready none with state := .busy })).heap[w.heap.size+1]? = some (.loop { rec .ready none with state := .busy }):=World.putObj_heap_same hlt;have hk2:(W.putObj (w.heap.size+1) (.loop { rec .ready none with state := .busy })).heap[w.heap.size]? = some (.deferred (some [])):=(World.putObj_heap_other (by omega)).trans hk;have hw2:Kp W (W.putObj (w.heap.size+1) (.loop { rec .ready none with state := .busy })):=hKb _ _ _ _ (by omega) hl rfl rfl;refine wpIn_mono (hbody _ pre x _ a1 hA1 (hI.putObj _ hi (by omega) hl rfl) hlen) ?_;rintro e a3 W3 hp
  cases e with
  | normal =>
    obtain⟨hk3,hkp3,hi3⟩:=hp;have hl3:=hk3.same _ _ hl2 rfl;have hr:=run_endRound (P:=P) none hl3;rw[hrec]at hr hl3;refine⟨_,_,hr,rfl,⟨hI.putObj _ hi3 (by omega) hl3 rfl,?_,(World.putObj_heap_other (by omega)).trans (hk3.same _ _ hk2 rfl)⟩,hKt (hKt hw2 hkp3) (hKb _ _ _ _ (by omega) hl3 rfl rfl)⟩
    grind [World.putObj_heap_same]
  | ret=>exact hp.elim
  | exit id=>exact hp.elim
  | goto t=>exact hp.elim
  | panic ch=>assumption
  | outgrown=>assumption
 rintro e W2 ⟨⟨v,rfl⟩,xs,hS,hi,hl,hk⟩;exact⟨none,_,by have:=run_endLoop (P:=P) hl (by simp_all); rw[hrec]at this; exact this,hdone _ xs _ (A_ _) hS (hI.putObj _ hi (by omega) hl rfl) ((World.putObj_heap_other (by omega)).trans hk)⟩
end Rgq
namespace Fx
structure EX(a:Act)(n:Nat)(f:Nat->Value):Prop where
 size:a.tmps.size=n
 get : ∀ i,a.tmps.getD i undef=f i
theorem Fr.to0(h:Fr f m x):EX f m x:=⟨h.size,h.get⟩
theorem EX.to{a:Act}(h:EX a m x)(b:a.defers = []):Fr a m x:=⟨h.size,b,h.get⟩
theorem EX.ev{a:Act}{n:Nat}{f:Nat->Value}(h:EX a n f):a.eval=Fx.ev f:=by
 funext x
 cases x <;> simp only[Act.eval,Fx.ev]
 exact h.get _
theorem EX.put{a:Act}{n:Nat}{f:Nat->Value}(h:EX a n f){d:Option Nat}(e:dF n d=true)(v:Value):EX (a.put d v) n (Fx.put f d v):=by
 have c:Fr { a with defers := [] } n f:=⟨h.size,rfl,h.get⟩;have b:=c.put e v
 cases d with
 | none=>assumption
 | some d=>exact⟨b.size,b.get⟩
theorem EX.yf{a:Act}{n:Nat}{f:Nat->Value}(h:EX a n f)(ops:Array Oper):yielded ops a.tmps=Fx.yf ops f:=by
 have b:Fr { a with defers := [] } n f:=⟨h.size,rfl,h.get⟩;exact b.yf ops
theorem RG(h:EX (f.put (some m) u) k x):EX { tmps:=(#[m].zip #[u]).foldl (fun t (m,u)=>t.setIfInBounds m u) f.tmps,defers := [] } k x:=by
 have e:(#[m].zip #[u]).foldl (fun t (m,u)=>t.setIfInBounds m u) f.tmps=(f.put (some m) u).tmps:=by simp[Array.zip,Act.put]
 rw[e]; exact⟨h.size,h.get⟩
theorem xL(a:Act)(d:Option Nat)(v:Value):(a.put d v).defers=a.defers:=by cases d <;> rfl
def FR(ro:Option Nat):Fence := { Fence.wide with round:=ro }
def ng(o:Oper):Bool:=match o.op with | .defer _=>false|_=>true
def acK(n:Nat)(ds:List Deferred)(Q:kR):Exit->Act->World->Prop:=fun e a w => ∃ f,EX a n f/\a.defers=ds/\Q e f w
section
variable {P:Program} {n m:Nat} {ro:Option Nat} {Q:kR} {f:Nat->Value} {w:World} {o:Oper} {ops:Array Oper} {rest:List Oper}
theorem RH(ro:Option Nat)(ρ:Operand->Value)(h:ng o=true):o.semAt ro ρ=execOp ρ o :=
 Oper.semAt_eq ro ρ o fun c e=>by unfold ng at h; rw[e]at h; cases h
theorem LM.wpIn{a:Act}{K:Value->World->Prop}{K':Act->World->Prop}{e:Exit->Act->World->Prop}(ha:EX a n f)(i:ng o=true)(h:LM P f o w K)(d : ∀ v w',K v w'->K' (a.put o.dst v) w'):o.wpIn (FR ro) m P a w K' e:=by
 unfold Oper.wpIn;refine⟨fun _ _=>trivial,?_⟩;rw[RH _ _ i,ha.ev]
 rcases h with ⟨v,w',b,h⟩|⟨w',b,h⟩|⟨g,args,b,h⟩
 ·rw[b]; exact d v _ h
 ·rw[b]; exact d undef w' h
 rw[b,Oper.uponIn_enter];refine⟨fun h=>(by cases h),?_⟩
 have j : ∀ R,Calls P g args w R->CallsIn (FR ro) (m-1) P g args w R:=fun R c=>by
  cases ro with
  | none=>exact callsIn_wide.2 c
  | some l=>exact CallsIn.inRound l (callsIn_wide.2 c)
 grind [h.mono]
theorem L.toIn : ∀ {l:List Oper} {f:Nat->Value} {w:World},L P n ops Q l f w->l.all ng=true -> ∀ a,EX a n f->wpListIn (FR ro) m P ops (acK n a.defers Q) l a w
 | [],f,w,h,_,a,ha=>⟨f,ha,rfl,h⟩
 | o::rest,f,w,⟨hd,h⟩,hn,a,ha=>by
   rw[List.all_cons,Q_]at hn;unfold wpListIn;rw[ha.yf]
   rcases h with ⟨b,h⟩|⟨b,h⟩
   ·rw[d_ b];exact h.wpIn ha hn.1 fun v w' c=>by have:=L.toIn c hn.2 _ (ha.put hd v); rwa [xL]at this
   ·rw[b_ (by simp_all)];exact⟨fun _ _=>trivial,by have:=L.toIn h hn.2 _ (ha.put hd undef); rwa [xL]at this⟩
theorem Ns{a:Act}(ha:EX a n f)(h:L P n y.toArray Q y f w)(d:y.all ng=true:=by rfl)(g : ∀ e c w',acK n a.defers Q e c w'->H e c w'):(Code.region k y.toArray false).wpIn (FR ro) m P H a w :=
 wpIn_mono (wpIn_region_lit (L.toIn h d a ha)) g
def anh(m:Nat)(P:Program)(f:Nat->Value)(o:Oper)(w:World)(K:Value->World->Prop):Prop :=
 LM P f o w K \/ ∃ l c d a b,(execOp (ev f) o).run P w = .ok (.round l c d a b) w/\RoundIn (FR none) (m-1) P l c d a b w fun e w' => ∃ v,e = .returned v/\K v w'
def Ly(m:Nat)(P:Program)(n:Nat)(ops:Array Oper)(Q:kR):List Oper->(Nat->Value)->World->Prop
 | [],f,w=>Q .normal f w
 | o::rest,f,w=>dF n o.dst=true/\((Region.wanted o (yf ops f)=true/\anh m P f o w fun v w'=>Ly m P n ops Q rest (put f o.dst v) w')\/(Region.wanted o (yf ops f)=false/\Ly m P n ops Q rest (put f o.dst undef) w))
theorem anh.wpIn{a:Act}{K:Value->World->Prop}{K':Act->World->Prop}{c:Exit->Act->World->Prop}(ha:EX a n f)(b:ng o=true)(h:anh m P f o w K)(d : ∀ v w',K v w'->K' (a.put o.dst v) w'):o.wpIn (FR none) m P a w K' c:=by
 rcases h with h|⟨l,fn,tmps,assign,body,hr,h⟩
 ·exact h.wpIn ha b d
 unfold Oper.wpIn;refine⟨fun _ _=>trivial,?_⟩;rw[RH _ _ b,ha.ev,hr,Oper.uponIn_round];exact⟨fun h=>(by cases h),h.mono fun e w' ⟨v,g,i⟩=>by simp_all⟩
theorem Ly.to : ∀ {l:List Oper} {f:Nat->Value} {w:World},Ly m P n ops Q l f w->l.all ng=true -> ∀ a,EX a n f->wpListIn (FR none) m P ops (acK n a.defers Q) l a w
 | [],f,w,h,_,a,ha=>⟨f,ha,rfl,h⟩
 | o::rest,f,w,⟨hd,h⟩,hn,a,ha=>by
   rw[List.all_cons,Q_]at hn;unfold wpListIn;rw[ha.yf]
   rcases h with ⟨b,h⟩|⟨b,h⟩
   ·rw[d_ b];exact h.wpIn ha hn.1 fun v _ c=>by have:=Ly.to c hn.2 _ (ha.put hd v); rwa [xL]at this
   ·rw[b_ (by simp_all)];exact⟨fun _ _=>trivial,by have:=Ly.to h hn.2 _ (ha.put hd undef); rwa [xL]at this⟩
theorem W.akH(ops:Nat)(h:Ly ops P n y.toArray Q y f w)(j:y.all ng=true:=by rfl):W P n (.region m y.toArray false) Q f w:=fun a b =>
 (wpIn_wide (n:=ops)).1 (wpIn_mono (wpIn_region_lit (Ly.to h j a b.to0)) fun e k w' ⟨c,d,g,i⟩=>⟨c,d.to (g.trans b.defers),i⟩)
theorem Ly.nil(h:Q .normal f w):Ly m P n ops Q [] f w:=h
theorem Ly.v(v:Value)(hr:cB P f o w v)(h:Ly m P n ops Q rest (put f o.dst v) w)(b:Region.wanted o (yf ops f)=true:=by rfl)(a:dF n o.dst=true:=by rfl):Ly m P n ops Q (o::rest) f w:=⟨a,.inl ⟨b,.inl (.inl ⟨v,w,hr,h⟩)⟩⟩
theorem Ly.skip(b:Region.wanted o (yf ops f)=false)(a:dF n o.dst=true)(h:Ly m P n ops Q rest (put f o.dst undef) w):Ly m P n ops Q (o::rest) f w:=⟨a,.inr ⟨b,h⟩⟩
theorem Ly.call{g:FuncId}{args:Array Value}(b:Region.wanted o (yf ops f)=true)(hr:(execOp (ev f) o).run P w = .ok (.enter g args) w)(a:dF n o.dst=true)
 (h:Calls P g args w fun e w' => ∃ v,e = .returned v/\Ly m P n ops Q rest (put f o.dst v) w'):Ly m P n ops Q (o::rest) f w:=⟨a,.inl ⟨b,.inl (.inr (.inr ⟨g,args,hr,h⟩))⟩⟩
theorem Ly.yield{l:Nat}{a:List Operand}{args:List Value}{b:Array TypeId}(k:Region.wanted o (yf ops f)=true)(q:o.op = .call { callee := .value N,args:=a.toArray,argTypes:=b })(hx:ev f N = .func (.yield l) #[] #[])(s:a.map (ev f)=args)(j:dF n o.dst=true)
 (hy:YieldAt (FR none) (m-1) P l args.toArray w U) (h : ∀ e w',U e w' -> ∃ v,e = .returned v/\Ly m P n ops Q rest (put f o.dst v) w'):Ly m P n ops Q (o::rest) f w:=by
 obtain⟨g,p,c,d,r,i⟩:=hy;refine⟨j,.inl ⟨k,.inr ⟨l,g,p,c,d,?_,i.mono h⟩⟩⟩
 grind [execOp,resolve,Deferred.ofValue,invoke]
theorem acL{a:Act}(h:EX a n f)(b:Func):results b a.tmps=Dt b f:=by
 have c:Fr { a with defers := [] } n f:=⟨h.size,rfl,h.get⟩;exact Wh c b
theorem acM{a:Act}{b:Func}(h:EX a n f)(e:a.defers = [{ target := .collected k,args := #[] }])(c:w.heap[k]? = some (.deferred (some [])))
 (g:(Dt b f).run P (w.putObj k (.deferred none)) = .ok u (w.putObj k (.deferred none))) (d:U (.returned u) (w.putObj k (.deferred none))):bodyPostM (FR none) m P b U .ret a w:=by
 show LeavesInM (FR none) m P b a.tmps U a.defers .returning w;rw[e];exact⟨by simp,.inl ⟨k,_,rfl,run_takeDeferred c,u,by grind [acL],d⟩⟩
end
end Fx
end Go.Proofs.YtabjalhnkndjaaaGreatDoor
namespace Go.Proofs.YtabjalhnkndjaaaGreatDoor
open Go.Proofs.Tryz
open Fx hiding E9 Fa HY Jf Jk L R start
open Go.RowKit Rt
section
set_option maxRecDepth 20000
namespace Rt
def fV(x:Nat->Int):Nat->Int->Bool
 | 0,_=>false
 | n+1,k=>fV x n k || decide (x n=k)
def kJ(x p:Nat->Int):Nat->Int->Int
 | 0,_=>0
 | n+1,k=>if x n=k then p n else kJ x p n k
section
variable {x p:Nat->Int} {n j:Nat} {k:Int}
theorem ni : ∀ {n:Nat},j<n->x j=k->fV x n k=true
 | n+1,h,e=>by
   unfold fV;by_cases c:j=n
   ·simp_all
   ·rw[ni (show j<n by omega) e,Bool.true_or]
theorem FL : ∀ {n:Nat},(∀ i,i<n->x i≠k)->fV x n k=false
 | 0,_=>rfl
 | n+1,h=>by unfold fV; rw[FL fun i a=>h i (by omega),g_ (h n (by omega))]; rfl
theorem ji : ∀ {n:Nat},fV x n k=true -> ∃ j,j<n/\x j=k
 | n+1,h=>by
   unfold fV at h;rw[Bool.or_eq_true]at h
   rcases h with h|h
   ·obtain⟨j,a,e⟩:=ji h; grind
   grind
theorem FM(hi : ∀ a b,a<n->b<n->x a=x b->a=b)(c:j<n)(e:x j=k):kJ x p n k=p j:=by
 induction n with
 | zero=>omega
 | succ n ih =>
   grind [kJ]
def lV(x p:Nat->Int)(n:Nat):Nat->Int->List Int
 | 0,_ => []
 | d+1,k=>if fV x n k=true then k::lV x p n d (kJ x p n k)else []
def lW(x p:Nat->Int)(n:Nat):Nat->Int->Prop
 | 0,k=>fV x n k=false
 | d+1,k=>fV x n k=true->lW x p n d (kJ x p n k)
theorem rW(h:fV x n k=false):lV x p n m k = []:=by cases m with
 | zero=>rfl
 | succ m=>grind [lV]
theorem Nt(h:lW x p n m k)(a:fV x n k=true) : ∃ e,m=e+1/\lW x p n e (kJ x p n k)/\lV x p n m k=k::lV x p n e (kJ x p n k):=by
 cases m with
 | zero=>have h:fV x n k=false:=h; simp_all
 | succ m=>exact⟨m,rfl,h a,by show(if _ then _ else _)=_; simp_all⟩
end
structure JF(q:Nat)(J:List Int->World->Prop)(pre:List Int)(w:World):Prop where
 ab:Rgq.Xl q J
 j:J pre w
theorem JF.cK(q:JF m o M h)(a:eG m h p):JF m o M p :=
 ⟨q.ab,q.ab _ h p (some m) q.j ⟨a.os,a.tape,a.output,a.size,fun k c d=>a.block k c (fun e=>d (by rw[e]))⟩ (fun r e=>(C_ e).symm)⟩
theorem JF.up{w':World}(w:JF m o M h)(a:Below h.heap.size h w'):JF m o M w' :=
 ⟨w.ab,w.ab _ h w' none w.j ⟨a.os,a.tape,a.output,a.size,fun k c _=>a.block k c⟩ (fun r e=>by cases e)⟩
instance {q:Nat} {J:List Int->World->Prop} {a:List Int} {w w':World}:Rt.Tr w w' (JF q J a w) (JF q J a w'):=⟨fun b h=>h.up b⟩
structure yK(tp mb bt q:Nat)(w w':World):Prop where
 size:w.heap.size<=w'.heap.size
 t:w'.heap[tp]? = w.heap[tp]?
 m:w'.heap[mb]? = w.heap[mb]?
 b:w'.heap[bt]? = w.heap[bt]?
 q:w'.heap[q]? = w.heap[q]?
end Rt
theorem KG(x p:Nat->Int)(n a c:Nat)(k:Int)(w:World)(g:aM w a 1 (fun _ => .map (some c)) 141)(f:Mp w c n x (fun j=>aG (p j))) :
 Calls prog 168 #[(pt a),aG k] w fun e w'=>e = .returned (.bool (fV x n k))/\w'=w:=by
 refine bX func168 19 ?_;refine ay<|au aD<|aC<|aQ<|ay<|au (pt a)<|Lv aD (CU rfl rfl rfl)<|aC<|aL<|Wk<|sN<|ay<|au (pt a)<|au (pt a)<|au (pt a)<|Lv (.map (some c)) (aR g.aJ 0)<|au (aG k) ?_
 rcases uo x n k with ⟨b,h,d⟩|iN
 ·refine Lv (.tuple #[aG (p b),.bool true]) (Ci (z:=aG 0) rfl rfl rfl f underlying78 underlying26 (by rfl) h d rfl)<|au (.tuple #[aG (p b),.bool true])<|au (aG (p b))<|au aH<|au (aG (p b))<|au aH<|aC<|ay<|au aH<|au aH<|aC<|Wr<|aK aH<|⟨gN (Eq.symm (ni h d)),rfl⟩
 refine Lv (.tuple #[aG 0,.bool false]) (Ch (z:=aG 0) rfl rfl rfl f underlying78 underlying26 (by rfl) iN)<|au (.tuple #[aG 0,.bool false])<|au (aG 0)<|au aD<|au (aG 0)<|au aD<|aC<|ay<|au aD<|au aD<|aC<|Wr<|aK aD<|⟨gN (Eq.symm (FL iN)),rfl⟩
theorem aA3(f:Nat)(k:Int)(w:World) :
 Calls prog 207 #[(pt f),aG k] w fun e w' => ∃ c q,e = .returned (.func (.func 210) #[] #[(pt c),(pt q)])/\w.heap.size<=c/\w.heap.size<=q/\aM w' c 1 (fun _=>(pt f)) 76/\aM w' q 1 (fun _=>aG k) 26/\Below w.heap.size w w':=by
 refine bX func207 6 ?_;refine ay<|Ej (pt f) fun a v l d p y =>have g:=bL p.bP (Below.refl w.heap.size w);have m:=iy l;have t:=d.lt;Ej (aG k) fun b x h i r z => ?_;have⟨o,j⟩:=fB r.bP d g;have n:=gQ h g.size;have s:=gD h d.lt;have u:=i.lt;refine au (.nilFunc)<|aC<|ay<|Lv (.func (.func 210) #[] #[(pt a),(pt b)]) (qp (us := []) (vs := [(pt a),(pt b)]) rfl rfl rfl)<|au (.func (.func 210) #[] #[(pt a),(pt b)])<|aC<|Wr<|aK (.func (.func 210) #[] #[(pt a),(pt b)]) ?_;exact⟨a,b,rfl,m,n,o,i,j⟩
theorem ash(J:List Int->World->Prop)(l g o r q n u:Nat)(x p:Nat->Int)(k:Int)(w:World)(hT:aM w g 1 (fun _ => .map (some o)) 141)(hM:Mp w o n x (fun j=>aG (p j)))(hB:aM w r 1 (fun _=>(pt g)) 76)(S:aM w q 1 (fun _=>aG k) 26)(hinj : ∀ a b,a<n->b<n->x a=x b->a=b)(UZ:lW x p n u k)(hJ:JF q J [] w)(hd:r≠q/\g≠q)
 (hY : ∀ h v F,J h F->h.length<(lV x p n u k).length->Go.YieldAt (FR none) 1 prog l #[aG v] F fun e P=>e = .returned (.bool true)/\J (h ++ [v]) P/\yK g o r q F P) :
  Calls prog 210 #[.func (.yield l) #[] #[],(pt r),(pt q)] w fun e w'=>(∃ v,e = .returned v) /\ ∃ xs,xs=lV x p n u k/\J xs w':=by
 obtain⟨hd1,hd2⟩:=hd;refine bX func210 18<|Wb<|Ic (fun d f D => ∃ h:List Int,∃ c:Int,lW x p n d c/\h++lV x p n d c=lV x p n u k/\f 0 = .func (.yield l) #[] #[]/\f 1=(pt r)/\f 2=(pt q)/\aM D g 1 (fun _ => .map (some o)) 141/\Mp D o n x (fun j=>aG (p j))/\aM D r 1 (fun _=>(pt g)) 76/\aM D q 1 (fun _=>aG c) 26/\JF q J h D) (u) ⟨[],k,UZ,(List.nil_append _),(by rfl),(by rfl),(by rfl),hT,hM,hB,S,hJ⟩ ?_;rintro d f1 w1 ⟨h,c,hst,B,R,G,y,I,L,Z,M,N⟩;refine aQ<|aQ<|W.akH 2<|Ly.v _ (bE (x:=fun _=>(pt g)) rfl G (by kernel_rfl) Z.aJ (i:=0) (by omega) (by omega) rfl)<|Ly.v _ (bE (x:=fun _=>aG c) rfl y (by kernel_rfl) M.aJ (i:=0) (by omega) (by omega) rfl) ?_;by_cases s:(fV x n c)=true
 ·refine Ly.call (by rfl) (rC (args := [(pt g),aG c]) rfl rfl func168 rfl rfl) rfl<|(KG _ _ _ g o c _ I L).mono ?_;rintro e O ⟨A,hv1⟩;subst O;refine⟨.bool true,by rw[A,s],?_⟩;clear A;refine Ly.v (.bool true) (iJ rfl rfl) ?_;refine Ly.v (.func (.yield l) #[] #[]) (iJ rfl R) ?_;refine Ly.v (aG c) (bE (x:=fun _=>aG c) rfl y (by kernel_rfl) M.aJ (i:=0) (by omega) (by omega) rfl) ?_;obtain⟨d1,ed1,aA4,U⟩:=Nt hst s;refine Ly.yield (l:=l) (args := [aG c]) rfl rfl rfl (aav rfl) rfl (hY h c _ N.j (by have:=K_ List.length B; rw[U,E_,List.length_cons]at this; omega)) ?_;rintro e9 C ⟨rfl,hJ1,E⟩;refine⟨.bool true,rfl,?_⟩;have m6:aM C g 1 (fun _ => .map (some o)) 141:=(E.t).trans I;have m7:Mp C o n x (fun j=>aG (p j)):=L.rT E.m;have m8:aM C r 1 (fun _=>(pt g)) 76:=(E.b).trans Z;have m9:aM C q 1 (fun _=>aG c) 26:=(E.q).trans M;have m10:JF q J (h ++ [c]) C:=⟨N.ab,hJ1⟩;refine Ly.v (.bool true) (iE rfl rfl rfl) ?_;refine Ly.nil ?_;refine sN<|aP<|Wk<|sN<|Wb ?_;obtain⟨H,T,Q⟩:=ji s;refine nP [0,1,2,3,4,5,6] [4,0,0,4,4,3,3] [(5,0,[3,2,1,0]),(6,0,[0]),(5,3,[3]),(6,3,[3]),(5,4,[4]),(6,4,[4]),(6,5,[5])] fun qN eX iM => ?_;have⟨V,X,Y,K,m15⟩:=oK eX m6 m7 m8 m9 m10;refine Rs (pt g) (aR Y.aJ 0 (ha:=G)) ?_;refine aS (pt g)<|aS (pt g)<|Rs (.map (some o)) (aR V.aJ 0) ?_;refine Rs (aG c) (aR K.aJ 0 (ha:=y)) ?_;refine jP<|Lv (aG (p H)) (Df (z:=aG 0) rfl rfl rfl X underlying78 underlying26 (by rfl) T Q rfl)<|Ln<|jP<|jf K 0 (aG (p H)) (ha:=y) fun w3 m16 s2 z1 => ?_;have m17:aM w3 q 1 (fun _=>aG (p H)) 26:=eP m16;have gT:=gJ s2 K.ty;have⟨m18,m19,m20⟩:=wB gT V X Y;have mG:=m15.cK s2;refine Ln<|Rn<|bS ?_;have m22:aM w3 q 1 (fun _=>aG (kJ x p n c)) 26:=by rw[FM hinj T Q]; exact m17
  skip
  refine iA ⟨d1,(by omega),(h ++ [c]),(kJ x p n c),aA4,(by rw[List.append_assoc]; rw[U]at B; exact B),R,G,y,m18,m19,m20,m22,mG⟩ (by decide)
 rw[R_]at s;refine Ly.call (by rfl) (rC (args := [(pt g),aG c]) rfl rfl func168 rfl rfl) rfl<|(KG x p n g o c _ I L).mono ?_;rintro e O ⟨A,hv1⟩;subst O;refine⟨.bool false,by rw[A,s],?_⟩;clear A;refine Ly.v (.bool false) (iJ rfl rfl) ?_;refine Ly.skip (by rfl) rfl ?_;refine Ly.skip (by rfl) rfl ?_;refine Ly.skip (by rfl) rfl ?_;refine Ly.v (.bool false) (iF rfl rfl rfl) ?_;refine Ly.nil ?_;refine sN (aL (Wx (cZ (iC (dB (⟨.tuple #[],jQ Tryz.results210,?_⟩))))));exact⟨⟨_,rfl⟩,h,(by rw[rW s,List.append_nil]at B; exact B),N.j⟩
end
end Go.Proofs.YtabjalhnkndjaaaGreatDoor
namespace Go.Proofs.YtabjalhnkndjaaaGreatDoor
open Go.Proofs.Tryz
open Fx hiding E9 Fa HY Jf Jk L R start
open Go.RowKit Go Rt
namespace Rt
def BH(l:List Int):Nat->Value:=fun i=>aG (l.getD i 0)
theorem ahP : ∀ j,j<(M.length+1)*1->gP (BH M) (M.length*1) (bJ x (0*1) 1 (fun _=>aG a)) j=BH (M ++ [a]) j:=fun j l=>by
 unfold gP BH;by_cases h:j<M.length*1
 ·rw[d_ h,r_,r_,List.getElem?_append_left (by omega)]
 ·rw[b_ h];obtain rfl:j=M.length:=by omega
  unfold bJ;rw[d_]; simp
structure PI(gl bt q B:Nat)(w0:World)(pre:List Int)(w:World):Prop where
 ex : ∃ a c,aM w gl 1 (fun _ => .slice a pre.length c) 45/\aY w B 26 1 (.slice a pre.length c) pre.length (BH pre)/\(∀ r,(Value.slice a pre.length c).ownBlock=some r->r≠bt/\r≠q/\r≠gl)
 be:Below B w0 w
 lb:bt<w.heap.size
 lq:q<w.heap.size
theorem KeepsOthers.rX(w:eG m h p)(a : ∀ o,h.heap[m]? = some o->o.isCells=true):KeepsOthers h p :=
 ⟨w.size,fun k o b c=>by
  grind [w.block]⟩
theorem KeepsOthers.acO(w:h.grownBy p u.ownBlock)(a : ∀ r o,u.ownBlock=some r->h.heap[r]? = some o->o.isCells=true):KeepsOthers h p :=
 ⟨w.size,fun k o b c=>by
  grind [w.block]⟩
theorem FN(w:Ty h m T) : ∀ o,h.heap[m]? = some o->o.isCells=true:=fun o a=>by
 obtain⟨b,w⟩:=w;rw[w]at a; cases a; rfl
theorem yK.trans{d c a q:Nat}{A B C:World}(h:yK d c a q A B)(k:yK d c a q B C):yK d c a q A C:=⟨m_ h.size k.size,k.t.trans h.t,k.m.trans h.m,k.b.trans h.b,k.q.trans h.q⟩
theorem yK.of{a:Nat}(d:h.heap.size<=p.heap.size)(A : ∀ B,B=m\/B=b\/B=a\/B=k->p.heap[B]? = h.heap[B]?):yK m b a k h p:=⟨d,A _ (.inl rfl),A _ (.inr (.inl rfl)),A _ (.inr (.inr (.inl rfl))),A _ (.inr (.inr (.inr rfl)))⟩
theorem PI.own{c:Nat}(B:k<=h.heap.size)(l:b≠m)(v:k<=m)(u:k<=c):Rgq.Zt m c (PI b j m k h):=fun s W t p n a w=>by
 obtain⟨⟨d,f,q,o,i⟩,hbe,hlb,hlq⟩:=n;have g : ∀ r T,Ty W r T->r≠m->p≠some r:=fun r T y x e=>by
  grind [FN]
 refine⟨⟨d,f,?_,?_,i⟩,hbe.grown a (m_ B hbe.size) fun r e => ?_,n_ hlb a.size,n_ hlq a.size⟩
 ·exact(a.block b q.lt fun e=>g b _ q.ty l e.symm).trans q
 ·refine World.ownsRow.kept o a ?_
  cases hb:(Value.slice d s.length f).ownBlock with
  | none=>simp_all
  | some r=>exact .inr fun e=>g r _ (o.ty hb) (i r hb).2.1 e.symm
 grind
end Rt
open Rt
theorem ahQ(d f c q n e:Nat)(x p:Nat->Int)(k:Int)(u : ∀ a b,a<n->b<n->x a=x b->a=b)(y:lW x p n e k)(t:c≠q/\d≠q) :
 Rgq.asf (FR none) 2 prog 210 #[(pt c),(pt q)] (fun v:Int => #[aG v]) (yK d f c q) (fun z=>z=lV x p n e k) (lV x p n e k).length q
  (fun w=>aM w d 1 (fun _ => .map (some f)) 141/\Mp w f n x (fun j=>aG (p j))/\aM w c 1 (fun _=>(pt d)) 76/\aM w q 1 (fun _=>aG k) 26) :=
 fun l J W ⟨o,i,h,m⟩ s r g=>callsIn_wide.2 (ash J _ _ _ _ _ _ _ _ _ _ _ o i h m u y ⟨s,g⟩ t r)
set_option maxRecDepth 10000 in
theorem U0(x p:Nat->Int)(n H K E:Nat)(k:Int)(w:World)(hT:aM w H 1 (fun _ => .map (some K)) 141)(hM:Mp w K n x (fun j=>aG (p j)))(hinj : ∀ a b,a<n->b<n->x a=x b->a=b)(UZ:lW x p n E k)(hlen:(lV x p n E k).length<=1000000) :
 Calls prog 193 #[(pt H),aG k] w fun e w' => ∃ a c,e = .returned (.slice a (lV x p n E k).length c)/\aY w' w.heap.size 26 1 (.slice a (lV x p n E k).length c) (lV x p n E k).length (BH (lV x p n E k))/\Below w.heap.size w w':=by
 have ltp:=hT.lt;have lmb:=hM.lt;refine(callsIn_wide (n:=3)).1 (callsIn_of_wp_marks (F:=FR none) func193 rfl trivial ?_ rfl);have ha:EX { tmps := #[(pt H),aG k]++Array.replicate (Tryz.f193.ntmps-2) undef,defers := [] } 15 (Fx.start #[(pt H),aG k]):=by
  refine⟨by rfl,fun i => ?_⟩;simp only[Fx.start,Array.getD_eq_getD_getElem?,Array.getElem?_append,Array.getElem?_replicate]
  grind
 refine wpIn_seq<|Ns (Q:=fun e f1 N=>e = .normal/\f1 0=(pt H)/\f1 1=aG k/\f1 4=(pt w.heap.size)/\aM N w.heap.size 1 (fun _ => .slice none 0 0) 45/\Below w.heap.size w N) ha ?_ (by rfl) ?_
 ·refine DR (m:=1) (y:=fun _ => .slice none 0 0) (by rfl) rfl (by rfl) rfl fun g1 N kV Z s1 z1 => ?_;subst kV;exact Ln ⟨rfl,rfl,rfl,rfl,Z,s1.bP⟩
 rintro e a1 N ⟨f1,ha1,hd1,rfl,h0,R,U,Z,b1⟩;have lgl:=Z.lt;refine wpIn_seq<|wpIn_seq<|Ns (Q:=fun e Y J=>e = .normal/\Y 4=(pt w.heap.size)/\Below N.heap.size N J /\ ∃ t q,Y 8 = .func (.func 210) #[] #[(pt t),(pt q)]/\N.heap.size<=t/\N.heap.size<=q/\aM J t 1 (fun _=>(pt H)) 76/\aM J q 1 (fun _=>aG k) 26) ha1 ?_ (by rfl) ?_
 ·refine bA h0<|bA R<|lX (aA3 H k _) ?_;rintro e J ⟨t,q,he,lb,lq,mb',mq',hb⟩;exact⟨_,he,Ln ⟨rfl,U,hb,t,q,rfl,lb,lq,mb',mq'⟩⟩
 rintro e a2 J ⟨Y,ha2,hd2,rfl,U,b2,t,q,h8,lbt,lq,mbt,mq⟩;have hds:a2.defers = []:=hd2.trans hd1;have tbt:=mbt.lt;have tq:=mq.lt;have bq:t≠q:=fun e=>by
  subst e;have:=mbt.symm.trans mq
  simp_all
 have m2:=Z.cK (Sb b2) (u_ Z.lt);have s1:=b1.size;have s2:=b2.size;have b12:Below w.heap.size w J:=b1.trans (b2.mono s1);have hT2:aM J H 1 (fun _ => .map (some K)) 141:=(b12.block H ltp).trans hT;have hM2:Mp J K n x (fun j=>aG (p j)):=hM.rT (b12.block K lmb);have hgq:w.heap.size≠q:=by omega
 refine wpIn_block (Rgq.I5 (F:=FR none) rfl (by decide) (gf:=210) (lb := #[(pt t),(pt q)]) ?hg trivial (fun args w=>qD func210 (by rfl) rfl args w)
  (ahQ H K t q n E x p k hinj UZ ⟨bq,by omega⟩) tq ⟨hT2,hM2,mbt,mq⟩ ?UY (fun h k=>h.trans k) ?hKb (fun _=>rfl) (PI w.heap.size t q w.heap.size w) (PI.own (A_ _) hgq (by omega) (by omega))
  ⟨⟨none,0,m2,wm _ _ _ _ _,fun r e=>by cases e⟩,b12,tbt,tq⟩ (fun v a => ∃ f,EX a 15 f/\f 4=(pt w.heap.size)/\f 5=aG v) ?assign ?body ?done)
 case hg=>rw[ha2.ev]; exact h8
 case UY =>
  rintro W o hw ⟨i1,i2,i3,i4⟩;exact⟨(Below.heap_alloc W o H i1.lt).trans i1,i2.rT (Below.heap_alloc W o K i2.lt),(Below.heap_alloc W o t i3.lt).trans i3,(Below.heap_alloc W o q i4.lt).trans i4⟩
 case hKb =>
  intro W l o o' hl _ _ _;exact yK.of (by simp) fun r hr=>World.putObj_heap_other (by omega)
 case assign =>
  intro l v W;have hp:=ha2.put (d:=some 9) rfl (aG v);refine Ns (ro:=some l) (n:=15) (f:=put Y (some 9) (aG v)) (Q:=fun e f w'=>e = .normal/\f 4=(pt w.heap.size)/\f 5=aG v/\w'=W) (RG hp) ?_ (by rfl) ?_
  ·exact Lv (aG v) (fG rfl rfl) (Ln ⟨rfl,U,rfl,rfl⟩)
  ·rintro e a' w' ⟨f',hf',_,rfl,g4,g5,rfl⟩;exact⟨⟨f',hf',g4,g5⟩,rfl⟩
 case body =>
  rintro l I v W a' ⟨f',hf',g4,g5⟩ ⟨⟨A,C,X,o3,hne⟩,V,hpb,hpq⟩ hpl;have hbs:=V.size;have Gc:=X.lt;refine wpIn_block<|Ns (ro:=some l) (Q:=fun e f w'=>e = .normal/\KeepsOthers W w'/\yK H K t q W w'/\PI w.heap.size t q w.heap.size w (I ++ [v]) w') hf' ?_ (by rfl) ?_
  ·refine Lv (.slice A I.length C) (bE (x:=fun _ => .slice A I.length C) rfl g4 (by rfl) X.aJ (i:=0) (by omega) (by omega) rfl)<|bA g5<|uz (vs := [(0,aG v)]) (s:=1) (zc:=fun _=>aG 0) (y:=bJ (fun j=>aG 0) (0*1) 1 (fun _=>aG v)) (by rfl) rfl rfl underlying45 (by rfl) (by rfl) (by rfl) (by rfl) (by rfl) rfl fun g4' w4 yL m4 M z4 => ?_;have⟨m5,o5⟩:=fB M.bP X o3;have hB4:w.heap.size<=w4.heap.size:=m_ hbs M.size;refine xX (B:=w.heap.size) (s:=1) (bytes:=8) (k:=I.length) (m:=1) (v := .slice A I.length C) (x:=BH I) (by rfl) rfl rfl rfl underlying45 (by rfl) (by rfl) rfl rfl o5 m4.aJ (fun j hj=>by unfold bJ; split <;> rfl) (by omega) (by omega) (by omega) hB4 fun P sK w6 ho1 S vE hlt1 => ?_
   have m6:=m5.grown S (fun e=>(hne _ e).2.2 rfl);refine Fx.L.Om (x:=fun _ => .slice A I.length C) (u:=dz P (I.length+1) sK) (by rfl) rfl rfl g4 rfl (by rfl) (by rfl) m6 (i:=0) (by omega) fun O m7 G z7 => ?_;have e4 : ∀ r,r<W.heap.size->r≠w.heap.size->(∀ z,(Value.slice A I.length C).ownBlock=some z->z≠r)->O.heap[r]? = W.heap[r]? := fun r R h2 h3 =>
    (G.block r (n_ (n_ R M.size) S.size) h2).trans ((S.block r (n_ R M.size) fun e=>h3 r e.symm rfl).trans (M.block r R (u_ R)))
   have hg6:P≠t/\P≠q/\P≠w.heap.size:=by
    grind
   have mC:aM O w.heap.size 1 (fun _=>dz P (I.length+1) sK) 45:=aM.congr m7 (by
    intro j hj;obtain rfl:j=0:=(by omega);rfl)
   refine Ln ⟨rfl,?_,?_,⟨?_,?_,?_,?_⟩⟩
   ·refine(KeepsOthers.rX M fun o ho => ?_).trans ((KeepsOthers.acO S fun r o e ho=>FN (o5.ty e) o ho).trans (KeepsOthers.rX G (FN m6.ty)))
    grind
   ·refine yK.of (m_ M.size (m_ S.size G.size)) fun r hr=>e4 r ?_ ?_ fun z hz => ?_
    ·omega
    ·omega
    ·have R:=(o3.ge hz).1; grind
   ·refine⟨some ⟨P,0,none⟩,sK,?_,?_,fun r e => ?_⟩
    ·rw[E_]; omega
    ·rw[E_]; exact(ho1.congr ahP).cK G (fun e=>hg6.2.2 (C_ e))
    ·obtain rfl:P=r:=C_ e;omega
   ·refine G.below ((M.below V hbs hbs).grown S hB4 fun r e=>(o5.ge e).1) (m_ hB4 S.size) (A_ _)
   ·grind
   grind
  ·rintro e a5 w5 ⟨f5,_,_,rfl,q1,q2,q3⟩;exact⟨q1,q2,q3⟩
 case done =>
  rintro D xs W hD rfl ⟨⟨A,C,X,o3,hne⟩,V,hpb,hpq⟩ hK;have hcD : ∀ g,g<J.heap.size->g≠D:=fun g h e=>by omega
  have hkc : ∀ {g T},Ty W g T->g≠D:=fun ht e=>by
   have:=FN ht _ (e ▸ hK); cases this
  have hDn:(w.heap.size:Nat)≠D:=by omega
  show Code.wpIn _ _ _ _ _ _ _;refine wpIn_seq<|Ns (Q:=fun e f w'=>e = .normal/\f 4=(pt w.heap.size)/\eG w.heap.size W w'/\aM w' w.heap.size 1 (fun _ => .slice A (lV x p n E k).length C) 45) (f:=Y) ⟨ha2.size,ha2.get⟩ ?_ (by rfl) ?_
  ·refine Lv (.slice A (lV x p n E k).length C) (bE (x:=fun _ => .slice A (lV x p n E k).length C) rfl U (by rfl) X.aJ (i:=0) (by omega) (by omega) rfl)<|Fx.L.Om (x:=fun _ => .slice A (lV x p n E k).length C) (u := .slice A (lV x p n E k).length C) (by rfl) rfl rfl U rfl (by rfl) (by rfl) X (i:=0) (by omega) fun O m7 G z7 => ?_;exact Ln ⟨rfl,U,G,aM.congr m7 fun j hj=>by
    obtain rfl:j=0:=(by omega);rfl⟩
  rintro e a7 O ⟨f7,ha7,hd7,rfl,q4,G,m7⟩;have hK7:O.heap[D]? = some (.deferred (some [])):=(G.block D (t_.1 hK).1 (Ne.symm hDn)).trans hK;have m8:aM (O.putObj D (.deferred none)) w.heap.size 1 (fun _ => .slice A (lV x p n E k).length C) 45:=(World.putObj_heap_other hDn).trans m7;refine wpIn_ret (acM ha7 (hd7.trans (by rw[hds])) hK7 (rV Tryz.results193 ⟨_,q4,Yz m8.aJ (by rfl) (i:=0) (by omega) (by omega) rfl⟩) ⟨A,C,rfl,?_,?_⟩)
  ·have o7:=o3.cK G (fun e=>(hne _ e).2.2 rfl);exact World.ownsRow.kept o7 (grownBy_putObj' O D _) (.inr fun e=>by
    exact hkc (o3.ty e) rfl)
  ·exact(G.below V V.size (A_ _)).grown (grownBy_putObj' O D _) (m_ V.size G.size) fun r e=>by grind
end Go.Proofs.YtabjalhnkndjaaaGreatDoor
namespace Go.Proofs.YtabjalhnkndjaaaGreatDoor
open Fx hiding E9 Fa HY Jf Jk L R start
open Go.RowKit Go
namespace Rt
section
variable {x p x' p':Nat->Int} {n n' j d e:Nat} {k id pa:Int}
theorem Dh : ∀ {d:Nat} {k:Int},(lV x p n d k).length<=d
 | 0,k=>A_ _
 | d+1,k=>by
   unfold lV;split
   ·rw[List.length_cons]; exact Nat.succ_le_succ Dh
   simp_all
theorem FP : ∀ {d e:Nat} {k:Int},lW x p n d k->(lV x p n d k).length<=e->lW x p n e k
 | 0,0,k,h,_=>h
 | 0,e+1,k,h,_=>fun b=>by
   have h:fV x n k=false:=h
   simp_all
 | d+1,0,k,h,hl=>by
   show fV x n k=false
   grind [lV]
 | d+1,e+1,k,h,hl=>fun a=>by
   unfold lV at hl;rw[d_ a,List.length_cons]at hl;exact FP (h a) (by omega)
theorem RI : ∀ {d:Nat} {k:Int},lW x p n d k->lV x p n (d+1) k=lV x p n d k
 | 0,k,h=>by
   have h:fV x n k=false:=h
   grind [rW]
 | d+1,k,h=>by
   cases hk:fV x n k with
   | false=>grind [rW]
   | true =>
     show(if fV x n k=true then k::lV x p n (d+1) (kJ x p n k)else [])=(if fV x n k=true then k::lV x p n d (kJ x p n k)else []);rw[d_ hk,d_ hk,RI (h hk)]
theorem U1(h:lW x p n d k):lW x p n (d+1) k:=FP h (Nat.le_succ_of_le Dh)
theorem Po(h:lW x p n d k)(a:d<=e):lV x p n e k=lV x p n d k/\lW x p n e k:=by
 induction a with
 | refl=>simp_all
 | step _ ih=>grind [RI,U1]
structure Gi(n:Nat)(x p:Nat->Int):Prop where
 inj : ∀ a b,a<n->b<n->x a=x b->a=b
 Rj : ∀ j,j<n->0<x j/\x j<=18446744073709551615
 I6 : ∀ k,lW x p n 4 k
 Xm:n<=32
 par : ∀ j,j<n->p j=0 \/ ∃ i,i<j/\x i=p j
theorem Gi.zero(x p:Nat->Int):Gi 0 x p:=⟨fun a b h=>by omega,fun j h=>by omega,fun k h=>(nomatch h),by omega,fun j h=>by omega⟩
theorem Gi.ahR(h:Gi n x p):fV x n 0=false:=FL fun i a e=>by have:=h.Rj i a; omega
theorem Gi.asj(h:Gi n x p)(d:Nat):lV x p n d 0 = []:=rW h.ahR
theorem Gi.len(h:Gi n x p)(k:Int):(lV x p n 4 k).length<=1000000:=by grind [Dh]
def wN(x p:Nat->Int)(n:Nat)(id pa:Int):Int :=
 if id=0 then 1 else if fV x n id=true then 14 else if ¬ pa=0/\fV x n pa=false then 9 else if 32<=n\/4<=(lV x p n 4 pa).length then 6 else 0
inductive ani (n:Nat) (x p:Nat->Int) (id pa:Int):Int->Nat->(Nat->Int)->(Nat->Int)->Prop
 | no {c:Int} (hc:wN x p n id pa=c) (h0:c≠0):ani n x p id pa c n x p
 | yes (hc:wN x p n id pa=0):ani n x p id pa 0 (n+1) (aZ x n id) (aZ p n pa)
theorem KH(a:wN x p n id pa=0):id≠0/\fV x n id=false/\(pa=0\/fV x n pa=true)/\n<32/\(lV x p n 4 pa).length<4:=by
 grind [wN]
theorem mo(id k:Int):fV (aZ x n id) (n+1) k=(fV x n k || decide (id=k)):=by
 have e : ∀ m,m<=n->fV (aZ x n id) m k=fV x m k:=fun m=>by
  induction m with
  | zero=>exact fun _=>rfl
  | succ m ih =>
    grind [fV,aZ]
 grind [fV,aZ]
theorem yN(id pa k:Int):kJ (aZ x n id) (aZ p n pa) (n+1) k=if id=k then pa else kJ x p n k:=by
 have e : ∀ m,m<=n->kJ (aZ x n id) (aZ p n pa) m k=kJ x p m k:=fun m=>by
  induction m with
  | zero=>exact fun _=>rfl
  | succ m ih =>
    grind [aZ,kJ]
 grind [aZ,kJ]
theorem Gi.up(h:Gi n x p)(b:fV x n k=true):kJ x p n k=0\/fV x n (kJ x p n k)=true:=by
 obtain⟨j,a,e⟩:=ji b;rw[FM h.inj a e]
 rcases h.par j a with h1|⟨i,hi,h1⟩
 ·omega
 exact .inr (ni (by omega) h1)
theorem KI(h:Gi n x p)(c:fV x n id=false)(b:id≠0) : ∀(d:Nat) (k:Int),k≠id->lW x p n d k->lW (aZ x n id) (aZ p n pa) (n+1) d k
 | 0,k,hk,hs=>by
   show fV _ _ _=false;rw[mo,g_ (fun e=>hk e.symm),Bool.or_false]; exact hs
 | d+1,k,hk,hs=>fun a=>by
   rw[mo,g_ (fun e=>hk e.symm),Bool.or_false]at a;rw[yN,b_ (fun e=>hk e.symm)];refine KI h c b d _ ?_ (hs a)
   grind [h.up]
theorem Gi.put(h:Gi n x p)(g:wN x p n id pa=0)(f:0<=id/\id<=18446744073709551615):Gi (n+1) (aZ x n id) (aZ p n pa):=by
 obtain⟨d,i,z,w,v⟩:=KH g;have q:aZ x n id n=id:=by grind [aZ]
 have r : ∀ j,j<n->aZ x n id j=x j:=fun j c=>by grind [aZ]
 have s:aZ p n pa n=pa:=by grind [aZ]
 have t : ∀ j,j<n->aZ p n pa j=p j:=fun j c=>by grind [aZ]
 have y : ∀ j,j<n->x j≠id:=fun j c e=>by grind [ni]
 have m:pa≠id:=fun e=>by
  simp_all
 have o : ∀ j,j<n+1->j<n\/j=n:=fun j c=>by omega
 refine⟨fun a b u f e => ?_,fun j c => ?_,fun k => ?_,by omega,fun j c => ?_⟩
 ·grind [h.inj]
 ·rcases o j c with h1|rfl
  ·simp_all [h.Rj]
  omega
 ·by_cases l:k=id
  ·subst l;intro _;rw[yN,d_ rfl];exact KI h i d 3 pa m (FP (h.I6 pa) (by omega))
  grind [KI,h.I6]
 grind [h.par,ji]
theorem Di : ∀ {l m:List Int},l.Pairwise (· < ·)->m.Pairwise (· < ·)->(∀ k,k∈l<->k∈m)->l=m
 | [],[],_,_,_=>rfl
 | [],b::m,_,_,h=>by have:=(h b).2 (by simp); simp_all
 | a::l,[],_,_,h=>by have:=(h a).1 (by simp); simp_all
 | a::l,b::m,hl,hm,h=>by
   rw[List.pairwise_cons]at hl hm;have e:a=b:=by
    have c:=(h a).1 (by simp);have d:=(h b).2 (by simp)
    grind
   subst e;rw[Di hl.2 hm.2 fun k => ?_]
   grind
end
theorem Nv(S:Nat->Bool) : ∀ n,unseen S n<=n
 | 0=>A_ _
 | n+1=>by
   unfold unseen;have:=Nv S n
   grind
structure zy(n:Nat)(P:Nat->Prop)(S:Nat->Bool)(m:Nat)(τ:Nat->Nat)(kk:Nat):Prop where
 lt : ∀ q,q<m->τ q<n
 inj : ∀ q r,q<m->r<m->τ q=τ r->q=r
 mem : ∀ i,i<n->S i=true->P i -> ∃ q,q<m/\τ q=i
 yes : ∀ q,q<m->P (τ q)
 seen : ∀ q,q<m->S (τ q)=true
 le:m+kk<=n
 kk:kk=unseen S n
section
variable {n m kk:Nat} {P:Nat->Prop} {S:Nat->Bool} {τ:Nat->Nat}
theorem zy.start(n:Nat)(P:Nat->Prop)(τ:Nat->Nat):zy n P (fun _=>false) 0 τ (unseen (fun _=>false) n) :=
 ⟨fun _ h=>L_ h (z_ _),fun _ _ h=>L_ h (z_ _),fun _ _ h=>(nomatch h),fun _ h=>L_ h (z_ _),fun _ h=>L_ h (z_ _),by grind [Nv],rfl⟩
theorem zy.take(h:zy n P S m τ kk)(hi:k<n)(b:S k=false)(s:P k):zy n P (aZ S k true) (m+1) (aZ τ m k) (unseen (aZ S k true) n):=by
 have u:=um b n hi;have o:=h.kk;have p:=h.le;have d:aZ τ m k m=k:=by grind [aZ]
 have f : ∀ q,q<m->aZ τ m k q=τ q:=fun q a=>by grind [aZ]
 have v : ∀ q,q<m->τ q≠k:=fun q a e=>by grind [h.seen]
 have c : ∀ q,q<m+1->q<m\/q=m:=fun q a=>by omega
 refine⟨fun q a => ?_,fun q r a t e => ?_,fun j l i g => ?_,fun q a => ?_,fun q a => ?_,by omega,rfl⟩
 ·rcases c q a with h1|rfl
  ·simp_all [h.lt]
  omega
 ·grind [h.inj]
 ·grind [aZ,h.mem]
 ·grind [h.yes]
 grind [aZ,h.seen]
end
end Rt
end Go.Proofs.YtabjalhnkndjaaaGreatDoor
