/-
  What the proof of the law rests on, part 5: walks of functions, and plain laws; each says its conditions itself.
-/
import Derived.OrdersIn
import Derived.Shelf.SlSortCmp.NoneTotal
import Derived.Shelf.SlSortCmp.WholeK
import Derived.Lib.SliceRun
import Derived.Ground.SlsfProg
import Derived.Test.YtabjalhnkndjaaaGreatDoorProg
import Derived.Test.YtabjalhnkndjaaaGreatDoorZE4
set_option maxRecDepth 20000
set_option linter.unusedVariables false
set_option maxHeartbeats 1600000
set_option linter.unusedSimpArgs false
variable{m k b j A Q:Nat}{c q:Go.World}{x y Z:Nat->Go.Value}{f:List Int}{a d:Int}{h V:Go.Value}{p N:Go.Code}{X Y:Nat->Int}{T E:Go.TypeId}{s:Array Go.Value}{u O:Go.Operand}{D:Nat->Bool}{H:Nat->Nat->Int}{M:(Nat->Int)->(Nat->Int) × Int}{U:Option Go.Addr}{e:(Nat->Go.Value)->Go.World->Nat}{o:(Nat->Go.Value)->Go.World->Prop}{z:Bool}{K:Go.Ending->Go.World->Prop}
namespace Go.Proofs.YtabjalhnkndjaaaGreatDoor
open Go.Proofs.Tryz
open Fx hiding E9 Fa HY Jf Jk L R start
open Go.RowKit Rt
namespace Rt
def mD(m:fO)(v:dA):Int:=if m.T.has v.node=false then 9 else if 140737488355328<m.R (m.idx v.node) (aX v)+v.bF then 6 else 0
def GK(m:fO)(k:Int)(r:Nat->Int):fO := { m with R:=aZ m.R (m.idx k) r }
def yZ(m:fO)(v:dA):fO:=GK m v.node (fZ (m.R (m.idx v.node)) (aX v) (m.R (m.idx v.node) (aX v)+v.bF))
def xO(m:fO)(v:dA):(Nat->Int) × Int:=dX (m.R (m.idx v.node)) v.o v.dst v.bF
def nI(m:fO)(v:dA):Int:=if m.T.has v.node=false then 9 else if m.dF (v.dst-1).toNat=false then 10 else(xO m v).2
def Ig(m:fO)(v:dA):fO:=GK m v.node (xO m v).1
def NA(m:fO)(v:dA):fO := { m with dF:=aN m.dF (v.dst-1).toNat true }
def GL(m:fO)(v:dA):fO := { m with left:=aN m.left (aX v) true }
theorem Ju : ∀ n x w b,Mp w b n x (aZ (fP H) j (.agg (aA 54 (rv .i64 X))))->Mp w b n x (fP (aZ H j X)):=fun n x w b h=>h.qU fun i _=>⟨rfl,by unfold fP aZ; split <;> rfl⟩
end Rt
theorem Ms:AV prog 101:=⟨by kernel_rfl,by kernel_rfl,by kernel_rfl⟩
theorem adw(m:fO)(d B:Nat)(w:World)(h:pF w B d m)(v:dA)(Z:dG v=true)(b:Nat)(E:b<6)(Y:v.dst=(b:Int)+1)(j:Nat)(i:Nat)(n:aM w j 1 (fun _=>(pt d)) 50)(l:aM w i 14 (dH v) 30) :
 Calls prog 191 #[(pt j),(pt i)] w fun e w'=>e = .returned (.tuple #[])/\pF w' B d (NA m v)/\ko (KN m d) w w':=by
 have y:=h.c;have D:=h.t;have A:=h.p;have C:=h.r;have z:=h.g;have x:=h.a;have f:=h.ne;have F:(v.dst-1).toNat=b:=by omega
 refine bX func191 9<|nP [1,0,4,5,2,3,6,7] [4,0,4,0,0,0,0,3] [(7,0,[0]),(7,2,[2])] fun X k aa => ?_;have V:eG w.heap.size w X:=Sb k;have⟨o,N,O,P,Q,R,S,T⟩:=lY k y D A C z x n l;have s:=(vR (KN m d) w).then V (.inr (vR (KN m d) w).size);refine aS (pf i 10)<|Rs (pt d) (aR S.aJ 0)<|aS (pt d)<|aS (pt d)<|Rs (av v.dst) (aR T.aJ 10)<|Rp (av b) (fun _=>jK)<|Rp (pf d b) (fun _=>jh 6 1)<|jP<|jf o b aH fun W U q z1 =>have H:aM W d 29 (zN { m with dF:=aN m.dF b true }) 84:=U.to (adj E _);have G:=gJ q o.ty;have⟨I,J,K,L,M⟩:=xu G N O P Q R;have u:=s.then q (.inl (.inl rfl));Ln (Rn (⟨.tuple #[],jQ Tryz.results191,?_⟩));unfold NA; rw[F];exact⟨rfl,{ c:=H,t:=I,p:=J,r:=K,g:=L,a:=M,ne:=⟨f.mp,f.mr,f.mg,f.ma,f.pr,f.pg,f.pa,f.rg,f.ra,f.ga⟩,lB:=h.lB,pB:=h.pB,rB:=h.rB,gB:=h.gB,aB:=h.aB },u⟩
theorem ZA(m:fO)(b B:Nat)(w:World)(h:pF w B b m)(v:dA)(I:dG v=true)(j:Nat)(f:Nat)(n:aM w j 1 (fun _=>(pt b)) 50)(l:aM w f 14 (dH v) 30) :
 Calls prog 192 #[(pt j),(pt f)] w fun e w'=>e = .returned (.tuple #[])/\pF w' B b (GL m v)/\ko (KN m b) w w':=by
 have z:=h.c;have E:=h.t;have C:=h.p;have D:=h.r;have A:=h.g;have y:=h.a;have d:=h.ne;obtain⟨a,F,ho⟩ : ∃ a:Nat,a<6/\v.o=(a:Int)+1:=gY (kM I);have H:aX v=a:=by unfold aX; omega
 refine bX func192 9<|nP [1,0,4,5,2,3,6,7] [4,0,4,0,0,0,0,3] [(7,0,[0]),(7,2,[2])] fun Z k iM => ?_;have X:eG w.heap.size w Z:=Sb k;have⟨q,P,Q,R,S,T,U,V⟩:=lY k z E C D A y n l;have u:=(vR (KN m b) w).then X (.inr (vR (KN m b) w).size);refine aS (pt f)<|Rs (pt b) (aR U.aJ 0)<|aS (pt b)<|aS (pf b 6)<|Rs (av v.o) (aR V.aJ 0)<|Rp (av a) (fun _=>jK)<|Rp (pf b (a+6)) (fun _=>jh 6 1)<|jP<|jf q (a+6) aH fun Y W s z1 =>have J:aM Y b 29 (zN { m with left:=aN m.left a true }) 84:=W.to (adk (i:=a) F (by omega) _);have G:=gJ s q.ty;have⟨K,L,M,N,O⟩:=xu G P Q R S T;have x:=u.then s (.inl (.inl rfl));Ln (Rn (⟨.tuple #[],jQ Tryz.results192,?_⟩));unfold GL; rw[H];exact⟨rfl,{ c:=J,t:=K,p:=L,r:=M,g:=N,a:=O,ne:=⟨d.mp,d.mr,d.mg,d.ma,d.pr,d.pg,d.pa,d.rg,d.ra,d.ga⟩,lB:=h.lB,pB:=h.pB,rB:=h.rB,gB:=h.gB,aB:=h.aB },x⟩
theorem ZB(m:fO)(d B:Nat)(w:World)(h:pF w B d m)(v:dA)(hv:dG v=true)(Q:m.T.has v.node=true)(r:Nat->Int)(l:Nat)(k:Nat)(i:Nat)(hr:aM w l 54 (rv .i64 (r)) 67)(u:aM w k 1 (fun _=>(pt d)) 50)(q:aM w i 14 (dH v) 30) :
 Calls prog 181 #[(pt l),(pt k),(pt i)] w fun e w'=>e = .returned (.tuple #[])/\pF w' B d (GK m v.node r)/\ko (KN m d) w w':=by
 have K:=h.c;have P:=h.t;have N:=h.p;have O:=h.r;have M:=h.g;have J:=h.a;have b:=h.ne;obtain⟨y,s,j⟩:=ji Q;have I:m.idx v.node=y:=rY h.t.uU.inj s j;refine bX func181 10 ?_;refine nP [4,0,1,2,3,5,6,7] [4,0,0,4,0,4,4,3] [(7,0,[0]),(7,3,[3]),(7,5,[5]),(7,6,[6])] fun qN o iM => ?_;have s1:eG w.heap.size w qN:=Sb o;have⟨z,m2,m3,A,m5,m6,C,D,E⟩:=yQ o K P N O M J hr u q;have G:=(vR (KN m d) w).then s1 (.inr (vR (KN m d) w).size);refine aS (pf i 9)<|Rs (pt d) (aR D.aJ 0) ?_;refine aS (pt d)<|aS (pf d 20)<|Rs (.map (some m.rb)) (aR z.aJ 20) ?_;refine Rs (aG v.node) (aR E.aJ 9) ?_;refine Rs (.agg (aA 54 (rv .i64 (r)))) (dZ C.aJ 0) ?_;refine jP<|Fx.L.anf (by rfl) rfl rfl rfl rfl rfl A underlying79 underlying26 s j fun w1 S F z1 => ?_;have f:=A.Gg F;have U:=z.fH f;have V:=m2.fH f (b.mr);have W:=m3.fH f (b.pr);have X:=m5.fH f (Ne.symm b.rg);have Y:=m6.fH f (Ne.symm b.ra);have m16:=C.fH f;have m17:=D.fH f;have m18:=E.fH f;have H:=G.then F (.inl (.inr (.inr (.inr (.inl rfl)))));have Z:Mp w1 m.rb m.T.n m.T.x (fP (aZ m.R y (r))):=Ju _ _ _ _ S;refine Ln (Rn (⟨.tuple #[],jQ Tryz.results181,?_⟩));unfold GK; rw[I];exact⟨rfl,{ c:=U,t:=V,p:=W,r:=Z,g:=X,a:=Y,ne:=⟨b.mp,b.mr,b.mg,b.ma,b.pr,b.pg,b.pa,b.rg,b.ra,b.ga⟩,lB:=h.lB,pB:=h.pB,rB:=h.rB,gB:=h.gB,aB:=h.aB },H⟩
theorem adx(m:fO)(d B:Nat)(w:World)(h:pF w B d m)(v:dA)(hv:dG v=true)(Q:m.T.has v.node=true)(r:Nat->Int)(l:Nat)(k:Nat)(i:Nat)(hr:aM w l 54 (rv .i64 (r)) 67)(u:aM w k 1 (fun _=>(pt d)) 50)(q:aM w i 14 (dH v) 30) :
 Calls prog 190 #[(pt l),(pt k),(pt i)] w fun e w'=>e = .returned (.tuple #[])/\pF w' B d (GK m v.node r)/\ko (KN m d) w w':=by
 have K:=h.c;have P:=h.t;have N:=h.p;have O:=h.r;have M:=h.g;have J:=h.a;have b:=h.ne;have lC:=h.c.lt;have lT:=h.t.lt;have lP:=h.p.lt;have lR:=h.r.lt;have lG:=h.g.lt;have lA:=h.a.lt;have lgr:=hr.lt;have lgl:=u.lt;have lge:=q.lt;obtain⟨y,s,j⟩:=ji Q;have I:m.idx v.node=y:=rY h.t.uU.inj s j;refine bX func190 10 ?_;refine nP [4,0,1,2,3,5,6,7] [4,0,0,4,0,4,4,3] [(7,0,[0]),(7,3,[3]),(7,5,[5]),(7,6,[6])] fun qN o iM => ?_;have s1:eG w.heap.size w qN:=Sb o;have⟨z,m2,m3,A,m5,m6,C,D,E⟩:=yQ o K P N O M J hr u q;have G:=(vR (KN m d) w).then s1 (.inr (vR (KN m d) w).size);refine aS (pf i 9)<|Rs (pt d) (aR D.aJ 0) ?_;refine aS (pt d)<|aS (pf d 20)<|Rs (.map (some m.rb)) (aR z.aJ 20) ?_;refine Rs (aG v.node) (aR E.aJ 9) ?_;refine Rs (.agg (aA 54 (rv .i64 (r)))) (dZ C.aJ 0) ?_;refine jP<|Fx.L.anf (by rfl) rfl rfl rfl rfl rfl A underlying79 underlying26 s j fun w1 S F z1 => ?_;have f:=A.Gg F;have U:=z.fH f;have V:=m2.fH f (b.mr);have W:=m3.fH f (b.pr);have X:=m5.fH f (Ne.symm b.rg);have Y:=m6.fH f (Ne.symm b.ra);have m16:=C.fH f;have m17:=D.fH f;have m18:=E.fH f;have H:=G.then F (.inl (.inr (.inr (.inr (.inl rfl)))));have Z:Mp w1 m.rb m.T.n m.T.x (fP (aZ m.R y (r))):=Ju _ _ _ _ S;refine Ln (Rn (⟨.tuple #[],jQ Tryz.results190,?_⟩));unfold GK; rw[I];exact⟨rfl,{ c:=U,t:=V,p:=W,r:=Z,g:=X,a:=Y,ne:=⟨b.mp,b.mr,b.mg,b.ma,b.pr,b.pg,b.pa,b.rg,b.ra,b.ga⟩,lB:=h.lB,pB:=h.pB,rB:=h.rB,gB:=h.gB,aB:=h.aB },H⟩
namespace Rt
theorem XA{v:dA}(h:dG v=true)(c:v.aI=5) : ∃ b:Nat,b<6/\v.dst=(b:Int)+1:=by
 unfold dG at h;simp only[Q_]at h;have a:=h.2;unfold eU at a;rw[b_,b_,b_,b_,d_ c]at a;unfold oO at a;simp only[Q_]at a;exact gY a.2.1
end Rt
theorem ady(m:fO)(k B:Nat)(w:World)(h:pF w B k m)(v:dA)(O:dG v=true)(hkd:v.aI=2)(hRb : ∀ i,i<m.T.n -> ∀ p,p<54->0<=m.R i p/\m.R i p<=1125899906842624) :
 Calls prog 171 #[(pt k),.agg (aA 14 (dH v))] w fun e w'=>yD w B k m (yZ m v) (mD m v) e w':=by
 have hC:=h.c;have hT:=h.t;have hP:=h.p;have hR:=h.r;have hG:=h.g;have hA:=h.a;have hN:=h.ne;have lC:=h.c.lt;have lT:=h.t.lt;have lP:=h.p.lt;have lR:=h.r.lt;have lG:=h.g.lt;have lA:=h.a.lt;obtain⟨a,ha,ho⟩ : ∃ a:Nat,a<6/\v.o=(a:Int)+1:=gY (kM O);have N:aX v=a:=by unfold aX; omega
 refine bX func171 39 ?_;refine ay<|Ej (pt k) fun q w1 kV P s1 z1 => ?_;have⟨m2,m4,m5,m6,m7,X⟩:=oL s1.bP hC hP hR hG hA (Below.refl w.heap.size w);have tJ:=iy kV;have⟨rJ,Ed,Bo,FU,DX⟩:=Du kV hC.lt hP.lt hR.lt hG.lt hA.lt;have vB:=P.lt;refine oq fun f w2 nN m8 s2 z2 => ?_;have⟨m9,m11,kY,m13,m14,m15,b2⟩:=kU s2.bP m2 m4 m5 m6 m7 P X;have xw:=gQ nN X.size;have⟨RZ,KP,KQ,EI,KR,GI⟩:=J3 nN m2.lt m4.lt m5.lt m6.lt m7.lt P.lt;have zR:=m8.lt;refine au (.nilFunc)<|au (av 0)<|aC<|aQ ?_;refine nP [4,0,1,2,3,5,6,7,8,9,10,11,12] [1,0,0,1,0,1,1,0,0,0,2,3,0] [(11,0,[0]),(11,3,[3]),(11,5,[5]),(11,6,[6]),(11,10,[10]),(12,10,[10]),(12,11,[11])] fun qN eX iM => ?_;have⟨F,m18,G,m20,mG,u,y,A⟩:=lY eX m9 m11 kY m13 m14 m15 m8 b2;refine aS (pf f 9)<|lI (v:=(pt k)) (by rfl) (by rfl) (mE _) (fun H j=>bE (x:=fun _=>(pt k)) rfl rfl (by kernel_rfl) (u.aJ.below j (by have:=u.lt; omega)) (i:=0) (by omega) (by omega) rfl) ?_;refine aS (pt k)<|aS (pf k 20)<|lI (v := .map (some m.rb)) (by rfl) (by rfl) (mE _) (fun H j=>bE (x:=zN m) rfl rfl (by kernel_rfl) (F.aJ.below j (by have:=F.lt; omega)) (i:=20) (by omega) (by omega) rfl) ?_;refine lI (v:=aG v.node) (by rfl) (by rfl) (mE _) (fun H j=>bE (x:=dH v) rfl rfl (by kernel_rfl) (y.aJ.below j (by have:=y.lt; omega)) (i:=9) (by omega) (by omega) rfl) ?_
 rcases uo m.T.x m.T.n v.node with ⟨b,E,K⟩|iN
 ·refine lI (v := .tuple #[.agg (aA 54 (rv .i64 (m.R b))),.bool true]) (by rfl) (by rfl) (mE _) (fun H j=>Ci (z := .agg (aA 54 (rv .i64 (fun _=>0)))) rfl rfl rfl (G.up j) underlying79 underlying26 (by kernel_rfl) E K rfl) ?_;refine aS (.tuple #[.agg (aA 54 (rv .i64 (m.R b))),.bool true])<|aS (.agg (aA 54 (rv .i64 (m.R b))))<|aS aH<|mF<|oJ 54 (rv .i64 (fun _=>0)) fun d w3 nO Q s4 z3 => ?_;have⟨mY,m32,Y⟩:=iP s4.bP u y A;have Gc:=gQ nO A.size;have⟨Va,Vb,Vd,Ve,adz,adA,adB⟩:=Oz nO F.lt m18.lt G.lt m20.lt mG.lt u.lt y.lt;have Gr:=Q.lt;refine Ln ⟨s4.bP,?_⟩;refine jP<|dY Q 0 fun w4 oD s5 z4 => ?_;have pz:aM w4 d 54 (rv .i64 (m.R b)) 67:=aO oD;have gT:=gJ s5 Q.ty;have⟨pR,qx⟩:=lZ gT mY m32;have b5:=s5.below Y Y.size (by omega);refine Ln<|aS aH<|dJ<|aQ<|ay<|au aH<|au aD<|aC<|aL<|Wk<|sN<|aQ<|aQ ?_;have L:m.idx v.node=b:=rY h.t.uU.inj E K;have s:m.T.has v.node=true:=ni E K;have q1:=hRb b E a (by omega);have q2:=nX O (.inl hkd);refine nP [0,3,6,9,1,2,4,5,7,8,10,11] [0,4,0,0,0,4,0,4,0,0,0,3] [(11,1,[1]),(11,5,[5]),(11,7,[7])] fun Fu iZ rM => ?_;have⟨uN,S,U,Z⟩:=jv iZ pR qx pz b5;refine aS (pt f)<|aS (pt d)<|aS (pf f 11)<|aS (pt d)<|Rs (av v.o) (aR S.aJ 0) ?_;refine Rp (av a) (fun _=>jK)<|Rp (pf d a) (fun _=>jh 6 1)<|Rs (av ((m.R b) a)) (aR U.aJ a) ?_;refine Rs (av v.bF) (aR S.aJ 11) ?_;refine Rp (av (((m.R b) a)+v.bF)) (fun _=>gu)<|Rp (pf d a) (fun _=>jh 6 1)<|jP<|jf U a (av (((m.R b) a)+v.bF)) fun w5 yG s7 z5 => ?_;have V:aM w5 d 54 (rv .i64 (fZ (m.R b) a (((m.R b) a)+v.bF))) 67:=yG.to (yA _ _ _ _);have jC:=gJ s7 U.ty;have⟨oo,W⟩:=lZ jC uN S;have I:=s7.below Z Z.size (by omega);refine Ln<|dJ<|ay<|au (pt f)<|Lv (av v.o) (aR W.aJ 0)<|Lv (av a) jK<|au (pt d)<|Lv (pf d a) (jh 6 1)<|Lv (av ((fZ (m.R b) a (((m.R b) a)+v.bF)) a)) (aR V.aJ a) ?_;by_cases C:140737488355328<((fZ (m.R b) a (((m.R b) a)+v.bF)) a)
  ·refine Lv aH (lK C)<|aC<|aP<|ay<|au (.nilFunc)<|au (av 6)<|aC<|Wr<|sR<|aK (.tuple #[.nilFunc,av 6]) ?_;have l:mD m v=6:=(by unfold mD; rw[b_ (by rw[s]; decide)]; exact d_ (by rw[L,N]; simpa [fZ] using C));exact⟨⟨.nilFunc,0,#[],by rw[l],rfl,fun J=>L_ (l.symm.trans J) (by first|decide|omega|assumption)⟩,I⟩
  refine Lv aD (lM C)<|aC<|aL<|Wk<|sN<|ay<|Lv (.func (.func 181) #[] #[(pt d),(pt q),(pt f)]) (qp (us := []) (vs := [(pt d),(pt q),(pt f)]) rfl rfl rfl)<|au (.func (.func 181) #[] #[(pt d),(pt q),(pt f)])<|au (av 0)<|aC<|Wr<|aK (.tuple #[.func (.func 181) #[] #[(pt d),(pt q),(pt f)],av 0]) ?_;have em:yZ m v=GK m v.node (fZ (m.R b) a (m.R b a+v.bF)):=by unfold yZ; rw[L,N]
  rw[em];have l:mD m v=0:=by unfold mD; rw[b_ (by rw[s]; decide)]; exact b_ (by rw[L,N]; simpa [fZ] using C)
  exact⟨⟨_,181,#[(pt d),(pt q),(pt f)],by rw[l],rfl,fun _=>⟨rfl,⟨_,_,func181,rfl,rfl⟩,fun w2 D=>(ZB m k B w2 ((h.up I).up D) v O s _ _ _ _ (V.cK (Sb D) (u_ V.lt)) (oo.cK (Sb D) (u_ oo.lt)) (W.cK (Sb D) (u_ W.lt))).mono fun _ _ M=>⟨M.1,M.2.1,M.2.2.mono fun _ s => .inl s⟩⟩⟩,I⟩
 refine lI (v := .tuple #[.agg (aA 54 (rv .i64 (fun _=>0))),.bool false]) (by rfl) (by rfl) (mE _) (fun H j=>Ch (z := .agg (aA 54 (rv .i64 (fun _=>0)))) rfl rfl rfl (G.up j) underlying79 underlying26 (by kernel_rfl) iN) ?_;refine aS (.tuple #[.agg (aA 54 (rv .i64 (fun _=>0))),.bool false])<|aS (.agg (aA 54 (rv .i64 (fun _=>0))))<|aS aD<|mF<|oJ 54 (rv .i64 (fun _=>0)) fun g4 w6 yL pE s8 z6 => ?_;have b8:=bL s8.bP A;have Uw:=gQ yL A.size;have⟨aBl,aBm,anY,anZ,aoa,aob,aoc⟩:=Oz yL F.lt m18.lt G.lt m20.lt mG.lt u.lt y.lt;have TR:=pE.lt;refine Ln ⟨s8.bP,?_⟩;refine jP<|dY pE 0 fun w7 qg s9 z7 => ?_;have sS:aM w7 g4 54 (rv .i64 (fun _=>0)) 67:=aO qg;have b9:=s9.below b8 b8.size (by omega);refine Ln<|aS aD<|dJ<|aQ<|ay<|au aD<|au aH<|aC<|aP<|ay<|au (.nilFunc)<|au (av 9)<|aC<|Wr<|sR<|aK (.tuple #[.nilFunc,av 9]) ?_;have l:mD m v=9:=by unfold mD; exact d_ (FL iN)
 exact⟨⟨.nilFunc,0,#[],by rw[l],rfl,fun J=>L_ (l.symm.trans J) (by first|decide|omega|assumption)⟩,b9⟩
theorem aic(m:fO)(f B:Nat)(w:World)(h:pF w B f m)(v:dA)(S:dG v=true)(hkd:v.aI=5) :
 Calls prog 174 #[(pt f),.agg (aA 14 (dH v))] w fun e w'=>yD w B f m (Ig m v) (nI m v) e w':=by
 have hC:=h.c;have hT:=h.t;have hP:=h.p;have hR:=h.r;have hG:=h.g;have hA:=h.a;have hN:=h.ne;have lC:=h.c.lt;have lT:=h.t.lt;have lP:=h.p.lt;have lR:=h.r.lt;have lG:=h.g.lt;have lA:=h.a.lt;obtain⟨a,ha,ho⟩ : ∃ a:Nat,a<6/\v.o=(a:Int)+1:=gY (kM S);have hra:aX v=a:=by unfold aX; omega
 obtain⟨b,hb,hd⟩:=XA S hkd;have O:(v.dst-1).toNat=b:=by omega
 refine bX func174 47 ?_;refine ay<|Ej (pt f) fun A w1 kV U s1 z1 => ?_;have⟨m2,m4,m5,m6,m7,W⟩:=oL s1.bP hC hP hR hG hA (Below.refl w.heap.size w);have tJ:=iy kV;have⟨rJ,Ed,Bo,FU,DX⟩:=Du kV hC.lt hP.lt hR.lt hG.lt hA.lt;have vB:=U.lt;refine oq fun j w2 nN m8 s2 z2 => ?_;have⟨m9,m11,kY,m13,m14,m15,b2⟩:=kU s2.bP m2 m4 m5 m6 m7 U W;have xw:=gQ nN W.size;have⟨RZ,KP,KQ,EI,KR,GI⟩:=J3 nN m2.lt m4.lt m5.lt m6.lt m7.lt U.lt;have zR:=m8.lt;refine au (.nilFunc)<|au (av 0)<|aC<|aQ ?_;refine nP [4,0,1,2,3,5,6,7,8,9,10,11,12] [1,0,0,1,0,1,1,0,0,0,2,3,0] [(11,0,[0]),(11,3,[3]),(11,5,[5]),(11,6,[6]),(11,10,[10]),(12,10,[10]),(12,11,[11])] fun qN eX iM => ?_;have⟨C,m18,J,m20,mG,D,E,G⟩:=lY eX m9 m11 kY m13 m14 m15 m8 b2;refine aS (pf j 9)<|lI (v:=(pt f)) (by rfl) (by rfl) (mE _) (fun K l=>bE (x:=fun _=>(pt f)) rfl rfl (by kernel_rfl) (D.aJ.below l (by have:=D.lt; omega)) (i:=0) (by omega) (by omega) rfl) ?_;refine aS (pt f)<|aS (pf f 20)<|lI (v := .map (some m.rb)) (by rfl) (by rfl) (mE _) (fun K l=>bE (x:=zN m) rfl rfl (by kernel_rfl) (C.aJ.below l (by have:=C.lt; omega)) (i:=20) (by omega) (by omega) rfl) ?_;refine lI (v:=aG v.node) (by rfl) (by rfl) (mE _) (fun K l=>bE (x:=dH v) rfl rfl (by kernel_rfl) (E.aJ.below l (by have:=E.lt; omega)) (i:=9) (by omega) (by omega) rfl) ?_
 rcases uo m.T.x m.T.n v.node with ⟨d,Q,N⟩|iN
 ·refine lI (v := .tuple #[.agg (aA 54 (rv .i64 (m.R d))),.bool true]) (by rfl) (by rfl) (mE _) (fun K l=>Ci (z := .agg (aA 54 (rv .i64 (fun _=>0)))) rfl rfl rfl (J.up l) underlying79 underlying26 (by kernel_rfl) Q N rfl) ?_;refine aS (.tuple #[.agg (aA 54 (rv .i64 (m.R d))),.bool true])<|aS (.agg (aA 54 (rv .i64 (m.R d))))<|aS aH<|mF<|oJ 54 (rv .i64 (fun _=>0)) fun q w3 nO V s4 z3 => ?_;have⟨mU,mY,m32,X⟩:=jv s4.bP C D E G;have Gc:=gQ nO G.size;have⟨Va,Vb,Vd,Ve,adz,adA,adB⟩:=Oz nO C.lt m18.lt J.lt m20.lt mG.lt D.lt E.lt;have Gr:=V.lt;refine Ln ⟨s4.bP,?_⟩;refine jP<|dY V 0 fun w4 oD s5 z4 => ?_;have pz:aM w4 q 54 (rv .i64 (m.R d)) 67:=aO oD;have gT:=gJ s5 V.ty;have⟨pQ,pR,qx⟩:=wB gT mU mY m32;have b5:=s5.below X X.size (by omega);refine Ln<|aS aH<|dJ<|aQ<|Wb<|ay<|au aH<|au aD<|au aD<|aC<|aL<|aQ ?_;have ex:m.idx v.node=d:=rY h.t.uU.inj Q N;have u:m.T.has v.node=true:=ni Q N;refine nP [1,0,4,5,2,3,6,7,8,9] [4,0,4,0,0,0,0,4,0,0] [] fun Fu iZ rM => ?_;have⟨qy,uN,F,Ai,Y⟩:=oK iZ pQ pR qx pz b5;refine aS (pf j 10)<|Rs (pt f) (aR uN.aJ 0) ?_;refine aS (pt f)<|aS (pt f)<|Rs (av v.dst) (aR F.aJ 10) ?_;refine Rp (av b) (fun _=>jK)<|Rp (pf f b) (fun _=>jh 6 1) ?_;by_cases s:(m.dF b)=true
  ·refine Rs aH (aR qy.aJ b ((KL (by omega)).trans (K_ Value.bool s))) ?_;refine aS aD<|aS aD<|dJ<|aL<|Wk<|bS<|sN<|ay<|Lv (.agg (aA 54 (rv .i64 (m.R d)))) (dZ Ai.aJ 0)<|au (pt j)<|Lv (av v.o) (aR F.aJ 0)<|au (pf j 10)<|Lv (av v.dst) (aR F.aJ 10)<|au (pf j 11)<|Lv (av v.bF) (aR F.aJ 11)<|dO (anV (m.R d) v.o v.dst v.bF _ (by omega) (by omega)) _ rfl ?_;intro w5 hb1;have⟨tL,uG,oo,Z⟩:=jv hb1 uN F Ai Y;refine au (.tuple #[.agg (aA 54 (rv .i64 ((dX (m.R d) v.o v.dst v.bF).1))),av ((dX (m.R d) v.o v.dst v.bF).2)])<|au (.agg (aA 54 (rv .i64 ((dX (m.R d) v.o v.dst v.bF).1))))<|au (av ((dX (m.R d) v.o v.dst v.bF).2))<|dY oo 0 fun w6 sF s8 z5 => ?_;have pE:aM w6 q 54 (rv .i64 ((dX (m.R d) v.o v.dst v.bF).1)) 67:=aO sF;have jC:=gJ s8 oo.ty;have⟨tN,tO⟩:=lZ jC tL uG;have L:=s8.below Z Z.size (by omega);refine au (av ((dX (m.R d) v.o v.dst v.bF).2))<|aC<|aQ<|ay<|au (av ((dX (m.R d) v.o v.dst v.bF).2)) ?_;by_cases M:((dX (m.R d) v.o v.dst v.bF).2)=0
   ·refine Lv aD (kr M)<|aC<|aL<|Wk<|sN<|ay<|Lv (.func (.func 190) #[] #[(pt q),(pt A),(pt j)]) (qp (us := []) (vs := [(pt q),(pt A),(pt j)]) rfl rfl rfl)<|au (.func (.func 190) #[] #[(pt q),(pt A),(pt j)])<|au (av 0)<|aC<|Wr<|aK (.tuple #[.func (.func 190) #[] #[(pt q),(pt A),(pt j)],av 0]) ?_;have H:xO m v=dX (m.R d) v.o v.dst v.bF:=(by unfold xO; rw[ex]);show yD w B f m (GK m v.node (xO m v).1) _ _ _;rw[H];have k:nI m v=0:=(by unfold nI; rw[b_ (by rw[u]; decide),b_ (by rw[O,s]; decide),H]; exact M);exact⟨⟨_,190,#[(pt q),(pt A),(pt j)],by rw[k],rfl,fun _=>⟨rfl,⟨_,_,func190,rfl,rfl⟩,fun w2 I=>(adx m f B w2 ((h.up L).up I) v S u _ _ _ _ (pE.cK (Sb I) (u_ pE.lt)) (tN.cK (Sb I) (u_ tN.lt)) (tO.cK (Sb I) (u_ tO.lt))).mono fun _ _ P=>⟨P.1,P.2.1,P.2.2.mono fun _ u => .inl u⟩⟩⟩,L⟩
   refine Lv aH (mO M)<|aC<|aP<|ay<|au (av ((dX (m.R d) v.o v.dst v.bF).2))<|au (.nilFunc)<|au (av ((dX (m.R d) v.o v.dst v.bF).2))<|aC<|Wr<|sR<|aK (.tuple #[.nilFunc,av ((dX (m.R d) v.o v.dst v.bF).2)]) ?_;have H:xO m v=dX (m.R d) v.o v.dst v.bF:=(by unfold xO; rw[ex]);have k:nI m v=(dX (m.R d) v.o v.dst v.bF).2:=(by unfold nI; rw[b_ (by rw[u]; decide),b_ (by rw[O,s]; decide),H]);exact⟨⟨.nilFunc,0,#[],by rw[k],rfl,fun y=>L_ (k.symm.trans y) (by first|decide|omega|assumption)⟩,L⟩
  rw[R_]at s;refine Rs aD (aR qy.aJ b ((KL (by omega)).trans (K_ Value.bool s))) ?_;refine aS aH<|aS aH<|dJ<|aP<|ay<|au (.nilFunc)<|au (av 10)<|aC<|Wr<|bO<|sR<|aK (.tuple #[.nilFunc,av 10]) ?_;have k:nI m v=10:=by unfold nI; rw[b_ (by rw[u]; decide)]; exact d_ (by rw[O]; exact s)
  exact⟨⟨.nilFunc,0,#[],by rw[k],rfl,fun y=>L_ (k.symm.trans y) (by first|decide|omega|assumption)⟩,Y⟩
 refine lI (v := .tuple #[.agg (aA 54 (rv .i64 (fun _=>0))),.bool false]) (by rfl) (by rfl) (mE _) (fun K l=>Ch (z := .agg (aA 54 (rv .i64 (fun _=>0)))) rfl rfl rfl (J.up l) underlying79 underlying26 (by kernel_rfl) iN) ?_;refine aS (.tuple #[.agg (aA 54 (rv .i64 (fun _=>0))),.bool false])<|aS (.agg (aA 54 (rv .i64 (fun _=>0))))<|aS aD<|mF<|oJ 54 (rv .i64 (fun _=>0)) fun g4 w7 yL qg s9 z6 => ?_;have b9:=bL s9.bP G;have Uw:=gQ yL G.size;have⟨aod,aBn,aoe,aBo,aof,aog,aoh⟩:=Oz yL C.lt m18.lt J.lt m20.lt mG.lt D.lt E.lt;have TR:=qg.lt;refine Ln ⟨s9.bP,?_⟩;refine jP<|dY qg 0 fun w8 yI oP z7 => ?_;have xC:aM w8 g4 54 (rv .i64 (fun _=>0)) 67:=aO yI;have b10:=oP.below b9 b9.size (by omega);refine Ln<|aS aD<|dJ<|aQ<|Wb<|ay<|au aD<|au aH<|au aH<|aC<|aP<|ay<|au (.nilFunc)<|au (av 9)<|aC<|Wr<|bO<|sR<|aK (.tuple #[.nilFunc,av 9]) ?_;have k:nI m v=9:=by unfold nI; exact d_ (FL iN)
 exact⟨⟨.nilFunc,0,#[],by rw[k],rfl,fun y=>L_ (k.symm.trans y) (by first|decide|omega|assumption)⟩,b10⟩
theorem aie(m:fO)(i B:Nat)(w:World)(h:pF w B i m)(v:dA)(J:dG v=true)(b:Nat)(G:b<6)(H:v.dst=(b:Int)+1) :
 Calls prog 175 #[(pt i),.agg (aA 14 (dH v))] w fun e w'=>yD w B i m (NA m v) (0) e w':=by
 have y:=h.c;have S:=h.t;have A:=h.p;have C:=h.r;have z:=h.g;have x:=h.a;have R:=h.ne;have U:=h.c.lt;have Y:=h.t.lt;have W:=h.p.lt;have X:=h.r.lt;have V:=h.g.lt;have T:=h.a.lt;refine bX func175 7 ?_;refine ay<|Ej (pt i) fun d w1 s l P z1 => ?_;have⟨K,L,M,N,O,o⟩:=oL P.bP y A C z x (Below.refl w.heap.size w);have Z:=iy s;have⟨ab,ac,ad,ae,af⟩:=Du s y.lt A.lt C.lt z.lt x.lt;have am:=l.lt;refine oq fun f E u n Q z2 => ?_;have⟨D,q⟩:=fB Q.bP l o;have aa:=gQ u o.size;have⟨al,ag,ah,ai,aj,ak⟩:=J3 u K.lt L.lt M.lt N.lt O.lt l.lt;have an:=n.lt;refine au (.nilFunc)<|au (av 0)<|aC<|ay<|Lv (.func (.func 191) #[] #[(pt d),(pt f)]) (qp (us := []) (vs := [(pt d),(pt f)]) rfl rfl rfl)<|au (.func (.func 191) #[] #[(pt d),(pt f)])<|au (av 0)<|aC<|Wr<|aK (.tuple #[.func (.func 191) #[] #[(pt d),(pt f)],av 0]) ?_;have F:(0:Int)=0:=rfl;exact⟨⟨_,191,#[(pt d),(pt f)],by rw[F],rfl,fun _=>⟨rfl,⟨_,_,func191,rfl,rfl⟩,fun E j=>(adw m i B E ((h.up q).up j) v J b G H _ _ (D.cK (Sb j) (u_ D.lt)) (n.cK (Sb j) (u_ n.lt))).mono fun _ _ k=>⟨k.1,k.2.1,k.2.2.mono fun _ I => .inl I⟩⟩⟩,q⟩
theorem adC(m:fO)(f B:Nat)(w:World)(h:pF w B f m)(v:dA)(G:dG v=true) :
 Calls prog 176 #[(pt f),.agg (aA 14 (dH v))] w fun e w'=>yD w B f m (GL m v) (0) e w':=by
 have x:=h.c;have P:=h.t;have z:=h.p;have A:=h.r;have y:=h.g;have u:=h.a;have O:=h.ne;have R:=h.c.lt;have V:=h.t.lt;have T:=h.p.lt;have U:=h.r.lt;have S:=h.g.lt;have Q:=h.a.lt;refine bX func176 7 ?_;refine ay<|Ej (pt f) fun b w1 q k M z1 => ?_;have⟨H,I,J,K,L,n⟩:=oL M.bP x z A y u (Below.refl w.heap.size w);have W:=iy q;have⟨Y,Z,aa,ab,ac⟩:=Du q x.lt z.lt A.lt y.lt u.lt;have aj:=k.lt;refine oq fun d D s l N z2 => ?_;have⟨C,o⟩:=fB N.bP k n;have X:=gQ s n.size;have⟨ai,ad,ae,af,ag,ah⟩:=J3 s H.lt I.lt J.lt K.lt L.lt k.lt;have ak:=l.lt;refine au (.nilFunc)<|au (av 0)<|aC<|ay<|Lv (.func (.func 192) #[] #[(pt b),(pt d)]) (qp (us := []) (vs := [(pt b),(pt d)]) rfl rfl rfl)<|au (.func (.func 192) #[] #[(pt b),(pt d)])<|au (av 0)<|aC<|Wr<|aK (.tuple #[.func (.func 192) #[] #[(pt b),(pt d)],av 0]) ?_;have E:(0:Int)=0:=rfl;exact⟨⟨_,192,#[(pt b),(pt d)],by rw[E],rfl,fun _=>⟨rfl,⟨_,_,func192,rfl,rfl⟩,fun D i=>(ZA m f B D ((h.up o).up i) v G _ _ (C.cK (Sb i) (u_ C.lt)) (l.cK (Sb i) (u_ l.lt))).mono fun _ _ j=>⟨j.1,j.2.1,j.2.2.mono fun _ F => .inl F⟩⟩⟩,o⟩
section
open Rt
theorem aBp(o q:Nat)(w:World)(a:1<=o/\o<=6)(c:1<=q/\q<1099511627776) :
 Calls prog 177 #[av (o:Int),aG (q:Int)] w fun e w'=>e = .returned (aG (1099511627776*(o:Int)+(q:Int)))/\w'=w:=by
 refine bX func177 24 ?_;refine ay<|au (aG 0)<|aC<|aQ<|ay<|au (av o)<|Lv aD DV<|au aD<|au (av o)<|Lv aD Fb<|au aD<|au aD<|au (aG q)<|Lv aD DV<|au aD<|au aD<|au (aG q)<|Lv aD Qx<|au aD<|aC<|aL<|Wk<|sN<|ay<|au (av o)<|Lv (aG o) (dQ rfl rfl (by kernel_rfl) underlying26 (jO (by omega) rfl))<|Lv (aG (1099511627776*(o:Int))) (MF (b:=40) rfl rfl rfl (by decide) (jO (by omega) (by omega)))<|au (aG q)<|Lv (aG (1099511627776*(o:Int)+(q:Int))) (anO rfl rfl rfl (by omega) (by omega))<|au (aG (1099511627776*(o:Int)+(q:Int)))<|aC<|Wr<|aK (aG (1099511627776*(o:Int)+(q:Int))) ?_;exact⟨rfl,rfl⟩
end
end Go.Proofs.YtabjalhnkndjaaaGreatDoor
namespace Go.Proofs.YtabjalhnkndjaaaGreatDoor
open Go.RowKit Go
namespace Rt
theorem GQ : ∀(n m:Nat) (f:Nat->Nat),(∀ i,i<m->f i<n)->(∀ i j,i<m->j<m->f i=f j->i=j)->m<=n
 | 0,m,f,h1,_=>by
   simp_all
 | n+1,m,f,h1,h2=>by
   rcases Nat.eq_zero_or_pos m with h|h
   ·omega
   by_cases c : ∃ a,a<m/\f a=n
   ·obtain⟨a,b,e⟩:=c;have:=GQ n (m-1) (fun j=>f (if j=a then m-1 else j)) (fun j k=>by
     grind) (fun i j g l d=>by
     grind)
    omega
   ·have:=GQ n m f (fun i b=>by
     grind) h2
    omega
section
variable {T U:fD} {id pa k:Int} {i:Nat}
theorem fD.Jv(h:T.Eb id pa=0):T.add id pa=T.put id pa:=d_ h
theorem fD.aoi(h : ¬ T.Eb id pa=0):T.add id pa=T:=b_ h
theorem fD.Ee(hi:i<T.n):T.has (T.x i)=true:=ni hi rfl
theorem fD.R3(h:T.ok)(hi:i<T.n):T.par (T.x i)=T.p i:=FM h.inj hi rfl
theorem fD.step(h:T.ok)(a:T.has k=true):T.dI k=k::T.dI (T.par k):=by
 have b:lW T.x T.p T.n 3 (T.par k):=h.I6 k a;show(if fV T.x T.n k=true then k::lV T.x T.p T.n 3 (T.par k)else [])=_;rw[d_ (show fV T.x T.n k=true from a),<- (Po b (show 3<=4 by omega)).1]; rfl
theorem fD.aoj(h:T.ok)(hi:i<T.n):T.dI (T.x i)=T.x i::T.dI (T.p i):=by grind [fD.step,fD.Ee,fD.R3]
theorem fD.Dl:(T.dI k).length<=4:=Dh
theorem fD.aok(h:T.ok):T.dI 0 = []:=Gi.asj h 4
theorem zM.zero(T:fD):zM fD.zero T:=⟨fun _ h=>(nomatch h),fun _ h=>(nomatch h)⟩
theorem zM.dI(b:T.ok)(a:U.ok)(h:zM U T) : ∀(d:Nat) (k:Int),(k=0\/U.has k=true)->lV U.x U.p U.n d k=lV T.x T.p T.n d k
 | 0,_,_=>rfl
 | d+1,k,hk=>by
   rcases hk with rfl|hk
   ·rw[rW (Gi.ahR a),rW (Gi.ahR b)]
   ·unfold lV;have c:fV U.x U.n k=true:=hk;have e:fV T.x T.n k=true:=h.has k hk;have f:kJ U.x U.p U.n k=kJ T.x T.p T.n k:=h.par k hk;rw[d_ c,d_ e,<- f,zM.dI b a h d];exact Gi.up a hk
theorem zM.lt(g:U.ok)(h:zM U T)(hi:i<T.n)(r:U.has (T.x i)=false):U.n<T.n:=by
 have d : ∀ j,∃ q,j<U.n->q<T.n/\T.x q=U.x j:=fun j=>by
  by_cases c:j<U.n
  ·obtain⟨q,k,l⟩:=ji (h.has _ (fD.Ee c))
   grind
  grind
 obtain⟨f,p⟩:=Classical.axiomOfChoice d;have:=GQ T.n (U.n+1) (fun j=>if j=U.n then i else f j) (fun j c=>by
  grind) (fun a b m o e=>by
  grind [fD.Ee,g.inj])
 omega
theorem zM.add(d:T.ok)(f:U.ok)(h:zM U T)(hi:i<T.n)(j:T.p i=0\/U.has (T.p i)=true) :
 zM (U.add (T.x i) (T.p i)) T/\(U.add (T.x i) (T.p i)).has (T.x i)=true /\ ∀ k,U.has k=true->(U.add (T.x i) (T.p i)).has k=true:=by
 cases hh:U.has (T.x i)with
 | true =>
   have e:U.add (T.x i) (T.p i)=U:=by
    refine fD.aoi fun m => ?_;have:=(KH m).2.1;rw[show fV U.x U.n (T.x i)=U.has (T.x i)from rfl,hh]at this; simp_all
   simp_all
 | false =>
   have s:=(d.Rj i hi).1;have q:=zM.lt f h hi hh;have r:=d.Xm;have l:U.Eb (T.x i) (T.p i)=0:=by
    unfold fD.Eb wN;rw[b_ (by omega),b_ (by rw[show fV U.x U.n (T.x i)=U.has (T.x i)from rfl,hh]; decide),b_ ?_,b_ ?_]
    ·rintro (a|a)
     ·omega
     ·have b:=zM.dI d f h 4 (T.p i) j;rw[b]at a;have c:=fD.aoj d hi;have o:(T.dI (T.x i)).length<=4:=fD.Dl;rw[c,List.length_cons]at o;have a:4<=(T.dI (T.p i)).length:=a;omega
    ·rintro ⟨a,b⟩
     rcases j with c|c
     ·omega
     ·rw[show fV U.x U.n (T.p i)=U.has (T.p i)from rfl,c]at b; cases b
   rw[fD.Jv l];refine⟨⟨fun k g => ?_,fun k g => ?_⟩,?_,fun k g => ?_⟩
   ·grind [fD.mo,h.has,fD.Ee]
   ·grind [fD.mo,fD.yN,fD.R3,h.par]
   ·grind [fD.mo]
   grind [fD.mo]
structure Vf(T U:fD)(r k:Nat):Prop where
 sub:zM U T
 fst : ∀ j,j<r->j<T.n->U.has (T.x j)=true
 nxt:k<=r->r<T.n->U.has (T.x r)=true
end
end Rt
namespace Rt
section
variable {x:Nat->Int} {v:Int} {j aq:Nat}
end
section
variable {x p:Nat->Int} {n:Nat}
theorem wV : ∀ {d:Nat} {v:Int},lW x p n d v -> ∀ k,k<(lV x p n d v).length->fV x n ((lV x p n d v).getD k 0)=true /\
 (k+1<(lV x p n d v).length->(lV x p n d v).getD (k+1) 0=kJ x p n ((lV x p n d v).getD k 0))/\(k+1=(lV x p n d v).length->fV x n (kJ x p n ((lV x p n d v).getD k 0))=false)
 | 0,v,h,k,hk=>L_ hk (z_ _)
 | d+1,v,h,k,hk=>by
   cases hv:fV x n v with
   | false=>grind [rW]
   | true =>
     have e:lV x p n (d+1) v=v::lV x p n d (kJ x p n v):=(by show(if _ then _ else _)=_; simp_all);have b:lW x p n d (kJ x p n v):=h hv;have f := @wV d (kJ x p n v) b;have c:0<(lV x p n d (kJ x p n v)).length->(lV x p n d (kJ x p n v)).getD 0 0=kJ x p n v:=fun a=>by
      cases d with
      | zero=>exact L_ a (z_ _)
      | succ d =>
        grind [lV]
     rw[e]at hk ⊢;rw[List.length_cons]at hk ⊢
     cases k with
     | zero =>
       grind [Nt]
     | succ k =>
       grind
end
section
variable {T:fD} {id pa k v:Int} {i j aq:Nat} {pl:List Int}
theorem fD.Vg(h:T.ok)(e:pl=T.dI v)(a:m<pl.length):T.has (pl.getD m 0)=true:=by
 subst e; exact(wV (h.I6 v) m a).1
theorem fD.aii(h:T.ok)(e:pl=T.dI v)(b:m+1<pl.length)(ha:aq-1<T.n)(hx:T.x (aq-1)=pl.getD m 0):T.p (aq-1)=pl.getD (m+1) 0:=by
 subst e;have:=(wV (h.I6 v) m (Nat.lt_of_succ_lt b)).2.1 b;have a:=fD.R3 h ha;rw[hx]at a;exact a.symm.trans this.symm
theorem fD.aij(h:T.ok)(e:pl=T.dI v)(c:m+1=pl.length)(ha:aq-1<T.n)(hx:T.x (aq-1)=pl.getD m 0):T.p (aq-1)=0:=by
 subst e;have a:=(wV (h.I6 v) m (Nat.lt_of_succ_le (Nat.le_of_eq c))).2.2 c;have b:=fD.R3 h ha;rw[hx]at b;rw[show kJ T.x T.p T.n ((lV T.x T.p T.n 4 v).getD m 0)=T.p (aq-1)from b]at a
 rcases h.par _ ha with h4|⟨i,hi,h4⟩
 ·omega
 rw[<- h4,ni (by omega) rfl]at a; cases a
theorem fD.aol(c : ¬ id=0)(d:pa=0\/T.has pa=true):T.Eb id pa=if T.has id=true then 14 else if 32<=T.n\/4<=(T.dI pa).length then 6 else 0:=by
 show wN T.x T.p T.n id pa=_;unfold wN;rw[b_ c];have b : ¬ (¬ pa=0/\fV T.x T.n pa=false):=by
  rintro ⟨e,a⟩
  rcases d with h3|h3
  ·omega
  ·rw[show fV T.x T.n pa=T.has pa from rfl,h3]at a; cases a
 rw[b_ b]; rfl
end
section
variable {w w':World} {v v2:Value} {B s n g m c:Nat} {E:TypeId} {x:Nat->Value}
end
end Rt
namespace Rt
def LV(n:Nat):Nat->List Nat
 | 0 => []
 | j+1=>LV n j ++ [n-1-j]
theorem XB(n:Nat) : ∀ j,(LV n j).length=j
 | 0=>rfl
 | j+1=>by unfold LV; rw[E_,XB n j]; rfl
def TV(T:fD)(l:List Int)(a:List Nat):fD:=a.foldl (fun U x=>U.add (l.getD x 0) (T.par (l.getD x 0))) fD.zero
theorem KS(T:fD)(l:List Int)(a:List Nat)(x:Nat):TV T l (a ++ [x])=(TV T l a).add (l.getD x 0) (T.par (l.getD x 0)):=by grind [TV]
def oV(l ll:List Int)(U:fD):Nat->fD
 | 0=>U
 | i+1=>if ll.getD i 0∈l then oV l ll U i else(oV l ll U i).add (ll.getD i 0) 0
section
variable {T U:fD} {l ll:List Int} {id pa k v:Int} {i j n:Nat}
theorem has_lt(g:U.ok)(h : ∀ k,U.has k=true->T.has k=true)(hx:T.has v=true)(t:U.has v=false):U.n<T.n:=by
 obtain⟨i,s,rfl⟩:=ji hx;have d : ∀ j,∃ q,j<U.n->q<T.n/\T.x q=U.x j:=fun j=>by
  by_cases c:j<U.n
  ·obtain⟨q,l,m⟩:=ji (h _ (fD.Ee c))
   grind
  grind
 obtain⟨f,r⟩:=Classical.axiomOfChoice d;have:=GQ T.n (U.n+1) (fun j=>if j=U.n then i else f j) (fun j c=>by
  grind) (fun a b o p e=>by
  grind [fD.Ee,g.inj])
 omega
theorem adD(g:U.ok)(h : ∀ k,U.has k=true->T.has k=true):U.n<=T.n:=by
 have d : ∀ j,∃ q,j<U.n->q<T.n/\T.x q=U.x j:=fun j=>by
  by_cases c:j<U.n
  ·obtain⟨q,p,r⟩:=ji (h _ (fD.Ee c))
   grind
  ·exact⟨0,fun h=>L_ h c⟩
 obtain⟨f,m⟩:=Classical.axiomOfChoice d;exact GQ T.n U.n f (fun q o=>(m q o).1) fun a b i l e=>g.inj a b i l (by grind)
structure BwI(T U:fD)(l:List Int)(j:Nat):Prop where
 ok:U.ok
 sub:zM U T
 has : ∀ x,l.length-j<=x->x<l.length->U.has (l.getD x 0)=true
 only : ∀ k,U.has k=true->k∈l
theorem adE(a:T.ok)(hi:i<T.n):0<=T.x i/\T.x i<=18446744073709551615:=by have:=a.Rj i hi; omega
theorem aik(U:fD)(id pa k:Int)(h:(U.add id pa).has k=true):U.has k=true\/k=id:=by
 grind [fD.add,fD.mo]
theorem adF(a:T.ok)(e:l=T.dI pa) : ∀ j,j<=l.length->BwI T (TV T l (LV l.length j)) l j
 | 0,_=>⟨Gi.zero _ _,zM.zero T,fun x m f=>by omega,fun k h=>nomatch h⟩
 | j+1,hj=>by
   have b:=adF a e j (by omega);have r:l.length-1-j<l.length:=(by omega);have q:=fD.Vg a e r;obtain⟨i,c,d⟩:=ji q;have g:T.par (l.getD (l.length-1-j) 0)=T.p i:=(by grind [fD.R3]);show BwI T (TV T l (LV l.length j ++ [l.length-1-j])) l (j+1);rw[KS,g,<- d];have o:T.p i=0\/(TV T l (LV l.length j)).has (T.p i)=true:=by
    by_cases n:l.length-1-j+1=l.length
    ·exact .inl (fD.aij (aq:=i+1) a e n c d)
    ·have f:=fD.aii (aq:=i+1) a e (show l.length-1-j+1<l.length by omega) c d
     grind [b.has]
   obtain⟨s,u,v⟩:=zM.add a b.ok b.sub c o;refine⟨fD.Pt b.ok (adE a c),s,fun x m f => ?_,fun k t => ?_⟩
   ·grind [b.has]
   grind [aik,b.only]
structure RtI(T U:fD)(l ll:List Int)(i:Nat):Prop where
 ok:U.ok
 sub : ∀ k,U.has k=true->T.has k=true
 par : ∀ k,k∈l->U.has k=true/\U.par k=T.par k
 has : ∀ q,q<i->q<ll.length->U.has (ll.getD q 0)=true
 only : ∀ k,U.has k=true->k∈l \/ ∃ q,q<i/\q<ll.length/\ll.getD q 0=k
theorem aom(d:ll.Pairwise (· < ·))(ha:m<ll.length)(c:b<ll.length)(e:ll.getD m 0=ll.getD b 0):m=b:=by
 grind [List.pairwise_iff_getElem]
theorem adG(d:T.ok)(m:ll.Pairwise (· < ·) /\ ∀ k,k∈ll<->T.has k=true)(g:RtI T U l ll 0) : ∀ i,i<=ll.length->RtI T (oV l ll U i) l ll i
 | 0,_=>g
 | i+1,hi=>by
   have a:=adG d m g i (by omega);unfold oV;have p:ll.getD i 0∈ll:=(by grind);have h:=(m.2 _).1 p;by_cases c:ll.getD i 0∈l
   ·rw[d_ c];refine⟨a.ok,a.sub,a.par,fun q t u => ?_,fun k b => ?_⟩
    ·grind [a.par,a.has]
    grind [a.only]
   ·rw[b_ c];obtain⟨z,n,f⟩:=ji h;have j:=adE d n;rw[f]at j;have s:=d.Rj z n;rw[f]at s;have r:(oV l ll U i).has (ll.getD i 0)=false:=by
     grind [a.only,aom]
    have v:=has_lt a.ok a.sub h r;have x:=d.Xm;have o:(oV l ll U i).Eb (ll.getD i 0) 0=0:=by
     grind [fD.aol,fD.aok,a.ok]
    rw[fD.Jv o];have w : ∀ k,k∈l -> ¬ ll.getD i 0=k:=fun k b e=>c (e ▸ b);refine⟨by have:=fD.Pt (pa:=0) a.ok j; grind [fD.Jv],fun k b => ?_,fun k b => ?_,fun q t u => ?_,fun k b => ?_⟩
    ·grind [fD.mo,a.sub]
    ·grind [fD.mo,fD.yN,a.par]
    ·grind [fD.mo,a.has]
    grind [fD.mo,a.only]
theorem NC(b : ∀ k,U.has k=T.has k) : ∀(d:Nat) (k:Int),(∀ q,q∈lV T.x T.p T.n d k->U.par q=T.par q)->lV U.x U.p U.n d k=lV T.x T.p T.n d k
 | 0,_,_=>rfl
 | d+1,k,h=>by
   have g:fV U.x U.n k=fV T.x T.n k:=b k
   cases hk:fV T.x T.n k with
   | false=>grind [rW]
   | true =>
     have a:lV T.x T.p T.n (d+1) k=k::lV T.x T.p T.n d (kJ T.x T.p T.n k):=(by show(if _ then _ else _)=_; simp_all);have c:lV U.x U.p U.n (d+1) k=k::lV U.x U.p U.n d (kJ U.x U.p U.n k):=(by show(if _ then _ else _)=_; simp_all);rw[a]at h;have e:kJ U.x U.p U.n k=kJ T.x T.p T.n k:=h k (List.mem_cons_self ..);rw[a,c,e,NC b d _ fun q f=>h q (List.mem_cons_of_mem _ f)]
theorem ail(f:T.ok)(e:l=T.dI pa)(i:ll.Pairwise (· < ·) /\ ∀ k,k∈ll<->T.has k=true):(oV l ll (TV T l (LV l.length l.length)) ll.length).Eb id pa=T.Eb id pa:=by
 have b:=adF f e l.length (A_ _);have w : ∀ k,k∈l -> ∃ x,x<l.length/\l.getD x 0=k:=fun k c=>by
  obtain⟨x,s,u⟩:=List.getElem_of_mem c;exact⟨x,s,by grind⟩
 have j:RtI T (TV T l (LV l.length l.length)) l ll 0:=⟨b.ok,b.sub.has,fun k c=>by
  grind [b.has,b.sub.par],fun q d=>by omega,fun k c => .inl (b.only k c)⟩
 have a:=adG f i j ll.length (A_ _);generalize oV l ll (TV T l (LV l.length l.length)) ll.length=V at a;have g : ∀ k,V.has k=T.has k:=fun k=>by
  cases h:T.has k with
  | false =>
    grind [a.sub]
  | true =>
    obtain⟨q,d,t⟩:=List.getElem_of_mem ((i.2 k).2 h);have:=a.has q d d
    simp_all
 have m:V.n=T.n:=by
  have h:=adD a.ok a.sub;have v:=adD f (fun k c=>by simp_all : ∀ k,T.has k=true->V.has k=true);omega
 have o:=NC g 4 pa fun q d=>(a.par q (by rw[e]; exact d)).2;show wN V.x V.p V.n id pa=wN T.x T.p T.n id pa;unfold wN;have r:=o;rw[show fV V.x V.n id=fV T.x T.n id from g id,show fV V.x V.n pa=fV T.x T.n pa from g pa,r,m]
end
end Rt
namespace Fx
abbrev Co:=Exit->(Nat->Value)->List Deferred->World->Prop
def adH(n:Nat)(Q:Co):Exit->Act->World->Prop:=fun e a w => ∃ f,EX a n f/\Q e f a.defers w
def W0(ro:Option Nat)(m:Nat)(P:Program)(n:Nat)(c:Code)(Q:Co)(f:Nat->Value)(ds:List Deferred)(w:World):Prop := ∀ a,EX a n f->a.defers=ds->c.wpIn (FR ro) m P (adH n Q) a w
def adI(ro:Option Nat)(m:Nat)(P:Program)(n:Nat)(y:Code)(Q:Co):Co:=fun e f ds w=>match e with | .normal=>W0 ro m P n y Q f ds w|e=>Q e f ds w
def FV(id:Nat)(Q:Co):Co:=fun e f ds w=>match e with | .exit id'=>if id'=id then Q .normal f ds w else Q (.exit id') f ds w|e=>Q e f ds w
def Vh(I:(Nat->Value)->World->Prop)(b:(Nat->Value)->World->Nat)(k:Nat)(ds:List Deferred)(Q:Co):Co:=fun e f a w=>match e with | .normal=>a=ds/\I f w/\b f w<k|e=>Q e f a w
section
variable {ro:Option Nat} {m:Nat} {ds:List Deferred} {P:Program} {n:Nat} {Q:Co} {f:Nat->Value} {w:World}
theorem W0.seq{x y:Code}(h:W0 ro m P n x (adI ro m P n y Q) f ds w):W0 ro m P n (.seq x y) Q f ds w:=fun a i j =>
 wpIn_seq (wpIn_mono (h a i j) fun e d w' b=>by
  obtain⟨g,c,b⟩:=b
  cases e <;> first|exact b d c rfl|exact⟨g,c,b⟩)
theorem W0.skip(h:Q .normal f ds w):W0 ro m P n .skip Q f ds w:=fun _ a b=>wpIn_skip ⟨f,a,b ▸ h⟩
theorem W0.ret(h:Q .ret f ds w):W0 ro m P n .ret Q f ds w:=fun _ a b=>wpIn_ret ⟨f,a,b ▸ h⟩
theorem W0.exit(h:Q (.exit k) f ds w):W0 ro m P n (.exit k) Q f ds w:=fun _ a b=>wpIn_exit ⟨f,a,b ▸ h⟩
theorem W0.block(h:W0 ro m P n p (FV k Q) f ds w):W0 ro m P n (.block k p) Q f ds w:=fun a i j =>
 wpIn_block (wpIn_mono (h a i j) fun e id w' b=>by
  obtain⟨d,g,b⟩:=b
  cases e <;> first
   | exact⟨d,g,b⟩
   | (simp only[FV]at b; simp only[Exit.inBlock]; split at b <;> rename_i JX <;> simp only[JX,if_true,if_false] <;> exact⟨d,g,b⟩))
theorem W0.cond{b:Bool}(h:ev f u = .bool b)(j:b=true->W0 ro m P n p Q f ds w)(i:b=false->W0 ro m P n N Q f ds w):W0 ro m P n (.cond u p N) Q f ds w:=fun a d g =>
 wpIn_cond_split (t:=b) (by rw[d.ev]; exact h) (fun e=>j e a d g) (fun e=>i e a d g)
theorem W0.loop(I:(Nat->Value)->World->Prop)(k:(Nat->Value)->World->Nat)(r:I f w)(hr : ∀ f w,I f w->W0 ro m P n p (Vh I k (k f w) ds Q) f ds w):W0 ro m P n (.loop p) Q f ds w:=fun a s h =>
 wpIn_loop (fun a w => ∃ f,EX a n f/\a.defers=ds/\I f w) (fun a w=>k (fun i=>a.tmps.getD i undef) w) ⟨f,s,h,r⟩ (fun a w g=>by
  obtain⟨f,l,h,g⟩:=g;have e:=funext l.get;refine wpIn_mono (hr f w g a l h)<|fun c o w' b => ?_;obtain⟨d,j,b⟩:=b
  cases c <;> first
   | exact⟨d,j,b⟩
   | (have q:=funext j.get
      exact⟨⟨d,j,b.1,b.2.1⟩,by rw[e,q]; exact b.2.2⟩))
theorem W0.list{ops:List Oper}(h:L P n ops.toArray (fun e f w=>Q e f ds w) ops f w)(id:ops.all ng=true:=by rfl):W0 ro m P n (.region k ops.toArray false) Q f ds w:=fun a i j =>
 Ns i h id fun e l w' ⟨b,c,d,g⟩=>⟨b,c,by rw[d,j]; exact g⟩
theorem vZ(h:W0 ro m P n p Q f ds w):adI ro m P n p Q .normal f ds w:=h
theorem asN(h:Q (.exit k) f ds w):adI ro m P n p Q (.exit k) f ds w:=h
theorem R4(h:Q .normal f ds w):FV m Q .normal f ds w:=h
theorem asO(h:Q .normal f ds w):FV m Q (.exit m) f ds w:=by grind [FV]
theorem aBr(h:Q (.exit m) f ds w):Vh o e k ds Q (.exit m) f ds w:=h
theorem asP(h:o f w)(b:e f w<k):Vh o e k ds Q .normal f ds w:=⟨rfl,h,b⟩
def ale(P:Program)(m:Nat)(b:Func)(R:Ending->World->Prop):Co:=fun e f ds w => ∀ a,EX a b.ntmps f->a.defers=ds->bodyPostM (FR none) m P b R e a w
theorem aon{g:FuncId}{b:Func}(m:Nat)(f:P.funcs[g]? = some b)(d:b.body=some p)(args:b.ntmps=n)(ha:Nat.ble s.size n=true)(h:W0 none m P n p (ale P m b K) (start s) [] w):Calls P g s w K:=by
 refine(callsIn_wide (n:=m)).1 (callsIn_of_wp_marks (F:=FR none) f d trivial ?_ rfl);refine wpIn_mono (h _ ⟨?_,?_⟩ rfl) fun e a w' ⟨k,o,j⟩=>j a (by simp_all) rfl
 ·simp_all
 intro i;simp only[start,Array.getD_eq_getD_getElem?,Array.getElem?_append,Array.getElem?_replicate]
 grind
theorem leaveD{b:Func}(c:w.heap[k]? = some (.deferred (some [])))(D:(Dt b f).run P (w.putObj k (.deferred none)) = .ok h (w.putObj k (.deferred none)))(d:K (.returned h) (w.putObj k (.deferred none))) :
 ale P m b K .ret f [{ target := .collected k,args := #[] }] w:=fun a e g=>acM e g c D d
variable {ops:List Oper} {cs:List Nat} {S:World->World->Prop}
theorem R.asQ(ad:nT n ops=true)(ag:Region.noSelect ops.toArray=true)(aHk:ops.all ng=true)(U : ∀ w,S w w)(V : ∀ a b c,S a b->S b c->S a c){bR:List (Nat × Nat × List Nat)} : ∀(k:Nat) (o:List Nat) (g:Array Bool) (a:Act) (f:Nat->Value) (w:World),o.length=k->g.size=ops.length->DT ops.toArray .any g ->
 (∀ i,i∈o<->i<ops.length/\g.getD i false=false)->o.Nodup->(o.Pairwise fun i j=>oH ops cs bR i j=true)->EX a n f->a.defers=ds->R P n ops cs S (fun e f w=>Q e f ds w) o f w->wpAnyIn (FR ro) m P .any ops.toArray (adH n Q) k g a w:=by
 intro k
 induction k with
 | zero =>
   intro o g a f w J ah C z Z D x H h;have:o = []:=List.eq_nil_of_length_eq_zero J;subst this;refine⟨?_,f,x,by rw[H]; exact h⟩;rw[List.eq_nil_iff_forall_not_mem];intro j y;obtain⟨A,u,_,_⟩:=jo y
   simp_all
 | succ k ih =>
   intro o g a f w J ah C z Z D x H h;refine⟨fun hr => ?_,fun j y => ?_⟩
   ·cases o with
    | nil=>simp_all
    | cons r aqV =>
      exfalso;obtain⟨A,u⟩:=(z r).1 (List.mem_cons_self ..);have:r∈Region.ready .any ops.toArray g:=by
       refine mem_ready.2 ⟨getD_in (by omega) u,bH ops r,by grind [bH],fun e he B => ?_⟩
       grind [dL,Array.any_eq_true',Nat.beq_refl,ny,List.pairwise_cons,oH]
      simp_all
   ·obtain⟨A,u,F,h4⟩:=jo y;have W:=(z j).2 ⟨u,A⟩;obtain⟨p,s,rfl⟩:=List.append_of_mem W;have B:=Ou (P:=P) (cs:=cs) (S:=S) (Q:=fun e f w=>Q e f ds w) ad ag U V u (l:=s) p (fun i I=>by
     obtain⟨O,h6⟩:=(z i).1 (List.mem_append_left _ I);have ab:i≠j:=fun e=>by
      grind
     have q:=(List.pairwise_append.1 D).2.2 i I j (List.mem_cons_self ..);unfold oH at q;rw[Q_,Bool.or_eq_true]at q;have Y:dL (bH ops j) i=false:=by
      grind
     refine⟨O,ab,Y,by simp_all,?_⟩
     rcases q.2 with q|q
     ·grind [B_]
     ·exfalso;rw[List.any_eq_true]at q;obtain⟨c,_,G⟩:=q;rw[Q_,Q_]at G;obtain⟨m,t⟩:=nS G.2
      cases m with
      | zero=>grind [reach]
      | succ m =>
        unfold reach at t;rw[Bool.or_eq_true]at t
        rcases t with t|t
        ·simp_all
        ·rw[F]at t
         grind [dL,Nat.beq_refl,C.reach]) f w h
    have ae:(p++s).length=k:=(by grind);have aa:(p++s).Nodup:=by
     grind
    have af:=D.sublist (List.Sublist.append_left (List.sublist_cons_self ..) p);have X : ∀ i,i∈p++s<->i<ops.length/\(g.setIfInBounds j true).getD i false=false:=fun i=>by
     grind [zn,qE]
    have L : ∀(v:Value) (w':World),R P n ops cs S (fun e f w=>Q e f ds w) (p++s) (put f (bH ops j).dst v) w'->wpAnyIn (FR ro) m P .any ops.toArray (adH n Q) k (g.setIfInBounds j true) (a.put (bH ops j).dst v) w':=fun v w' T =>
     ih (p++s) _ _ _ w' ae (by simp_all) (C.set y) X aa af (x.put (by
      cases hd:(bH ops j).dst with
      | none=>rfl
      | some d=>grind [ny,dF,Nat.blt_eq]) v) (by grind [xL]) T
    have ac:ng (bH ops j)=true:=by
     grind
    unfold wpOpIn;rw[F];simp only;rw[x.yf];unfold R at B
    rcases B with ⟨M,E⟩|⟨M,⟨E,v,q3,q4⟩|⟨E,q3⟩⟩
    ·rw[b_ (by simp_all)]; exact⟨fun _ _=>trivial,L _ _ E⟩
    ·rw[d_ M];refine LM.wpIn (K:=fun N w'=>N=v/\w'=w) x ac (.inl ⟨v,w,q3 w (.inr (.inr rfl)),rfl,rfl⟩) ?_;rintro N w' ⟨rfl,rfl⟩;exact L _ _ q4
    grind [LM.wpIn]
theorem W0.asR(l:List Nat)(cs:List Nat)(S:World->World->Prop)(o : ∀ w,S w w)(p : ∀ a b c,S a b->S b c->S a c)(bR:List (Nat × Nat × List Nat))(x:P.follows .mixedOrders=true)(z:nT n ops=true)(B:Region.noSelect ops.toArray=true)(g:Af ops l=true)(A:Ae ops cs bR l=true)
 (h : ∀ j,Below w.heap.size w j->j.heap.size=w.heap.size->R P n ops cs S (fun e f w=>Q e f ds w) l f j) (y:ops.all ng=true:=by rfl):W0 ro m P n (.region k ops.toArray true) Q f ds w:=fun a q r=>by
 refine wpIn_region_any x ?_;unfold Af at g;rw[Q_,Q_,Q_,List.all_eq_true,List.all_eq_true]at g;obtain⟨⟨⟨C,D⟩,p3⟩,p4⟩:=g;have v:=B_ C;have E:=h_ p3;have:=R.asQ (ro:=ro) (m:=m) (ds:=ds) (P:=P) (Q:=Q) (bR:=bR) z B y o p ops.length l (Array.replicate ops.length false) a f { w with drawn:=w.drawn+1 } v (by simp) (DT.start _ _ _) (fun i=>by
  have s : ∀ i,(Array.replicate ops.length false).getD i false=false:=fun i=>getD_replicate_false _ _;constructor
  ·intro d; exact⟨by simpa [Nat.blt_eq] using D i d,s i⟩
  ·intro d;obtain⟨id,t,u⟩:=List.any_eq_true.1 (p4 i (by simpa using d.1));rw[B_ u]; exact t) E (Ag A) q r (h { w with drawn:=w.drawn+1 } (Below.refl _ _).drew rfl)
 simpa using this
end
end Fx
namespace Rgx
def XC{b:Type}(J:b->World->Prop):Prop := ∀ s W a,J s W->W.grownBy a none->J s a
def aoo{d:Type}(F:Fence)(n:Nat)(P:Program)(g:Nat)(lb:Array Value)(j:d->Array Value)(i:World->World->Prop)(S:List d->Prop)(N:Nat)(h:World->Prop):Prop :=
 ∀(l:Nat) (J:List d->World->Prop) (W:World),h W->XC J ->
  (∀ c x b,J c b->c.length<N->YieldAt F (n-1) P l (j x) b fun e a=>e = .returned (.bool true)/\J (c ++ [x]) a/\i b a) ->
  J [] W ->
  CallsIn F n P g (#[.func (.yield l) #[] #[]]++lb) W fun e a=>(∃ v,e = .returned v) /\ ∃ f,S f/\J f a
def Vi{c:Type}(B:Nat)(I:c->World->Prop):Prop :=
 ∀ s W a b,I s W->W.grownBy a b->(∀ r,b=some r->B<=r /\ ∃ o:Obj,W.heap[r]? = some o/\o.isCells=false)->I s a
variable {F:Fence} {n:Nat} {P:Program}
theorem Vi.putObj{a:Type}{I:a->World->Prop}(h:Vi k I){s:a}{o:Obj}(o':Obj)(f:I s c)(b:k<=m)(W:c.heap[m]? = some o)(d:o.isCells=false):I s (c.putObj m o') :=
 h s c _ (some m) f (grownBy_putObj' c m o') (fun r e=>by cases e; exact⟨b,o,W,d⟩)
theorem Vi.alloc{a:Type}{I:a->World->Prop}(h:Vi m I){s:a}(o:Obj)(b:I s c):I s (c.alloc o) :=
 h s c _ none b (World.grownBy_alloc c o none) (fun r e=>by cases e)
def ND(B:Nat)(W a:World):Prop:=W.heap.size<=a.heap.size /\ ∀ k,B<=k->k<W.heap.size->a.heap[k]? = W.heap[k]?
def asS{a:Type}(B:Nat)(b:World->World->Prop)(I:List a->World->Prop)(c:List a)(W:World):Exit->Act->World->Prop
 | .normal,_,W'=>ND B W W'/\b W W'/\I c W'
 | _,_,_=>False
theorem Ja{α:Type}{g:Operand}{ps:Array Tmp}{assign body:Code}{Q:Exit->Act->World->Prop}{a:Act}{w:World}
 (hro:F.round=none) (h1:1<=n) {gf:Nat} {lb:Array Value} (hg:a.eval g = .func (.func gf) #[] lb) (hFg:F.fn gf) (eg : ∀ args w,(callFunc gf args).run P w = .ok (.enter gf args) w)
 {encs:α->Array Value} {Kp:World->World->Prop} {S:List α->Prop} {N:Nat} {Ip:World->Prop} (hseq:aoo F (n-1) P gf lb encs Kp S N Ip)
 (hIp:Ip w) (UY : ∀ W o,w.heap.size<=W.heap.size->Ip W->Ip (W.alloc o))
 (hKt : ∀ {A B C:World},Kp A B->Kp B C->Kp A C) (hKb : ∀(W:World) (l:Nat) (o o':Obj),w.heap.size<=l->W.heap[l]? = some o->o.isCells=false->Kp W (W.putObj l o')) (hps : ∀ x,(encs x).size=ps.size)
 (I:List α->World->Prop) (hI:Vi w.heap.size I) (h0:I [] w) (A₁:α->Act->Prop)
 (hassign : ∀(l:Nat) (x:α) (W:World),assign.wpIn (F.inRound l) (n-1-1) P (Exit.then (fun a' W'=>A₁ x a'/\W'=W) (fun _ _ _=>False)) { tmps:=(ps.zip (encs x)).foldl (fun t (p,v)=>t.setIfInBounds p v) a.tmps,defers := [] } W)
 (hbody : ∀(l:Nat) (pre:List α) (x:α) (W:World) (a':Act),A₁ x a'->I pre W->pre.length<N->w.heap.size<=W.heap.size->body.wpIn (F.inRound l) (n-1-1) P (asS w.heap.size Kp I (pre ++ [x]) W) a' W)
 (hdone : ∀(D:Nat) (xs:List α) (W:World),w.heap.size<=D->S xs->I xs W->W.heap[D]? = some (.deferred (some []))->Q .normal { a with defers := { target := .collected D,args := #[] }::a.defers } W) :
 (Code.rangeFunc g ps assign body).wpIn F n P Q a w:=by
 refine wpIn_rangeFunc ?_;intro fn hfn;rw[hro];obtain⟨rec,hrec⟩ : ∃ rec:LoopState->Option Code->Loop,rec=fun st pe => { state:=st,pending:=pe,fn,tmps:=a.tmps,params:=ps,assign,body,defers:=w.heap.size }:=⟨_,rfl⟩;obtain⟨W1,hW1⟩ : ∃ W1,(w.alloc (.deferred (some []))).alloc (.loop (rec .ready none))=W1:=⟨_,rfl⟩;have hL1:W1.heap[w.heap.size+1]? = some (.loop (rec .ready none)):=by
  grind [World.alloc_heap_new,World.size_alloc]
 have hK1:W1.heap[w.heap.size]? = some (.deferred (some [])):=by
  grind [Below.heap_alloc,World.alloc_heap_new]
 have hI1:I [] W1:=by grind [hI.alloc]
 have hp1:Ip W1:=by rw[<- hW1]; exact UY _ _ (by simp) (UY _ _ (A_ _) hIp)
 refine⟨w.heap.size+1,[{ target := .collected w.heap.size,args := #[] }],W1,{ target := .fn (.func gf) lb,args := #[.func (.yield (w.heap.size+1)) #[] #[]] },W1,gf,
  #[.func (.yield (w.heap.size+1)) #[] #[]]++lb,W1,?_,?_,?_,?_,fun _=>h1,?_⟩
 ·grind [run_enterLoop_outer]
 ·simp only[resolve,hg];simp[go_sem]
 ·grind [Target.leads]
 ·grind [invoke]
 refine(hseq (w.heap.size+1)
  (fun pre W=>I pre W/\W.heap[w.heap.size+1]? = some (.loop (rec .ready none))/\W.heap[w.heap.size]? = some (.deferred (some [])))
  W1 hp1
  (fun s A B hs hg'=>⟨hI s A B none hs.1 hg' (fun r e=>nomatch e),(hg'.block _ (t_.1 hs.2.1).1 (fun e=>nomatch e)).trans hs.2.1,(hg'.block _ (t_.1 hs.2.2).1 (fun e=>nomatch e)).trans hs.2.2⟩)
  ?_ ⟨hI1,hL1,hK1⟩).mono ?_
 ·-- one round
  rintro pre x W ⟨hi,hl,hk⟩ hlen;have hlt:=(t_.1 hl).1;have hy:=run_yield (P:=P) (args:=encs x) hl (by simp_all);rw[hrec]at hy;refine⟨fn,_,assign,body,hy,roundIn_of_wpIn hfn (wpIn_mono (hassign _ x W) ?_)⟩;rintro e1 a1 w1 hq1
  cases e1 with
  | exit id=>assumption
  | goto t=>assumption
  | ret=>assumption
  | panic ch=>assumption
  | outgrown=>assumption
  | normal =>
  obtain⟨hA1,ew⟩:=hq1;rw[ew];refine⟨_,run_beginRound hl (by rw[hrec]),?_⟩;have hl2:(W.putObj (w.heap.size+1) (.loop { rec .ready none with state := .busy })).heap[w.heap.size+1]? = some (.loop { rec .ready none with state := .busy }):=World.putObj_heap_same hlt;have hk2:(W.putObj (w.heap.size+1) (.loop { rec .ready none with state := .busy })).heap[w.heap.size]? = some (.deferred (some [])):=(World.putObj_heap_other (by omega)).trans hk;have hw2:Kp W (W.putObj (w.heap.size+1) (.loop { rec .ready none with state := .busy })):=hKb _ _ _ _ (by omega) hl rfl;refine wpIn_mono (hbody _ pre x _ a1 hA1 (hI.putObj _ hi (by omega) hl rfl) hlen (by grind)) ?_;rintro e a3 W3 hp
  cases e with
  | normal =>
    obtain⟨hk3,hkp3,hi3⟩:=hp;have hl3:=(hk3.2 _ (by omega) (t_.1 hl2).1).trans hl2;have aBs:=(hk3.2 _ (by omega) (t_.1 hk2).1).trans hk2;have hr:=run_endRound (P:=P) none hl3;rw[hrec]at hr hl3;refine⟨_,_,hr,rfl,⟨hI.putObj _ hi3 (by omega) hl3 rfl,?_,(World.putObj_heap_other (by omega)).trans aBs⟩,hKt (hKt hw2 hkp3) (hKb _ _ _ _ (by omega) hl3 rfl)⟩
    grind [World.putObj_heap_same]
  | ret=>exact hp.elim
  | exit id=>exact hp.elim
  | goto t=>exact hp.elim
  | panic ch=>assumption
  | outgrown=>assumption
 rintro e W2 ⟨⟨v,rfl⟩,xs,hS,hi,hl,hk⟩;exact⟨none,_,by have:=run_endLoop (P:=P) hl (by simp_all); rw[hrec]at this; exact this,hdone _ xs _ (A_ _) hS (hI.putObj _ hi (by omega) hl rfl) ((World.putObj_heap_other (by omega)).trans hk)⟩
end Rgx
namespace Fx
theorem R5{a:Act}(p:EX a b x)(c:m<b)(g:k<b):EX { tmps:=(#[m,k].zip #[V,h]).foldl (fun t (m,h)=>t.setIfInBounds m h) a.tmps,defers := [] } b (put (put x (some m) V) (some k) h):=by
 have v:=(p.put (d:=some m) (by grind [dF,Nat.blt_eq]) V).put (d:=some k) (by grind [dF,Nat.blt_eq]) h;have e:(#[m,k].zip #[V,h]).foldl (fun t (m,h)=>t.setIfInBounds m h) a.tmps=((a.put (some m) V).put (some k) h).tmps:=by simp[Array.zip,Act.put]
 rw[e]; exact⟨v.size,v.get⟩
theorem W0.aop{P:Program}{Q:Co}{ds:List Deferred}{w:Type}{E q:Tmp}{gf:Nat}{lb:Array Value}(h1:1<=m)(hg:ev x u = .func (.func gf) #[] lb)(J : ∀ z c,(callFunc gf z).run P c = .ok (.enter gf z) c)
 {eu ev2:w->Value} {d:World->World->Prop} {S:List w->Prop}  {s:World->Prop} (hseq:Rgx.aoo (FR none) (m-1) P gf lb (fun f => #[eu f,ev2 f]) d S b s)
 (R:s c) (T : ∀ W o,c.heap.size<=W.heap.size->s W->s (W.alloc o)) (V : ∀ {A B C:World},d A B->d B C->d A C) (U : ∀(W:World) (l:Nat) (o o':Obj),c.heap.size<=l->W.heap[l]? = some o->o.isCells=false->d W (W.putObj l o')) (hp:E<k) (hq:q<k)
 (I:List w->World->Prop) (O:Rgx.Vi c.heap.size I) (L:I [] c) (A:w->(Nat->Value)->Prop)
 (X : ∀(l:Nat) (f:w) (W:World),W0 (some l) (m-1-1) P k p (fun e G H h=>e = .normal/\H = []/\A f G/\h=W) (put (put x (some E) (eu f)) (some q) (ev2 f)) [] W)
 (Y : ∀(l:Nat) (r:List w) (f:w) (W:World) (G:Nat->Value),A f G->I r W->r.length<b->c.heap.size<=W.heap.size->W0 (some l) (m-1-1) P k N (fun e K H h=>e = .normal/\Rgx.ND c.heap.size W h/\d W h/\I (r ++ [f]) h) G [] W)
 (aa : ∀(D:Nat) (g:List w) (W:World),c.heap.size<=D->S g->I g W->W.heap[D]? = some (.deferred (some []))->Q .normal x ({ target := .collected D,args := #[] }::ds) W):W0 none m P k (.rangeFunc u #[E,q] p N) Q x ds c:=fun a t Z=>by
 refine Rgx.Ja (F:=FR none) rfl h1 (by rw[t.ev]; exact hg) trivial J hseq R T V U (fun _=>rfl) I O L (fun f i => ∃ G,EX i k G/\i.defers = []/\A f G) ?_ ?_ ?_
 ·intro l f W;refine wpIn_mono (X l f W _ (R5 t hp hq) rfl) ?_;rintro e i w' ⟨G,y,rfl,j,n,rfl⟩;exact⟨⟨G,y,j,n⟩,rfl⟩
 ·rintro l r f W i ⟨G,y,j,n⟩ hi hl hs;refine wpIn_mono (Y l r f W G n hi hl hs i y j) ?_;rintro e a'' w' ⟨K,aHl,rfl,v⟩;exact v
 ·intro D g W j n v M;refine⟨x,⟨t.size,t.get⟩,?_⟩;show Q .normal x (_::a.defers) W;rw[Z]; exact aa D g W j n v M
end Fx
end Go.Proofs.YtabjalhnkndjaaaGreatDoor
namespace Go.Proofs.YtabjalhnkndjaaaGreatDoor
open Go.Proofs.Tryz
open Fx hiding E9 Fa HY Jf Jk L R start
open Go.RowKit Rt
namespace Rt
structure XD(sb:Nat)(v:Value)(W W':World):Prop where
 size:W.heap.size<=W'.heap.size
 b:W'.heap[sb]? = W.heap[sb]?
 g : ∀ g,v.ownBlock=some g->W'.heap[g]? = W.heap[g]?
theorem XD.trans{a:Nat}{v:Value}{A B C:World}(h:XD a v A B)(k:XD a v B C):XD a v A C:=⟨m_ h.size k.size,k.b.trans h.b,fun g c=>(k.g g c).trans (h.g g c)⟩
theorem XD.put(d:k<m)(e : ∀ g,h.ownBlock=some g->g<m)(W:World)(l:Nat)(o o':Obj)(c:m<=l):XD k h W (W.putObj l o'):=⟨by simp,World.putObj_heap_other (by omega),fun g b=>World.putObj_heap_other (by grind)⟩
theorem XD.rX(a:eG b q c)(h1:m<q.heap.size)(f:m≠b)(e : ∀ g,h.ownBlock=some g->g<q.heap.size/\g≠b):XD m h q c:=⟨a.size,a.block m h1 f,fun g d=>a.block g (e g d).1 (e g d).2⟩
theorem aoq(l:iB c U m k x)(r:0<k)(s:XD b (.slice U m j) c q):iB q U m k x:=fun h=>by
 obtain⟨a,p,e,n⟩:=l h;refine⟨a,p,e,fun i o => ?_⟩;have f:=n i o;have W:=s.g a (by rw[e]; rfl);unfold World.cell? at f ⊢;rw[W]; exact f
def BwP(b:Nat)(a:Option Addr)(n c:Nat)(l:List Int)(W:World):Prop:=aM W b 1 (fun _ => .slice a n c) 45/\iB W a n 1 (BH l)
theorem BwP.alloc(h:BwP m U k b f c)(o:Obj):BwP m U k b f (c.alloc o) :=
 ⟨(Below.heap_alloc c o m h.1.lt).trans h.1,fun a=>by
   obtain⟨n,W,e,g⟩:=h.2 a;refine⟨n,W,e,fun i j => ?_⟩;have d:=g i j
   grind [Below.heap_alloc,World.cell?]⟩
theorem adJ{F:List Nat->fD}(h1:k<c.heap.size)(j:m<c.heap.size):Rgx.Vi c.heap.size (fun(n:List Nat) W=>xM W b k m (F n)/\eG m c W):=fun s W i o a B f=>by
 have g : ∀ h,h<c.heap.size->i.heap[h]? = W.heap[h]? := fun h d=>B.block h (n_ d a.2.size) fun e=>by
  have:=(f h e.symm).1; omega
 exact⟨xM.rT a.1 (g k h1) (g m j),⟨B.os.trans a.2.os,B.tape.trans a.2.tape,B.output.trans a.2.output,m_ a.2.size B.size,fun h d l=>(g h d).trans (a.2.block h d l)⟩⟩
theorem ain{n:Nat}(a:aY c j A Q h n x)(d:Mp c b m X y)(w:h.ownBlock=some k):k<c.heap.size/\k≠b:=⟨(a.ge w).2,fun e=>d.xK (by rw[<- e]; exact a.ty w)⟩
theorem aor{T:fD}(h : ∀ i,i<T.n->T.x i≠a):T.par a=0:=by
 have : ∀ n,(∀ i,i<n->T.x i≠a)->kJ T.x T.p n a=0:=fun n=>by
  induction n with
  | zero=>exact fun _=>rfl
  | succ n ih=>grind [kJ]
 exact this _ h
structure JB(J:List Nat->World->Prop)(pre:List Nat)(w:World):Prop where
 ab:Rgx.XC J
 j:J pre w
end Rt
theorem aBu(a:Option Addr)(n c:Nat)(w:World) :
 Calls prog 194 #[.slice a (n) (c)] w fun e w' => ∃ d,e = .returned (.func (.func 208) #[] #[(pt d)])/\w.heap.size<=d/\aM w' d 1 (fun _ => .slice a n c) 45/\Below w.heap.size w w':=by
 refine bX func194 4 ?_;refine ay<|Ej (.slice a (n) (c)) fun b l h f j m =>have g:=bL j.bP (Below.refl w.heap.size w);have i:=iy h;have k:=f.lt;au (.nilFunc)<|aC<|ay<|Lv (.func (.func 208) #[] #[(pt b)]) (qp (us := []) (vs := [(pt b)]) rfl rfl rfl)<|au (.func (.func 208) #[] #[(pt b)])<|aC<|Wr<|aK (.func (.func 208) #[] #[(pt b)])<|⟨b,rfl,i,f,g⟩
theorem asT(J:List Nat->World->Prop)(h d c:Nat)(a:Option Addr)(l:List Int)(w:World)(o:aM w d 1 (fun _ => .slice a (l.length) (c)) 45)(I:iB w a l.length 1 (BH l))(n:JB J [] w)(U:l.length<=1000)
 (L : ∀ r x m,J r m->r.length<l.length->Go.YieldAt (FR none) 1 prog h #[av (x:Nat),aG (l.getD x 0)] m fun e y=>e = .returned (.bool true)/\J (r ++ [x]) y/\XD d (.slice a l.length c) m y) :
  Calls prog 208 #[.func (.yield h) #[] #[],(pt d)] w fun e w'=>(∃ v,e = .returned v) /\ ∃ F,F=LV l.length l.length/\J F w':=by
 have n:JB J (LV l.length (l.length-l.length)) w:=by rw[Nat.sub_self]; exact n
 refine bX func208 19 ?_;refine ay<|Lv (.slice a (l.length) (c)) (aR o.aJ 0)<|au (av l.length)<|Lv (av ((l.length:Int)-1)) jK<|au (av ((l.length:Int)-1))<|aC<|Wb<|Wo (fun f u => ∃ k:Nat,k<=l.length/\f 0 = .func (.yield h) #[] #[]/\f 1=(pt d)/\f 3=av ((k:Int)-1)/\aM u d 1 (fun _ => .slice a (l.length) (c)) 45/\iB u a l.length 1 (BH l)/\JB J (LV l.length (l.length-k)) u) (fun f _=>(intOf (f 3)+1).toNat) ⟨l.length,(A_ _),(by rfl),(by rfl),ic,o,I,n⟩ ?_;rintro S X ⟨k,T,A,B,g,D,E,p⟩;refine aQ<|ay<|bA g ?_;by_cases z:0<=((k:Int)-1)
 ·refine Lv aH (mW z)<|aC<|aP<|Wk<|sN<|aQ<|Wb<|aQ<|W.akH 2<|Ly.v _ (iJ rfl A)<|Ly.v _ (iJ rfl g)<|Ly.v _ (bE (x:=fun _ => .slice a (l.length) (c)) rfl B (by kernel_rfl) D.aJ (i:=0) (by omega) (by omega) rfl)<|Ly.v _ (iJ rfl g) ?_;obtain⟨G,Q,H,M⟩:=E (by omega);refine Ly.v (pf G (k+Q-1)) (fQ rfl (rfl.trans (K_ (fun q=>Value.slice q (l.length) (c)) H)) rfl underlying45 (s:=1) (by kernel_rfl) (by omega) (by omega) (by omega))<|Ly.v _ (bE (x:=BH l) rfl rfl (by kernel_rfl) M (i:=k-1) (by omega) (by omega) rfl) ?_;refine Ly.yield (l:=h) (args := [av ((k:Int)-1),aG (l.getD (k-1) 0)]) rfl rfl rfl (Qo rfl rfl) rfl (by have:=L (LV l.length (l.length-k)) (k-1) _ p.j (by rw[XB]; omega); rw[show((k-1:Nat):Int)=(k:Int)-1 by omega]at this; exact this) ?_;rintro R t ⟨rfl,K,C⟩;refine⟨.bool true,rfl,?_⟩;have N:=C.b.trans D;have O:=aoq E (by decide) C;have P:JB J (LV l.length (l.length-(k-1))) t:=⟨p.ab,by rw[show l.length-(k-1)=(l.length-k)+1 by omega]; unfold LV; rw[show l.length-1-(l.length-k)=k-1 by omega]; exact K⟩;refine Ly.v _ (aaA rfl rfl)<|Ly.nil<|sN<|aL<|Wk<|bS<|sN<|Wl<|bA g<|Lv (av ((k:Int)-2)) jK<|au (av ((k:Int)-2))<|Ln<|iA ⟨k-1,(by omega),A,B,ic,N,O,P⟩ ?_;show(intOf (av ((k:Int)-2))+1).toNat<_;simp only[g,intOf]; omega
 refine Lv aD (mM z) (aC (aL (Wx (cZ (iC (dB (⟨.tuple #[],jQ Tryz.results208,?_⟩)))))));exact⟨⟨_,rfl⟩,_,rfl,by have:=p.j; rw[show l.length-k=l.length by omega]at this; exact this⟩
theorem aos(b c:Nat)(a:Option Addr)(l:List Int)(i:l.length<=1000) :
 Rgx.aoo (FR none) 2 prog 208 #[(pt b)] (fun x:Nat => #[av (x:Int),aG (l.getD x 0)]) (XD b (.slice a l.length c)) (fun k=>k=LV l.length l.length) l.length (BwP b a l.length c l) :=
 fun j J W ⟨h,e⟩ g f d=>callsIn_wide.2 (asT J _ _ _ _ _ _ h e ⟨g,d⟩ i f)
namespace Rt
theorem XE{T:fD}(a:T.ok)(h : ∀ k,k∈f->T.has k=true)(x:Nat):0<=f.getD x 0/\f.getD x 0<=18446744073709551615:=by
 by_cases d:x<f.length
 ·have c:f.getD x 0∈f:=by simp_all
  obtain⟨i,b,e⟩:=ji (h _ c);rw[<- e]; exact adE a b
 simp_all
theorem XF{T:fD}(l:T.ok)(e:f=T.dI a)(x:Nat):0<=f.getD x 0/\f.getD x 0<=18446744073709551615:=XE l (fun k c=>by
 obtain⟨i,b,d⟩:=List.getElem_of_mem c;have:=fD.Vg l e b
 grind) x
theorem aio{T:fD}(a:T.ok)(h : ∀ k,k∈f<->T.has k=true)(x:Nat):0<=f.getD x 0/\f.getD x 0<=18446744073709551615:=XE a (fun k b=>(h k).1 b) x
end Rt
theorem aot(m:fO)(u B:Nat)(w:World)(h:pF w B u m)(id pa:Int)(JX:0<=id/\id<=18446744073709551615) :
 Calls prog 178 #[(pt u),aG id,aG pa] w fun e w'=>e = .returned (av (m.T.Eb id pa))/\Below w.heap.size w w':=by
 have hC:=h.c;have hT:=h.t;have hP:=h.p;have hR:=h.r;have hG:=h.g;have hA:=h.a;refine aon 3 func178 rfl (n:=55) rfl (by rfl)<|W0.seq<|W0.list<|Ej (pt u) fun g1 w1 kV m1 s1 z1 =>have⟨m2,m3,m4,m5,m6,m7,b1⟩:=kU s1.bP hC hT hP hR hG hA (Below.refl w.heap.size w);have tJ:=iy kV;have⟨rJ,Ed,Bo,FU,DX⟩:=Du kV hC.lt hP.lt hR.lt hG.lt hA.lt;have vB:=m1.lt;au (av 0)<|Ln<|vZ<|W0.seq<|W0.list<|lX (akX _) ?_;rintro e9 w2 ⟨y,j,v,hg1,m8,hb1⟩;refine⟨_,v,?_⟩;clear v;have nem.aFI:m.mb≠j:=u_ (n_ m3.lt hg1);have⟨m9,m10,m11,kY,m13,m14,m15,b2⟩:=lY hb1 m2 m3 m4 m5 m6 m7 m1 b1;have m16:=m8.Mr b1.size;clear m8 hg1;refine oJ 1 (fun _ => .pointer none) fun M w3 nN m17 s3 z2 =>have⟨m18,m19,m24,mU,b3⟩:=oK s3.bP m9 m10 m15 m16 b2;have xw:=gQ nN b2.size;have⟨aou,aBv,aBw,aBx,aBy,aov⟩:=J3 nN m9.lt m11.lt kY.lt m13.lt m14.lt m15.lt;have zR:=m17.lt;jf m17 0 (pt y) fun w4 pK s4 z3 =>have pO:aM w4 M 1 (fun _=>(pt y)) 76:=eP pK;have gT:=gJ s4 m17.ty;have⟨om,qb,pz,pQ⟩:=QC gT m18 m19 m24 mU;have b4:=s4.below b3 b3.size (by omega);Ln<|vZ<|W0.seq<|W0.list<|Lv (pt u) (aR pz.aJ 0)<|au (pt u)<|au (pf u 18)<|Lv (pt m.tp) (aR om.aJ 18)<|au (aG pa)<|lX (U3 pa qb) ?_;rintro e9 w5 ⟨G,H,v,rE,hb2⟩;refine⟨_,v,?_⟩;clear v;have⟨qy,uF,sQ,b5⟩:=jv hb2 pz pQ pO b4;obtain⟨l,K⟩ : ∃ q,q=fD.dI m.T pa:=⟨_,rfl⟩;rw[<- K]at rE ⊢;have hl4:l.length<=4:=by rw[K]; exact fD.Dl
 refine au (.slice G (l.length) (H))<|Ln<|vZ<|W0.seq<|W0.seq<|W0.list<|au (.slice G (l.length) (H))<|lX (aBu G l.length H _) ?_;rintro e9 w6 ⟨sb1,v,hg2,qc,hb3⟩;refine⟨_,v,?_⟩;clear v;have⟨xA,F,wC,vU,V⟩:=oK hb3 qy uF sQ rE b5;refine Ln<|vZ<|W0.block ?_;have asU:=F.map.ne xA.ty;have asV:=F.map.ne wC.ty;have alg:=F.map.ne qc.ty;have asW:=qc.lt;have hgm:=F.gm;have ltm:=F.lt;have ltt:=F.wo.lt;have L : ∀ g,(.slice G (l.length) (H):Value).ownBlock=some g->g<w6.heap.size/\g≠j:=fun g A=>ain vU F.map A;refine W0.aop (gf:=208) (lb := #[(pt sb1)]) (eu:=fun x:Nat=>av (x:Int)) (ev2:=fun x=>aG (l.getD x 0)) (by decide) rfl (fun args w=>qD func208 (by kernel_rfl) rfl args w) (aos sb1 H G l (by omega)) ⟨qc,anP vU⟩ (fun W o _ hi=>hi.alloc o) (fun h k=>h.trans k) (fun W l o o' K _ _=>XD.put asW (fun g A=>(L g A).1) W l o o' K) (by decide) (by decide) (fun xs W=>xM W (w.heap.size) y j (TV m.T l xs)/\eG j w6 W) (adJ ltt ltm) ⟨F,oZ _ _⟩ (fun x f=>f 3=(pt g1)/\f 7=(pt M)/\f 10=aG (l.getD x 0)) ?_ ?_ ?_
 ·intro ly x W;exact W0.list (Lv (aG (l.getD x 0)) (fG rfl rfl) (Ln ⟨rfl,rfl,⟨rfl,rfl,rfl⟩,rfl⟩))
 ·rintro ly pre x W f9 ⟨q3,q7,q10⟩ ⟨hT2,s⟩ hpl hWs;have I:=s.below V V.size hgm;have E:=h.up I;have hPW:=E.p;have N:=E.c;have O:=E.t;have R:=xA.cK s asU;have asX:=R.lt;have S:=wC.cK s asV;have asY:=S.lt;have lWm:=n_ ltm s.size;have lWt:=s.size;have lCW:=N.lt;have lPW:=hPW.lt;have lTW:=O.lt;have lh0:=h.t.lt;have lh1:=h.p.lt;refine W0.block<|W0.asR [1,6,0,2,3,4,5,7,8] [4,0,4,0,0,4,0,4,3] Mk mE Mk.trans (bR := [(8,0,[0]),(8,2,[7,5,4,3,2]),(8,5,[7,5]),(8,7,[7])]) (by kernel_rfl) (by kernel_rfl) (by kernel_rfl) (by kernel_rfl) (by kernel_rfl) fun qN eX iM =>have s7:eG W.heap.size W qN:=Sb eX;have⟨wD,tL,uG,oo,sF,pE⟩:=oL eX N hPW O R S hT2;have b7:=(oZ j W).then s7 (.inr (oZ j W).size);eZ q10<|eZ q10<|Rs (pt y) (aR sF.aJ 0 (ha:=q7))<|Rs (pt u) (aR oo.aJ 0 (ha:=q3))<|aS (pt u)<|aS (pf u 19)<|Rs (.map (some m.pb)) (aR wD.aJ 19) ?_
  rcases uo m.T.x m.T.n (l.getD x 0)with ⟨adK,Ih,Ii⟩|iN
  ·refine Rs (aG (m.T.p adK)) (Df (z:=aG 0) rfl rfl rfl tL underlying78 underlying26 (by rfl) Ih Ii rfl)<|jP<|dO (RO _ (m.T.p adK) pE (XF h.t.uU K x)) _ rfl ?_;rintro w7 ⟨vV,s8⟩;have P:=pE.Gg s8;have X:=b7.then s8 (.inl rfl);refine Ln<|Rn<|R4<|have ep:m.T.par (l.getD x 0)=m.T.p adK:=FM E.t.uU.inj Ih Ii;⟨rfl,⟨X.size,fun q hq hq2=>X.block q hq2 (by omega)⟩,XD.rX X (by omega) alg (fun g A=>⟨n_ (L g A).1 lWt,(L g A).2⟩),?_,s.then X (.inl rfl)⟩;rw[KS,ep]; exact vV
  refine Rs (aG 0) (ahO (z:=aG 0) rfl rfl rfl tL underlying78 underlying26 (by rfl) iN)<|jP<|dO (RO _ 0 pE (XF h.t.uU K x)) _ rfl ?_;rintro w8 ⟨tN,s9⟩;have Q:=pE.Gg s9;have Y:=b7.then s9 (.inl rfl);refine Ln<|Rn<|R4<|have ep:m.T.par (l.getD x 0)=0:=aor iN;⟨rfl,⟨Y.size,fun q hq hq2=>Y.block q hq2 (by omega)⟩,XD.rX Y (by omega) alg (fun g A=>⟨n_ (L g A).1 lWt,(L g A).2⟩),?_,s.then Y (.inl rfl)⟩;rw[KS,ep]; exact tN
 rintro D xs W hD rfl ⟨hT2,s⟩ hK;have I:=s.below V V.size hgm;have E:=h.up I;have hPW:=E.p;have N:=E.c;have O:=E.t;have R:=xA.cK s asU;have asX:=R.lt;have S:=wC.cK s asV;have asY:=S.lt;have lWm:=n_ ltm s.size;have lWt:=s.size;have lCW:=N.lt;have lPW:=hPW.lt;have lTW:=O.lt;have lh0:=h.t.lt;have lh1:=h.p.lt;have lDW:=(t_.1 hK).1;have oW:=vU.cK s (fun e=>(L _ e).2 rfl);refine R4<|vZ<|W0.seq<|W0.seq<|W0.list<|Lv (pt u) (aR R.aJ 0)<|au (pt u)<|au (pf u 18)<|Lv (pt m.tp) (aR N.aJ 18)<|lX (adi O) ?_;rintro e9 w9 ⟨la1,C,d,v,xZ,hq1,asZ,hb4⟩;refine⟨_,v,?_⟩;clear v;have oP:=Sb hb4;have⟨yI,xC,zk⟩:=iP hb4 S hT2 oW;have b10:=(oZ j W).then oP (.inr (oZ j W).size);refine au (av d.length)<|au (av 0)<|Ln<|vZ<|W0.block<|W0.loop (fun f U => ∃ i:Nat,i<=d.length/\f 1=aG id/\f 2=aG pa/\f 7=(pt M)/\f 8 = .slice G (l.length) (H)/\f 37 = .slice la1 (d.length) (C)/\f 38=av (d.length:Int)/\f 39=av (i:Int)/\aM U M 1 (fun _=>(pt y)) 76/\xM U (w.heap.size) y j (oV l d (TV m.T l (LV l.length l.length)) i)/\aY U W.heap.size 26 1 (.slice la1 (d.length) (C)) d.length (BH d)/\aY U w4.heap.size 26 1 (.slice G (l.length) (H)) l.length (BH l)/\eG j W U) (fun f _=>((d.length:Int)-intOf (f 39)).toNat) ⟨0,(by omega),ic,ic,(by rfl),(by rfl),(by rfl),ic,ic,yI,xC,xZ,zk,b10⟩ ?_;rintro f1 uE ⟨i,hi,h1,h2,h3,h4,h5,h6,J,zS,zw,Aj,Bq,b11⟩;refine W0.seq<|W0.list ?_;by_cases c40:(i:Int)<(d.length:Int)
 ·refine Lv aH (fK c40 (hx:=J) (hy:=h6)) (Ln (vZ (W0.seq (W0.cond (b:=true) rfl (fun _=>W0.skip (vZ (W0.seq (W0.block (W0.seq (W0.list ?_)))))) (fun h=>nomatch h)))));obtain⟨Gv,aa⟩:=Aj.wz;have BQ:=Aj.fE (K_ (fun q=>Value.slice q d.length C) aa);refine Lv (pf Gv i) (fC 1 (hx:=(h5.trans (K_ (fun q=>Value.slice q (d.length) (C)) aa))) (hi:=J))<|Lv (aG (d.getD i 0)) (aR BQ.aJ i)<|au (aG (d.getD i 0))<|Ln<|vZ<|W0.seq<|W0.list<|bA h4<|au (aG (d.getD i 0))<|dO (aA7 _ (d.getD i 0) _ _ _ _ Bq (by omega)) (ax := #[.slice G (l.length) (H),aG (d.getD i 0)]) _ rfl ?_;intro Bg hb5;have s11:=Sb hb5;have⟨zT,BR,Bj,Ak⟩:=jv hb5 zS zw Bq BQ;have b12:=b11.then s11 (.inr b11.size);by_cases Z:d.getD i 0∈l
  ·skip
   refine Lv aD (aaA rfl (K_ Value.bool (f_ Z)))<|Ln<|vZ<|W0.cond (b:=false) rfl (fun h=>nomatch h)<|fun _=>W0.skip<|R4<|vZ<|W0.list<|Lv (av ((i:Int)+1)) (gu (hx:=J))<|au (av ((i:Int)+1))<|Ln ?_;have BF:=Ak.fE (K_ (fun q=>Value.slice q d.length C) aa.symm);have DY:xM Bg (w.heap.size) y j (oV l d (TV m.T l (LV l.length l.length)) (i+1)):=by unfold oV; rw[d_ Z]; exact BR
   skip
   refine asP ⟨i+1,(by omega),(h1.trans ic),(h2.trans ic),h3,h4,h5,(h6.trans ic),ic,zT,DY,BF,Bj,b12⟩ ?_;show((d.length:Int)-intOf (av ((i:Int)+1))).toNat<_;simp only[J,intOf]; omega
  skip
  refine Lv aH (alX rfl (K_ Value.bool (g_ Z))) (Ln (vZ (W0.cond (b:=true) rfl (fun _=>W0.list (Lv (pt y) (aR zT.aJ 0 (ha:=h3)) ?_)) (fun h=>nomatch h))));refine au (aG (d.getD i 0))<|dO (RO _ 0 BR (aio h.t.uU hq1.2 i)) _ rfl ?_;rintro BD ⟨Et,s12⟩;have aow:=BR.Gg s12;have Bt:=zT.fH aow;have Dv:=Bj.fH aow;have BZ:=Ak.fH aow;have b13:=b12.then s12 (.inl rfl);refine Ln<|R4<|vZ<|W0.list<|Lv (av ((i:Int)+1)) (gu (hx:=J))<|au (av ((i:Int)+1))<|Ln ?_;have Eu:=BZ.fE (K_ (fun q=>Value.slice q d.length C) aa.symm);have Gd:xM BD (w.heap.size) y j (oV l d (TV m.T l (LV l.length l.length)) (i+1)):=by unfold oV; rw[b_ Z]; exact Et
  skip
  refine asP ⟨i+1,(by omega),(h1.trans ic),(h2.trans ic),h3,h4,h5,(h6.trans ic),ic,Bt,Gd,Eu,Dv,b13⟩ ?_;show((d.length:Int)-intOf (av ((i:Int)+1))).toNat<_;simp only[J,intOf]; omega
 refine Lv aD (fM c40 (hx:=J) (hy:=h6))<|Ln<|vZ<|W0.seq<|W0.cond (b:=false) rfl (fun h=>nomatch h)<|fun _=>W0.exit<|asN<|aBr<|asO<|vZ<|W0.seq ?_;have hil:i=d.length:=by omega
 refine W0.list<|Lv (pt y) (aR zS.aJ 0 (ha:=h3))<|bA h1<|bA h2<|dO (RO _ pa zw JX) _ rfl ?_;rintro Bh ⟨vG,s13⟩;have aox:=zw.Gg s13;have b14:=b11.then s13 (.inl rfl);refine au (av (fD.Eb (oV l d (TV m.T l (LV l.length l.length)) i) id pa))<|Ln<|vZ<|W0.ret<|have hKD:=(b14.block D lDW (by omega)).trans hK;have eD:fD.Eb (oV l d (TV m.T l (LV l.length l.length)) d.length) id pa=m.T.Eb id pa:=ail h.t.uU K hq1;leaveD hKD (rV Tryz.results178 (show LZ prog _ _ (.tmp 6) (av (fD.Eb (oV l d (TV m.T l (LV l.length l.length)) i) id pa))from rfl)) ⟨by rw[hil,eD],?_⟩;exact(b14.below I I.size hgm).grown (grownBy_putObj' _ D _) (b14.below I I.size hgm).size fun r e=>by cases e; omega
end Go.Proofs.YtabjalhnkndjaaaGreatDoor
namespace Go.Proofs.YtabjalhnkndjaaaGreatDoor
open Go.RowKit
namespace Fx
abbrev ZC:=List (Nat × List Nat)
def NG(ops:List Oper)(a:List Nat)(b:Bool)(i:Nat)(l:ZC):Bool:=l.all fun x=>match a[x.1]? with|some e => !Nat.beq i e&&(if b then DU ops i x.2 e else DU ops e x.2 i)|none=>false
def Vj(ops:List Oper)(a:List Nat)(c b:List ZC):Bool:=(List.range ops.length).all fun i=>NG ops a true i (c.getD i [])&&NG ops a false i (b.getD i [])
def uX(a:List Nat)(b:Array Bool)(j:Nat):Bool:=match a[j]? with|some e=>b.getD e false|none=>false
def aoy(m:Nat->Bool)(j:Nat):Nat->Bool:=fun q=>bif Nat.beq q j then true else m q
section
variable {P:Program} {n:Nat} {Q:kR} {f:Nat->Value} {w:World} {ops:List Oper}
theorem ZE{p:List Nat}{a:Array Bool}(hr:m∈Region.ready .any ops.toArray a)(c:DT ops.toArray .any a)(j:m≠k)(h:DU ops m p k=true):a.getD k false=true:=by
 obtain⟨d,g,i,f⟩:=jo hr;obtain⟨b,h⟩:=nS h
 cases b with
 | zero=>grind [reach]
 | succ b =>
   grind [reach,c.reach,dL,Nat.beq_refl]
theorem W.masks{id:Nat}(c:List Nat)(J O:List ZC)(o:Gh->Nat->Value)(S:(Nat->Bool)->Gh->World->Prop)(hm:P.follows .mixedOrders=true)(H:Bd n ops=true)(hsel:Region.noSelect ops.toArray=true)(ata:Vj ops c J O=true)
 (hes:c.all (fun e=>Nat.blt e ops.length&&(match (bH ops e).guard with|none=>true|_=>false))=true) (hnd:c.Nodup) (r0:Gh)
 (h0 : ∀ y,Below w.heap.size w y->y.heap.size=w.heap.size->S (fun _=>false) r0 y)
 (N : ∀ i,i<ops.length->c.contains i=false -> ∀ r m w,(∀ x∈J.getD i [],m x.1=true)->(∀ x∈O.getD i [],m x.1=false)->S m r w->if Region.wanted (bH ops i) (yf ops.toArray (full ops f (o r)))then Oper.quietUpon P (S m r) w (o r i) ((execOp (ev (full ops f (o r))) (bH ops i)).run P w)else o r i=undef)
 (he : ∀ j i,c[j]? = some i -> ∀ r m w (a:Act) (K:Act->World->Prop),(∀ x∈J.getD i [],m x.1=true)->(∀ x∈O.getD i [],m x.1=false)->m j=false->S m r w->(∀ x∈(bH ops i).op.operands,a.eval x=ev (full ops f (o r)) x)->(∀ p w',S (aoy m j) (E8 r j p) w'->K (a.put (bH ops i).dst (o (E8 r j p) i)) w')->(bH ops i).wp P a w K (JR n Q))
 (V : ∀ i,i<ops.length -> ∀ j r p,(∀ x∈J.getD i [],x.1≠j)->c[j]? ≠ some i->j<c.length->o (E8 r j p) i=o r i)
 (h : ∀ r m w',(∀ j,j<c.length->m j=true)->S m r w'->Q .normal (full ops f (o r)) w'):W P n (.region id ops.toArray true) Q f w:=fun a M=>by
 refine wp_region_any hm ?_;have Y : ∀ i,i<ops.length->NG ops c true i (J.getD i [])=true/\NG ops c false i (O.getD i [])=true:=fun i t=>by
  grind [Vj]
 have hpr : ∀ i,i<ops.length -> ∀ x∈J.getD i [],∃ e,c[x.1]? = some e/\i≠e/\DU ops i x.2 e=true:=fun i t x D=>by
  grind [NG,Nat.beq_refl]
 have hpo : ∀ i,i<ops.length -> ∀ x∈O.getD i [],∃ e,c[x.1]? = some e/\DU ops e x.2 i=true:=fun i t x D=>by
  grind [NG]
 have aBB : ∀ k i,c[k]? = some i->i<ops.length/\(bH ops i).guard=none:=fun k i hk=>by
  rw[List.all_eq_true]at hes;have:=hes i (List.mem_of_getElem? hk)
  grind [Nat.blt_eq]
 have key : ∀(F:Nat) (b:Array Bool) (a:Act) (y:World) (r:Gh),b.size=ops.length->DT ops.toArray .any b->Fr a n (over ops f (o r) b)->S (uX c b) r y ->
  (∀ E:List Nat,E=(List.range ops.length).filter (fun i => !b.getD i false)->E.length=F)->wpAny P .any ops.toArray (JR n Q) F b a y:=by
  intro F
  induction F with
  | zero =>
    intro b a y r Z U M L X;have hall : ∀ i,i<ops.length->b.getD i false=true:=fun i t=>by
     have h1:=List.eq_nil_of_length_eq_zero (X _ rfl)
     cases N:b.getD i false
     ·have:i∈(List.range ops.length).filter (fun i => !b.getD i false):=by grind
      grind
     ·rfl
    have hnone:Region.ready .any ops.toArray b = []:=by
     cases N:Region.ready .any ops.toArray b with
     | nil=>rfl
     | cons i l =>
       grind [Region.ready,List.mem_cons_self]
    refine⟨hnone,full ops f (o r),?_,h r _ y (fun j G => ?_) L⟩
    ·have:over ops f (o r) b=full ops f (o r):=by
      funext s
      unfold over full
      cases Y:tF ops s with
      | none=>rfl
      | some i=>simp only; rw[d_ (hall i (yE Y).2)]
     grind
    grind [uX]
  | succ F ih =>
    intro b a y r Z U M L X;have hcount : ∀ i,i∈Region.ready .any ops.toArray b -> ∀ E:List Nat,E=(List.range ops.length).filter (fun j => !(b.setIfInBounds i true).getD j false)->E.length=F:=by
     intro i B E aBC;obtain⟨h1,T,_,_⟩:=jo B;subst aBC;have e:(List.range ops.length).filter (fun j => !(b.setIfInBounds i true).getD j false)=((List.range ops.length).filter (fun i => !b.getD i false)).erase i:=by
      rw[List.Nodup.erase_eq_filter (List.Nodup.sublist List.filter_sublist List.nodup_range),List.filter_filter];apply List.filter_congr;intro j G;by_cases e:i=j
      ·subst e; rw[zn (by omega)]; simp
      ·rw[qE e]
       grind
     grind
    refine⟨fun hnone => ?_,fun i B => ?_⟩
    ·exfalso;exact(by
      have : ∃ i,i∈Region.ready .any ops.toArray b:=by
       obtain⟨q,N⟩ : ∃ q,q∈(List.range ops.length).filter (fun i => !b.getD i false):=by
        cases hfe:(List.range ops.length).filter (fun i => !b.getD i false)with
        | nil=>grind
        | cons q l=>grind [List.mem_cons_self]
       have aoz : ∀ m q,q<=m->q<ops.length->b.getD q false=false -> ∃ i,i<ops.length/\b.getD i false=false /\ ∀ j,j<i->b.getD j false=true:=by
        intro m
        induction m with
        | zero=>grind
        | succ m ihm =>
          grind
       simp only[List.mem_filter,N_]at N;obtain⟨i,t,hi1,hi2⟩:=aoz q q (A_ _) N.1 (by grind);refine⟨i,mem_ready.2 ⟨getD_in (by omega) hi1,bH ops i,?_,fun e he hb=>hi2 e.on ((pJ H t).2.2.2 e.on ?_)⟩⟩
       ·grind [bH]
       grind [dL,Array.any_eq_true',Nat.beq_refl]
      grind)
    ·obtain⟨h1,t,hop,hall⟩:=jo B;have hsz':(b.setIfInBounds i true).size=ops.length:=(by grind);have ali:=U.set B;have hev:=agE (f:=f) H (v:=o r) B;have hae : ∀ x∈(bH ops i).op.operands,a.eval x=ev (full ops f (o r)) x:=fun x D=>by rw[M.ev]; grind
     have hex:=execOp_congr _ (Region.noSelect_spec hsel i _ · · hop) hae;have hwant:Region.wanted (bH ops i) (yielded ops.toArray a.tmps)=Region.wanted (bH ops i) (yf ops.toArray (full ops f (o r))):=(by rw[M.yf]; exact Qq H B);have hpre : ∀ x∈J.getD i [],uX c b x.1=true:=fun x D=>by
      obtain⟨e,T,h3,A⟩:=hpr i t x D;unfold uX;rw[T]; exact ZE B U h3 A
     have hpost : ∀ x∈O.getD i [],uX c b x.1=false:=fun x D=>by
      obtain⟨e,T,A⟩:=hpo i t x D;unfold uX;rw[T]
      cases hle:b.getD e false with
      | false=>omega
      | true =>
        obtain⟨mm,A⟩:=nS A;have:=U.reach _ _ A hle
        grind
     unfold wpOp;simp only[hop];rw[hwant];by_cases hne:c.contains i=true
     ·have hmem:i∈c:=(by grind);obtain⟨j,G⟩:=List.getElem?_of_mem hmem;have hg:=(aBB j i G).2;have hjl:j<c.length:=(List.getElem?_eq_some_iff.1 G).1;rw[d_ (by unfold Region.wanted; rw[hg])];refine .inl<|he j i G r _ y a _ hpre hpost (by grind [uX]) L hae fun p w' hS' => ?_;have hsame:over ops f (o r) b=over ops f (o (E8 r j p)) b:=by
       funext s
       unfold over
       cases Y:tF ops s with
       | none=>rfl
       | some q =>
         simp only
         cases hlq:b.getD q false
         ·rfl
         ·simp only[if_true];have hqi:=(yE Y).2;refine(V q hqi j r p (fun x D e => ?_) (fun e => ?_) hjl).symm
          ·obtain⟨C,T,h3,A⟩:=hpr q hqi x D;obtain⟨mm,A⟩:=nS A;have h5:=U.reach _ _ A hlq
           grind
          grind
      refine ih _ _ _ (E8 r j p) hsz' ali ?_ ?_ (hcount i B)
      ·have:=(hsame ▸ M).put (d:=(bH ops i).dst) (by
        cases V:(bH ops i).dst with
        | none=>rfl
        | some d=>simp[dF,Nat.blt_eq,((pJ H t).1 d V).2]) (o (E8 r j p) i)
       rwa [Qp H Z t]at this
      ·have e:uX c (b.setIfInBounds i true)=aoy (uX c b) j:=by
        funext q
        unfold aoy
        cases hb:Nat.beq q j with
        | true =>
          have:=B_ hb;subst this;unfold uX;rw[G]; exact zn (by omega)
        | false =>
          have hqj:q≠j:=fun z=>by grind [Nat.beq_refl]
          unfold uX
          cases hqe:c[q]? with
          | none=>rfl
          | some C =>
            have:i≠C:=fun z=>by
             subst z;have h9:=List.getElem?_eq_some_iff.1 hqe;have h10:=List.getElem?_eq_some_iff.1 G;exact hqj ((List.getElem_inj hnd).1 (h9.2.trans h10.2.symm))
            exact qE this
       grind
     ·have hne':c.contains i=false:=(by grind);have I:=N i t hne' r _ y hpre hpost L;have hfin : ∀ w',S (uX c b) r w'->wpAny P .any ops.toArray (JR n Q) F (b.setIfInBounds i true) (a.put (bH ops i).dst (o r i)) w':=fun w' hS'=>by
       refine ih _ _ _ r hsz' ali ?_ ?_ (hcount i B)
       ·have:=M.put (d:=(bH ops i).dst) (by
         cases V:(bH ops i).dst with
         | none=>rfl
         | some d=>simp[dF,Nat.blt_eq,((pJ H t).1 d V).2]) (o r i)
        rwa [Qp H Z t]at this
       ·have e:uX c (b.setIfInBounds i true)=uX c b:=by
         funext q
         unfold uX
         cases hqe:c[q]? with
         | none=>rfl
         | some C =>
           have:i≠C:=fun z=>by grind
           exact qE this
        grind
      by_cases hwt:Region.wanted (bH ops i) (yf ops.toArray (full ops f (o r)))=true
      ·rw[d_ hwt]at I ⊢;refine .inl ?_;unfold Oper.wp;rw[hex];generalize (execOp (ev (full ops f (o r))) (bH ops i)).run P y=res at I
       cases res with
       | ok nx w' =>
         cases nx <;> simp only[Oper.quietUpon]at I <;> simp only[Oper.upon]
         case value u=>obtain⟨R,C⟩:=I; subst R C; exact hfin _ L
         case skip=>obtain⟨R,C⟩:=I; subst R; rw[<- C]; exact hfin _ L
         case enter g args =>
          obtain⟨R,hc⟩:=I;subst R;exact hc.mono fun e w'' ⟨he',hw''⟩=>by grind
       | halt x w'=>simp only[Oper.quietUpon]at I
      grind
 have hrep : ∀ i,(Array.replicate ops.toArray.size false).getD i false=false:=fun i=>by
  rw[Array.getD_eq_getD_getElem?]
  grind
 have hstart:over ops f (o r0) (Array.replicate ops.toArray.size false)=f:=by
  grind [over]
 have hdn:uX c (Array.replicate ops.toArray.size false)=fun _=>false:=by
  grind [uX]
 have:=key ops.toArray.size (Array.replicate ops.toArray.size false) a { w with drawn:=w.drawn+1 } r0 (by simp) (DT.start _ _ _) (by grind) (by rw[hdn]; exact h0 _ (Below.refl _ _).drew rfl) (fun E X=>by
  subst X;rw[List.filter_eq_self.2 (fun i _=>by grind)];simp)
 simpa using this
theorem kK{r:Gh}{p:Nat × Nat}(h:j≠k):E8 r k p j=r j:=by
 unfold E8;have:Nat.beq j k=false:=by
  cases hq:Nat.beq j k
  ·rfl
  simp_all
 simp_all
theorem R6{o:Oper}{ρ:Operand->Value}(g:o.op = .alloc T)(c:((P.info? T).bind (·.zero)).map (·.cells)=some (aA m x))(a:World) : ∃ b,(execOp ρ o).run P a = .ok (.value (.pointer (some ⟨a.heap.size,0,none⟩))) b/\aM b a.heap.size m x T/\eG a.heap.size a b:=by
 obtain⟨e,d,h⟩:=Option.map_eq_some_iff.1 c;obtain⟨j,f,i⟩:=Option.bind_eq_some_iff.1 d;refine⟨a.alloc (.cells e.cells T),?_,?_,eG.alloc _ _⟩
 ·unfold execOp
  simp_all [Instr.alloc,zeroValue,typeInfo,newVar,newRow]
 show(a.alloc _).heap[a.heap.size]? = _
 grind [iY]
theorem R7{o:Oper}{ρ:Operand->Value}{v:Operand}(F:o.op = .store E O v)(H:(P.info? E).map (·.size)=some m)(A:ρ O = .pointer (some ⟨k,0,none⟩))(B:ρ v=h)(r:h.cells=aA m y)(h1 : ∀ j,j<m->(y j).oneCell'=true)(l:aM c k m x T) : ∃ d,(execOp ρ o).run P c = .ok .skip d/\aM d k m y T/\eG k c d:=by
 have f:=l;have g:(aA m y).all (·.oneCell')=true:=by
  rw[Array.all_eq_true_iff_forall_mem];intro q p;obtain⟨j,b,D⟩:=Array.getElem_of_mem p;have n:j<m:=by grind [gG]
  have C:=jm y n
  simp_all
 have G:(storeVar E ⟨k,0,none⟩ h).run P c = .ok () (c.setRow k (aA m y)):=by
  have e:=run_storeCells_at (P:=P) k 0 T (aA m y).toList 0 (aA m x) c f (by simp[gG]) (fun q u=>(Array.all_eq_true_iff_forall_mem.1 g) q (by simp_all));have i:((aA m x).toList.take (0+0)++(aA m y).toList++(aA m x).toList.drop (0+0+(aA m y).toList.length)).toArray=aA m y:=by
   grind [gG]
  rw[i]at e
  cases u:P.info? E with
  | none=>simp_all
  | some ti =>
    have s:ti.size=m:=(by simp_all);simp only[storeVar,sizeOf,typeInfo,Sem.run_bind,run_program,u,r,gG,s,ne_eq,not_true_eq_false,if_false,Result.andThen_ok,Sem.run_pure,e]
 obtain⟨t,z,I⟩:=JW (w:=c) (cs:=aA m y) f;refine⟨_,?_,z,t⟩;unfold execOp
 grind [Instr.storeAt,Instr.sureAddr,Sem.run_bind,Sem.run_pure,Result.andThen_ok]
def KT(c d:Nat)(vs:Array Value)(a b:Nat):Nat->Value:=fun i=>bif Nat.beq i c then .pointer (some ⟨a,0,none⟩)else bif Nat.beq i d then .pointer (some ⟨b,0,none⟩)else vs.getD i undef
def Py(ops:List Oper)(f:Nat->Value)(c d:Nat)(vs:Array Value)(a b:Nat):Nat->Value:=full ops f (KT c d vs a b)
structure aip(w:World)(m1 m2:Nat)(z1 y1 z2 y2:Nat->Value)(T1 T2:TypeId)(m:Nat->Bool)(r:Gh)(v:World):Prop where
 b:Below w.heap.size w v
 a:m 0=true->w.heap.size<=(r 0).1/\aM v (r 0).1 m1 (if m 2=true then y1 else z1) T1
 c:m 1=true->w.heap.size<=(r 1).1/\aM v (r 1).1 m2 (if m 3=true then y2 else z2) T2
 ne:m 0=true->m 1=true->(r 0).1≠(r 1).1
theorem aip.up{r:Gh}{e:World}(h:aip w m k x y Z f T E D r q)(d:Below q.heap.size q e):aip w m k x y Z f T E D r e :=
 ⟨Oj h.b d,fun v=>⟨(h.a v).1,(h.a v).2.cK (Sb d) (u_ (h.a v).2.lt)⟩,fun v=>⟨(h.c v).1,(h.c v).2.cK (Sb d) (u_ (h.c v).2.lt)⟩,h.ne⟩
def Vk(P:Program)(a:Nat->Value)(ops:Array Oper)(w:World)(b:List Nat)(vs:Array Value):List Oper->Nat->Prop
 | [],_=>True
 | o::l,i=>(b.contains i=true\/(if Region.wanted o (yf ops a)then QB P (ev a) o w (vs.getD i undef)else vs.getD i undef=undef))/\Vk P a ops w b vs l (i+1)
theorem NH{a:Nat->Value}{c:Array Oper}{b:List Nat}{vs:Array Value} : ∀ {l:List Oper} {k:Nat},Vk P a c w b vs l k -> ∀ i,i<l.length->(b.contains (k+i)=true\/(if Region.wanted (bH l i) (yf c a)then QB P (ev a) (bH l i) w (vs.getD (k+i) undef)else vs.getD (k+i) undef=undef))
 | [],_,_,i,hi=>L_ hi (by simp)
 | o::l,k,h,0,_=>h.1
 | o::l,k,h,i+1,hi=>by
   have:=NH h.2 i (by simp_all)
   rwa [show k+1+i=k+(i+1) by omega]at this
theorem Vl(h:m≠j):Nat.beq m j=false:=by
 cases hq:Nat.beq m j
 ·rfl
 simp_all
def GR(l:ZC)(j:Nat):Bool:=l.any fun x=>Nat.beq x.1 j
theorem AX{l:ZC}(h:GR l j=true) : ∃ x∈l,x.1=j:=by
 simp_all [GR]
theorem Jb{id:Nat}{T1 T2 T1' T2':TypeId}{a1 v1 a2 v2:Operand}{m1 m2:Nat}{z1 y1 z2 y2:Nat->Value}{u1 u2:Value}(k l t u:Nat)(I H:List ZC)(vs:Array Value)(hm:P.follows .mixedOrders=true)(hok:Bd n ops=true)(hsel:Region.noSelect ops.toArray=true)(ata:Vj ops [k,l,t,u] I H=true)
 (hes : [k,l,t,u].all (fun e=>Nat.blt e ops.length&&(match (bH ops e).guard with|none=>true|_=>false))=true) (X:decide [k,l,t,u].Nodup=true)
 (hw1:GR (I.getD t []) 0=true) (hw2:GR (I.getD u []) 1=true) (hw3:GR (H.getD k []) 2=true) (hw4:GR (H.getD l []) 3=true)
 (o1:(bH ops k).op = .alloc T1) (o2:(bH ops l).op = .alloc T2) (n1:((P.info? T1).bind (·.zero)).map (·.cells)=some (aA m1 z1)) (n2:((P.info? T2).bind (·.zero)).map (·.cells)=some (aA m2 z2))
 (q1:(bH ops t).op = .store T1' a1 v1) (q2:(bH ops u).op = .store T2' a2 v2) (S:(bH ops t).dst=none) (T:(bH ops u).dst=none) (e1:(P.info? T1').map (·.size)=some m1) (e2:(P.info? T2').map (·.size)=some m2)
 (ha1 : ∀ o p,ev (Py ops f k l vs o p) a1 = .pointer (some ⟨o,0,none⟩)) (ha2 : ∀ o p,ev (Py ops f k l vs o p) a2 = .pointer (some ⟨p,0,none⟩)) (hv1 : ∀ o p,ev (Py ops f k l vs o p) v1=u1) (hv2 : ∀ o p,ev (Py ops f k l vs o p) v2=u2)
 (hu1:u1.cells=aA m1 y1) (hu2:u2.cells=aA m2 y2) (h11 : ∀ j,j<m1->(y1 j).oneCell'=true) (h12 : ∀ j,j<m2->(y2 j).oneCell'=true)
 (hq : ∀ o p,Vk P (Py ops f k l vs o p) ops.toArray w [k,l,t,u] vs ops 0)
 (h : ∀ o p w' U,U=Py ops f k l vs o p->w.heap.size<=o->w.heap.size<=p->o≠p->aM w' o m1 y1 T1->aM w' p m2 y2 T2->Below w.heap.size w w'->Q .normal U w'):W P n (.region id ops.toArray true) Q f w:=by
 have V:=h_ X;simp only[List.nodup_cons,List.mem_cons,List.not_mem_nil,or_false,not_or]at V;obtain⟨⟨x12,x1s,x1t⟩,⟨x2s,x2t⟩,xst,_⟩:=V;refine W.masks [k,l,t,u] I H (fun r=>KT k l vs (r 0).1 (r 1).1) (aip w m1 m2 z1 y1 z2 y2 T1 T2) hm hok hsel ata hes (h_ X) (fun _=>(0,0)) (fun w1 B _=>⟨B,fun h=>(nomatch h),fun h=>(nomatch h),fun h=>(nomatch h)⟩) ?_ ?_ ?_ ?_
 ·intro i hi hni r m v _ _ d
  rcases NH (hq (r 0).1 (r 1).1) i hi with h2|h2
  ·simp_all
  rw[G_]at h2
  have C:KT k l vs (r 0).1 (r 1).1 i=vs.getD i undef:=by grind [KT,Vl]
  show if Region.wanted (bH ops i) (yf ops.toArray (Py ops f k l vs (r 0).1 (r 1).1))then Oper.quietUpon P _ v _ ((execOp (ev (Py ops f k l vs (r 0).1 (r 1).1)) (bH ops i)).run P v)else KT k l vs (r 0).1 (r 1).1 i=undef;rw[C];by_cases hw:Region.wanted (bH ops i) (yf ops.toArray (Py ops f k l vs (r 0).1 (r 1).1))=true
  ·rw[d_ hw]at h2 ⊢
   rcases h2 v d.b with h3|⟨g,args,h3,h4⟩
   ·rw[h3]; exact⟨rfl,rfl⟩
   rw[h3]; exact⟨rfl,h4.mono fun e w2 ⟨he,hb2⟩=>⟨he,d.up hb2⟩⟩
  simp_all
 ·intro j i z r m v a K hpr hpo hmj d y D
  match j,z with
  | 0,z =>
    obtain rfl:k=i:=(by simp_all);obtain⟨v2,A,B,s⟩:=R6 (ρ:=a.eval) o1 n1 v;unfold Oper.wp;rw[A];obtain⟨x,O,M⟩:=AX hw3;have hm2:m 2=false:=(by grind);have:=D (v.heap.size,0) v2 ⟨Oj d.b s.bP,fun _=>by
     rw[wT];exact⟨d.b.size,by show aM v2 v.heap.size m1 (if m 2=true then y1 else z1) T1; simp_all⟩,fun q=>by
     have q:m 1=true:=q;rw[kK (by decide)];exact⟨(d.c q).1,(d.c q).2.cK s (u_ (d.c q).2.lt)⟩,fun _ q=>by
     have q:m 1=true:=q;rw[wT,kK (by decide)];exact Nat.ne_of_gt (d.c q).2.lt⟩
    have C:KT k l vs (E8 r 0 (v.heap.size,0) 0).1 (E8 r 0 (v.heap.size,0) 1).1 k = .pointer (some ⟨v.heap.size,0,none⟩):=(by grind [KT,Nat.beq_refl,wT]);rw[C]at this;exact this
  | 1,z =>
    obtain rfl:l=i:=(by simp_all);obtain⟨v2,A,B,s⟩:=R6 (ρ:=a.eval) o2 n2 v;unfold Oper.wp;rw[A];obtain⟨x,O,M⟩:=AX hw4;have hm3:m 3=false:=(by grind);have:=D (v.heap.size,0) v2 ⟨Oj d.b s.bP,fun q=>by
     have q:m 0=true:=q;rw[kK (by decide)];exact⟨(d.a q).1,(d.a q).2.cK s (u_ (d.a q).2.lt)⟩,fun _=>by
     rw[wT];exact⟨d.b.size,by show aM v2 v.heap.size m2 (if m 3=true then y2 else z2) T2; simp_all⟩,fun q _=>by
     have q:m 0=true:=q;rw[wT,kK (by decide)];exact u_ (d.a q).2.lt⟩
    have C:KT k l vs (E8 r 1 (v.heap.size,0) 0).1 (E8 r 1 (v.heap.size,0) 1).1 l = .pointer (some ⟨v.heap.size,0,none⟩):=(by grind [KT,Vl,Nat.beq_refl,wT]);rw[C]at this;exact this
  | 2,z =>
    obtain rfl:t=i:=(by simp_all);obtain⟨x,O,M⟩:=AX hw1;have F:m 0=true:=(by grind);have J:a.eval a1 = .pointer (some ⟨(r 0).1,0,none⟩):=(y a1 (by grind [Op.operands])).trans (ha1 (r 0).1 (r 1).1);have L:a.eval v1=u1:=(y v1 (by grind [Op.operands])).trans (hv1 (r 0).1 (r 1).1);obtain⟨R,A,B,s⟩:=R7 q1 e1 J L hu1 h11 (d.a F).2;unfold Oper.wp;rw[A];show K (a.put (bH ops t).dst undef) _;rw[S];have:=D (0,0) R ⟨s.below d.b d.b.size (d.a F).1,fun _=>by
     rw[kK (by decide)];exact⟨(d.a F).1,by assumption⟩,fun q=>by
     have q:m 1=true:=q;rw[kK (by decide)];exact⟨(d.c q).1,(d.c q).2.cK s (fun e=>d.ne F q e.symm)⟩,fun _ q=>by
     have q:m 1=true:=q
     grind [kK,d.ne]⟩
    rw[S]at this;exact this
  | 3,z =>
    obtain rfl:u=i:=(by simp_all);obtain⟨x,O,M⟩:=AX hw2;have G:m 1=true:=(by grind);have J:a.eval a2 = .pointer (some ⟨(r 1).1,0,none⟩):=(y a2 (by grind [Op.operands])).trans (ha2 (r 0).1 (r 1).1);have L:a.eval v2=u2:=(y v2 (by grind [Op.operands])).trans (hv2 (r 0).1 (r 1).1);obtain⟨R,A,B,s⟩:=R7 q2 e2 J L hu2 h12 (d.c G).2;unfold Oper.wp;rw[A];show K (a.put (bH ops u).dst undef) _;rw[T];have:=D (0,0) R ⟨s.below d.b d.b.size (d.c G).1,fun q=>by
     have q:m 0=true:=q;rw[kK (by decide)];exact⟨(d.a q).1,(d.a q).2.cK s (d.ne q G)⟩,fun _=>by
     rw[kK (by decide)];exact⟨(d.c G).1,by assumption⟩,fun q _=>by
     have q:m 0=true:=q
     grind [kK,d.ne]⟩
    rw[T]at this;exact this
  | j+4,z=>simp at z
 ·grind [KT,Vl,kK]
 intro r m w' E d;have Y:=E 0 (by simp); have Z:=E 1 (by simp); have m2':=E 2 (by simp); have m3:=E 3 (by simp);have y:=d.a Y; have N:=d.c Z;rw[m2']at y; rw[m3]at N;exact h (r 0).1 (r 1).1 w' _ rfl y.1 N.1 (d.ne Y Z) y.2 N.2 d.b
end
end Fx
end Go.Proofs.YtabjalhnkndjaaaGreatDoor
namespace Go.Proofs.YtabjalhnkndjaaaGreatDoor
open Go.Proofs.Tryz
open Fx hiding E9 Fa HY Jf Jk L R start
open Go.RowKit Rt
namespace Rt
def qX(v:dA):Int:=1099511627776*v.o+v.seq
def kX(m:fO)(v:dA):Int:=if 5<=m.own (aX v)\/140737488355328<v.bF then 6 else m.T.Eb (qX v) v.node
def Ij(m:fO)(v:dA):fO := { m with T:=m.T.put (qX v) v.node,R:=aZ m.R m.T.n (fZ (fun _=>0) (aX v) v.bF),own:=aN m.own (aX v) (m.own (aX v)+1) }
theorem adL{T:fD}(h:Mp c b m X (aZ (I7 T) T.n (aG a))):Mp c b m X (I7 (T.put d a)):=h.qU fun i _=>⟨rfl,by show aZ (I7 T) T.n _ i=aG (aZ T.p T.n a i); unfold aZ I7; split <;> rfl⟩
theorem aiq(h:Mp c b m Y (aZ (fP H) j (.agg (aA 54 (rv .i64 X))))):Mp c b m Y (fP (aZ H j X)):=Ju _ _ _ _ h
end Rt
theorem atb(o q:Int)(w:World)(a:1<=o/\o<=6)(b:1<=q/\q<1099511627776):Calls prog 177 #[av o,aG q] w fun e w'=>e = .returned (aG (1099511627776*o+q))/\w'=w:=by
 have h:=aBp o.toNat q.toNat w (by omega) (by omega);rw[show((o.toNat:Nat):Int)=o by omega,show((q.toNat:Nat):Int)=q by omega]at h;exact h
theorem adM(m:fO)(b B:Nat)(w:World)(h:pF w B b m)(v:dA)(hv:dG v=true)(J:m.T.Eb (qX v) v.node=0)(a:Nat)(ha:a<6)(hra:aX v=a)(hob:0<=m.own a/\m.own a<=1000)(JX:0<=qX v/\qX v<=18446744073709551615)(I:Nat)(G:Nat)(l:Nat)(H:Nat)(S:aM w I 1 (fun _=>(pt b)) 50)(hi:aM w G 1 (fun _=>aG (qX v)) 26)(P:aM w l 14 (dH v) 30)(Q:aM w H 1 (fun _=>av (a:Int)) 3) :
 Calls prog 179 #[(pt I),(pt G),(pt l),(pt H)] w fun e w'=>e = .returned (.tuple #[])/\pF w' B b (Ij m v)/\ko (KN m b) w w':=by
 have hC:=h.c;have hT:=h.t;have hP:=h.p;have hR:=h.r;have hG:=h.g;have hA:=h.a;have d:=h.ne;have U : ∀ i,i<m.T.n->m.T.x i≠qX v:=fun i hi e=>by have:=(KH J).2.1; rw[ni hi e]at this; cases this
 refine bX func179 42<|aQ<|nP [5,0,1,2,3,4,6,7] [4,0,0,4,4,0,4,3] [(7,0,[3,2,1,0]),(7,3,[3]),(7,4,[4]),(7,6,[6])] fun qN K iM => ?_;have s1:eG w.heap.size w qN:=Sb K;have⟨W,m2,m3,m4,m5,m6,m7,m8,m9,m10⟩:=vT K hC hT hP hR hG hA S hi P Q;have b1:=(vR (KN m b) w).then s1 (.inr (vR (KN m b) w).size);refine aS (pf l 9)<|Rs (pt b) (aR m7.aJ 0) ?_;refine aS (pt b)<|aS (pf b 18)<|Rs (pt m.tp) (aR W.aJ 18) ?_;refine Rs (aG (qX v)) (aR m8.aJ 0) ?_;refine Rs (aG v.node) (aR m9.aJ 9) ?_;refine jP<|dO (RO (qX v) v.node m2 JX) _ rfl ?_;rintro y ⟨m11,s2⟩;have j:=m2.Gg s2;have kY:=W.fH j;have m13:=m3.fH j (Ne.symm d.mp);have m14:=m4.fH j (Ne.symm d.mr);have m15:=m5.fH j (Ne.symm d.mg);have m16:=m6.fH j (Ne.symm d.ma);have m17:=m7.fH j;have m18:=m8.fH j;have m19:=m9.fH j;have m20:=m10.fH j;have C:=b1.then s2 (.inl (.inr (.inl rfl)));have mG:xM y B m.tp m.mb (m.T.put (qX v) v.node):=by rw[<- fD.Jv J]; exact m11
 refine Ln<|dJ<|aQ ?_;refine nP [5,0,1,2,3,4,6,7] [4,0,0,4,4,0,4,3] [(7,0,[0]),(7,3,[3]),(7,4,[4]),(7,6,[6])] fun Fu M rM => ?_;have s3:eG y.heap.size y Fu:=Sb M;have⟨m22,m23,m24,mU,pK,pO,om,qb,qV,mY⟩:=vT M kY m13 m14 m15 m16 m17 m18 m19 m20 mG;have b3:=C.then s3 (.inr C.size);refine aS (pf l 9)<|Rs (pt b) (aR pO.aJ 0) ?_;refine aS (pt b)<|aS (pf b 19)<|Rs (.map (some m.pb)) (aR m22.aJ 19) ?_;refine Rs (aG (qX v)) (aR om.aJ 0) ?_;refine Rs (aG v.node) (aR qb.aJ 9) ?_;refine jP<|Fx.L.UU (by rfl) rfl rfl rfl rfl rfl m23 underlying78 underlying26 U fun z m32 s4 z1 => ?_;have k:=m23.Gg s4;have oD:=m22.fH k;have pz:=m24.fH k (Ne.symm d.pr);have pQ:=mU.fH k (Ne.symm d.pg);have rE:=pK.fH k (Ne.symm d.pa);have sD:=pO.fH k;have qM:=om.fH k;have qW:=qb.fH k;have vk:=qV.fH k;have pR:=mY.fH k (d.mp);have D:=b3.then s4 (.inl (.inr (.inr (.inl rfl))));have qx:Mp z m.pb ((m.T.put (qX v) v.node).n) ((m.T.put (qX v) v.node).x) (I7 (m.T.put (qX v) v.node)):=adL m32;refine Ln<|dJ<|aQ ?_;refine nP [0,2,3,7,8,1,4,5,6,9,10] [4,4,0,0,0,4,0,0,0,0,3] [(10,0,[0]),(10,1,[1]),(10,5,[5])] fun MU N DZ => ?_;have s5:eG z.heap.size z MU:=Sb N;have⟨s,uF,sQ,qc,tK,xY,uN,yj,Ai,yG⟩:=vT N oD pz pQ rE sD qM qW vk pR qx;have b5:=D.then s5 (.inr D.size);refine Rs (pt b) (aR tK.aJ 0) ?_;refine aS (pt b)<|aS (pf b 21)<|aS (pt b)<|aS (pf b 21)<|Rs (av a) (aR yj.aJ 0) ?_;refine Rp (pf b (a+21)) (fun _=>jh 6 1)<|Rs (av (m.own a)) (aR s.aJ (a+21) (Xt (p:=a) (by omega) (by omega))) ?_;refine Rp (av ((m.own a)+1)) (fun _=>gu)<|Rp (pf b (a+21)) (fun _=>jh 6 1)<|jP<|jf s (a+21) (av ((m.own a)+1)) fun w3 xA s6 z2 => ?_;have yH:aM w3 b 29 (zN { m with own:=aN m.own a (m.own a+1) }) 84:=xA.to (aia ha (by omega) _);have gT:=gJ s6 s.ty;have⟨wC,vU,wD,tL,uG,oo,sF,pE,vV⟩:=agM gT uF sQ qc tK xY uN yj Ai yG;have q:=b5.then s6 (.inl (.inl rfl));refine Ln<|dJ<|ay<|au (.agg (aA 54 (rv .i64 (fun _=>0))))<|oJ 54 (rv .i64 (fun _=>0)) fun o w4 F u s7 z3 => ?_;have⟨xB,sG,sH,sI,tN,tO,qg,sS,vW,yR⟩:=vT s7.bP wC vU wD tL uG oo sF pE vV yH;have b7:=q.then s7 (.inr q.size);have V:=gQ F q.size;have⟨aBD,aBE,aBF,aBG,aBH,aBI,aBJ,aBK,aBL⟩:=aaR F wC.lt vU.lt wD.lt tL.lt uG.lt oo.lt sF.lt vV.lt yH.lt;have vB:=u.lt;refine dY u 0 fun w5 xZ s8 z4 => ?_;have wE:aM w5 o 54 (rv .i64 (fun _=>0)) 67:=aO xZ;have jC:=gJ s8 u.ty;have⟨zh,yS,zi,yI,xC,zk,zS,zw,Aj,Bq⟩:=QF jC xB sG sH sI tN tO qg sS vW yR;have b8:=b7.then s8 (.inr V);refine aC<|ay<|Lv (av a) (aR zS.aJ 0)<|au (pf l 11)<|Lv (av v.bF) (aR zk.aJ 11)<|au (pt o)<|Lv (pf o a) (jh 6 1)<|jf wE a (av v.bF) fun A BQ s9 z5 => ?_;have zT:aM A o 54 (rv .i64 (fZ (fun _=>0) a v.bF)) 67:=BQ.to (yA _ _ _ _);have oz:=gJ s9 wE.ty;have⟨BR,Bj,Ak,BF,DY,Et,Bt,Dv,BZ,Eu⟩:=QF oz zh yS zi yI xC zk zS zw Aj Bq;have E:=b8.then s9 (.inr V);refine aC ?_;refine nP [0,1,2,3,4,5,6] [4,0,0,4,4,4,3] [(6,0,[0]),(6,3,[3]),(6,4,[4]),(6,5,[5])] fun wZ O Fv => ?_;have oP:eG A.heap.size A wZ:=Sb O;have⟨Gd,vG,qO,X,Y,qz,qP,qQ,pV,Z,aa⟩:=BO O BR Bj Ak BF DY Et Bt Dv BZ Eu zT;have b10:=E.then oP (.inr E.size);refine Rs (pt b) (aR X.aJ 0) ?_;refine aS (pt b)<|aS (pf b 20)<|Rs (.map (some m.rb)) (aR Z.aJ 20) ?_;refine Rs (aG (qX v)) (aR Y.aJ 0) ?_;refine Rs (.agg (aA 54 (rv .i64 (fZ (fun _=>0) a v.bF)))) (dZ aa.aJ 0) ?_;refine jP<|Fx.L.UU (by rfl) rfl rfl rfl rfl rfl Gd underlying79 underlying26 U fun w7 vH s11 z6 => ?_;have f:=Gd.Gg s11;have qR:=vG.fH f (Ne.symm d.rg);have tZ:=qO.fH f (Ne.symm d.ra);have zD:=X.fH f;have wG:=Y.fH f;have wH:=qz.fH f;have Ay:=qP.fH f;have yV:=qQ.fH f (d.mr);have uf:=pV.fH f (d.pr);have oQ:=Z.fH f;have wI:=aa.fH f;have b11:=b10.then s11 (.inl (.inr (.inr (.inr (.inl rfl)))));have yX:Mp w7 m.rb ((m.T.put (qX v) v.node).n) ((m.T.put (qX v) v.node).x) (fP (aZ m.R m.T.n (fZ (fun _=>0) a v.bF))):=aiq vH;refine Ln (Rn (⟨.tuple #[],jQ Tryz.results179,?_⟩));unfold Ij; rw[hra];exact⟨rfl,{ c:=oQ,t:=yV,p:=uf,r:=yX,g:=qR,a:=tZ,ne:=⟨d.mp,d.mr,d.mg,d.ma,d.pr,d.pg,d.pa,d.rg,d.ra,d.ga⟩,lB:=h.lB,pB:=h.pB,rB:=h.rB,gB:=h.gB,aB:=h.aB },b11⟩
theorem air(m:fO)(j B:Nat)(w:World)(h:pF w B j m)(v:dA)(L:dG v=true)(ab : ∀ a,a<6->0<=m.own a/\m.own a<=1000) :
 Calls prog 170 #[(pt j),.agg (aA 14 (dH v))] w fun e w'=>yD w B j m (Ij m v) (kX m v) e w':=by
 have Z:=h.c;obtain⟨a,J,ho⟩ : ∃ a:Nat,a<6/\v.o=(a:Int)+1:=gY (kM L);have z:aX v=a:=by unfold aX; omega
 have hbd:=rR L;have aa:0<=qX v/\qX v<=18446744073709551615:=by unfold qX; omega
 have hoa:=ab a J;refine bX func170 38 ?_;refine ay<|Ej (pt j) fun n w1 X M s1 z1 => ?_;have⟨m2,U⟩:=fB s1.bP Z (Below.refl w.heap.size w);have tJ:=iy X;have rJ:=gD X Z.lt;have vB:=M.lt;refine oq fun b w2 Y l s2 z2 => ?_;have⟨P,Q,H⟩:=iP s2.bP m2 M U;have xw:=gQ Y U.size;have⟨ala,abD⟩:=oM Y m2.lt M.lt;have zR:=l.lt;refine au (.nilFunc)<|au (av 0)<|aC<|aQ ?_;refine Jb (T1:=26) (T2:=3) (T1':=26) (T2':=3) (a1 := .tmp 6) (v1 := .tmp 13) (a2 := .tmp 7) (v2 := .tmp 16) (m1:=1) (m2:=1) (z1:=rv .u64 (fun _=>0)) (y1:=fun _=>aG (qX v)) (z2:=rv .i64 (fun _=>0)) (y2:=fun _=>av (a:Int)) (u1:=aG (qX v)) (u2:=av (a:Int)) 8 9 10 11 [[],[],[],[],[],[],[],[],[],[],[(0,[8]),(1,[9])],[(0,[8]),(1,[9]),(2,[10])]] [[(2,[0]),(3,[0])],[(2,[1]),(3,[1])],[(2,[2]),(3,[2])],[(2,[3]),(3,[3])],[(2,[4]),(3,[4])],[(3,[5])],[(3,[6])],[(3,[7])],[(2,[8]),(3,[8])],[(2,[9]),(3,[9])],[(3,[10])],[]] #[(pt b),av v.o,(pf b 1),aG v.seq,aG (qX v),(pt b),av v.o,av (a:Int),undef,undef,undef,undef] (by kernel_rfl) (by kernel_rfl) (by kernel_rfl) (by kernel_rfl) (by kernel_rfl) (by kernel_rfl) (by kernel_rfl) (by kernel_rfl) (by kernel_rfl) (by kernel_rfl) rfl rfl (by kernel_rfl) (by kernel_rfl) rfl rfl rfl rfl (by kernel_rfl) (by kernel_rfl) (fun d f=>(show ev _ (.tmp 6)=(pt d)from by kernel_rfl)) (fun d f=>(show ev _ (.tmp 7)=(pt f)from by kernel_rfl)) (fun d f=>(show ev _ (.tmp 13)=aG (qX v)from by kernel_rfl)) (fun d f=>(show ev _ (.tmp 16)=av (a:Int)from by kernel_rfl)) (bG (by rfl)) (bG (by rfl)) (fun _ _=>rfl) (fun _ _=>rfl) (fun d f => ?_) ?_
 ·refine⟨?_,?_,?_,?_,?_,?_,?_,?_,?_,?_,?_,?_,trivial⟩
  ·exact .inr KqE
  ·exact .inr (QL (av v.o) fun D q=>bE (x:=dH v) rfl (show ev _ (.tmp 9)=(pt b)from by kernel_rfl) (by kernel_rfl) (l.aJ.below q (by have:=l.lt; omega)) (i:=0) (by omega) (by omega) rfl)
  ·exact .inr KqE
  ·exact .inr (QL (aG v.seq) fun D q=>bE (x:=dH v) rfl (show ev _ (.tmp 11)=(pf b 1)from by kernel_rfl) (by kernel_rfl) (l.aJ.below q (by have:=l.lt; omega)) (i:=1) (by omega) (by omega) rfl)
  ·exact .inr (alZ (v:=aG (qX v)) (by kernel_rfl) (by kernel_rfl) (qbC (fun D q=>rC (args := [av v.o,aG v.seq]) rfl (Qo (show ev _ (.tmp 10)=av v.o from by kernel_rfl) (show ev _ (.tmp 12)=aG v.seq from by kernel_rfl)) func177 rfl rfl) (fun D q=>(atb v.o v.seq _ (by omega) (by omega)).mono fun e v2 h=>⟨h.1,(by rw[h.2]; exact Below.refl _ _)⟩)))
  ·exact .inr KqE
  ·exact .inr (QL (av v.o) fun D q=>bE (x:=dH v) rfl (show ev _ (.tmp 14)=(pt b)from by kernel_rfl) (by kernel_rfl) (l.aJ.below q (by have:=l.lt; omega)) (i:=0) (by omega) (by omega) rfl)
  ·exact .inr (QL (av a) fun D q=>akl rfl (show ev _ (.tmp 15)=av v.o from by kernel_rfl) (show ev _ (.const (av 1))=av 1 from by kernel_rfl) io)
  ·exact .inl rfl
  ·exact .inl rfl
  ·exact .inl rfl
  exact .inl rfl
 rintro d f w3 G y A C ne1 m6 m7 hb1;have aFK:j≠d:=u_ (n_ (P.lt) A);have WB:n≠d:=u_ (n_ (Q.lt) A);have aFL:b≠d:=u_ (n_ (l.lt) A);have aFM:j≠f:=u_ (n_ (P.lt) C);have aFN:n≠f:=u_ (n_ (Q.lt) C);have aFO:b≠f:=u_ (n_ (l.lt) C);have⟨m8,m9,m10,b3⟩:=jv hb1 P Q l H;have A:w.heap.size<=d:=m_ H.size A;have Gr:=m6.lt;have C:w.heap.size<=f:=m_ H.size C;have TR:=m7.lt;have R:G 2=(pt n):=by rw[y]; kernel_rfl
 have S:G 3=(pt b):=by rw[y]; kernel_rfl
 have q5:G 6=(pt d):=by rw[y]; kernel_rfl
 have q6:G 7=(pt f):=by rw[y]; kernel_rfl
 clear y;refine sN<|aQ<|aQ ?_;refine nP [0,2,3,1,4,5,6,7,8,9,10,11] [4,4,0,0,0,4,0,0,0,4,0,0] [] fun qN eX iM => ?_;have⟨m11,N,O,ac,ad,E⟩:=oL eX m8 m9 m10 m6 m7 b3;refine Rs (pt j) (aR N.aJ 0 (ha:=R)) ?_;refine aS (pt j)<|aS (pf j 21)<|Rs (av a) (aR ad.aJ 0 (ha:=q6)) ?_;refine Rp (pf j (a+21)) (fun _=>jh 6 1)<|Rs (av (m.own a)) (aR m11.aJ (a+21) (Xt (p:=a) (by omega) (by omega))) ?_;by_cases V:5<=(m.own a)
 ·refine Rp aH (fun _=>mW V)<|aS aH<|Rk (by rfl)<|Rk (by rfl)<|Rk (by rfl)<|aS aH<|dJ<|aP<|ay<|au (.nilFunc)<|au (av 6)<|aC<|Wr<|sR<|aK (.tuple #[.nilFunc,av 6]) ?_;have k:kX m v=6:=by unfold kX; rw[z]; exact d_ (.inl (by omega))
  exact⟨⟨.nilFunc,0,#[],by rw[k],rfl,fun u=>L_ (k.symm.trans u) (by first|decide|omega|assumption)⟩,E⟩
 refine Rp aD (fun _=>mM V)<|aS aD<|Rp (pf b 11) (fun _=>iO S 11)<|Rs (av v.bF) (aR O.aJ 11) ?_;by_cases W:140737488355328<v.bF
 ·refine Rp aH (fun _=>lK W)<|aS aH<|dJ<|aP<|ay<|au (.nilFunc)<|au (av 6)<|aC<|Wr<|sR<|aK (.tuple #[.nilFunc,av 6]) ?_;have k:kX m v=6:=by unfold kX; rw[z]; exact d_ (.inr (by omega))
  exact⟨⟨.nilFunc,0,#[],by rw[k],rfl,fun u=>L_ (k.symm.trans u) (by first|decide|omega|assumption)⟩,E⟩
 refine Rp aD (fun _=>lM W)<|aS aD<|dJ<|aL<|Wk<|sN<|aQ<|ay<|Lv (pt j) (aR N.aJ 0 (ha:=R))<|Lv (aG (qX v)) (aR ac.aJ 0 (ha:=q5))<|Lv (pf b 9) (iO S 9)<|Lv (aG v.node) (aR O.aJ 9)<|dO (aot m j B _ (h.up E) (qX v) v.node aa) _ rfl ?_;intro w4 s;have⟨ae,af,ag,m20,I⟩:=oK s N O ac ad E;refine au (av (m.T.Eb (qX v) v.node))<|aC<|ay<|au (av (m.T.Eb (qX v) v.node)) ?_;by_cases F:(m.T.Eb (qX v) v.node)=0
 ·refine Lv aD (kr F)<|aC<|aL<|Wk<|sN<|ay<|Lv (.func (.func 179) #[] #[(pt n),(pt d),(pt b),(pt f)]) (qp (us := []) (vs := [(pt n),(pt d),(pt b),(pt f)]) rfl rfl (aqR R q5 S q6))<|au (.func (.func 179) #[] #[(pt n),(pt d),(pt b),(pt f)])<|au (av 0)<|aC<|Wr<|aK (.tuple #[.func (.func 179) #[] #[(pt n),(pt d),(pt b),(pt f)],av 0]) ?_;have k:kX m v=0:=by unfold kX; rw[z,b_ (by omega)]; exact F
  exact⟨⟨_,179,#[(pt n),(pt d),(pt b),(pt f)],by rw[k],rfl,fun _=>⟨rfl,⟨_,_,func179,rfl,rfl⟩,fun w2 s=>(adM m j B w2 ((h.up I).up s) v L F a J z (ab a J) aa _ _ _ _ (ae.cK (Sb s) (u_ ae.lt)) (ag.cK (Sb s) (u_ ag.lt)) (af.cK (Sb s) (u_ af.lt)) (m20.cK (Sb s) (u_ m20.lt))).mono fun _ _ K=>⟨K.1,K.2.1,K.2.2.mono fun _ hk => .inl hk⟩⟩⟩,I⟩
 refine Lv aH (mO F)<|aC<|aP<|ay<|au (av (m.T.Eb (qX v) v.node))<|au (.nilFunc)<|au (av (m.T.Eb (qX v) v.node))<|aC<|Wr<|sR<|aK (.tuple #[.nilFunc,av (m.T.Eb (qX v) v.node)]) ?_;have k:kX m v=m.T.Eb (qX v) v.node:=by unfold kX; rw[z,b_ (by omega)]
 exact⟨⟨.nilFunc,0,#[],by rw[k],rfl,fun u=>L_ (k.symm.trans u) (by first|decide|omega|assumption)⟩,I⟩
end Go.Proofs.YtabjalhnkndjaaaGreatDoor
namespace Go.Proofs.YtabjalhnkndjaaaGreatDoor
open Fx hiding E9 Fa HY Jf Jk L R start
open Go.RowKit Go
namespace Rt
section
variable {x p:Nat->Int} {n d e:Nat} {k v:Int}
theorem Pz : ∀ {d:Nat} {v:Int},lW x p n d v -> ∀ k,k∈lV x p n d v->(lV x p n d k).length<=(lV x p n d v).length
 | 0,v,h,k,hk=>by cases hk
 | d+1,v,h,k,hk=>by
   cases hv:fV x n v with
   | false=>grind [rW]
   | true =>
     have e:lV x p n (d+1) v=v::lV x p n d (kJ x p n v):=(by show(if _ then _ else _)=_; simp_all);have a:lW x p n d (kJ x p n v):=h hv;rw[e]at hk
     rcases List.mem_cons.1 hk with rfl|hk
     ·omega
     ·have b:=Pz a k hk;have c:lW x p n d k:=by
       refine FP (d:=d) ?_ (m_ b Dh);exact KU a k hk
      grind [Po]
where KU : ∀ {d:Nat} {v:Int},lW x p n d v -> ∀ k,k∈lV x p n d v->lW x p n d k
 | 0,v,h,k,hk=>by cases hk
 | d+1,v,h,k,hk=>by
   cases hv:fV x n v with
   | false=>grind [rW]
   | true =>
     have e:lV x p n (d+1) v=v::lV x p n d (kJ x p n v):=(by show(if _ then _ else _)=_; simp_all);have hs:lW x p n d (kJ x p n v):=h hv;rw[e]at hk
     rcases List.mem_cons.1 hk with rfl|hk
     ·exact h
     ·exact(Po (KU hs k hk) (Nat.le_succ d)).2
theorem NI : ∀ {d:Nat} {v:Int},lW x p n d v->(lV x p n d v).Nodup
 | 0,v,h=>List.nodup_nil
 | d+1,v,h=>by
   cases hv:fV x n v with
   | false=>grind [rW]
   | true =>
     have e:lV x p n (d+1) v=v::lV x p n d (kJ x p n v):=(by show(if _ then _ else _)=_; simp_all);have a:=h hv;rw[e,List.nodup_cons];refine⟨fun b => ?_,NI a⟩;have c:=Pz a v b
     grind [Po,Pz.KU]
end
section
variable {T:fD} {l:List Int} {k:Int}
theorem fD.EJ(h:T.ok)(k:Int):(T.dI k).Nodup:=NI (h.I6 k)
theorem fD.rZ(h:T.ok)(e:l=T.dI k) : ∀ v,v∈l->T.has v=true:=fun v c=>by
 obtain⟨i,a,b⟩:=List.getElem_of_mem c;have:=fD.Vg h e a;rw[r_,o_ a]at this;rw[<- b]; exact this
theorem GU(h:l.Nodup)(hi:m<l.length)(a:j<l.length)(e:l.getD m 0=l.getD j 0):m=j:=by
 grind [List.getElem_inj]
end
def mH(f:(Nat->Int)->(Nat->Int) × Int)(r:Nat->Nat->Int):Nat->Int
 | 0=>0
 | i+1=>if mH f r i=0 then(f (r i)).2 else mH f r i
section
variable {f:(Nat->Int)->(Nat->Int) × Int} {r:Nat->Nat->Int} {i n:Nat}
theorem GV(h:mH f r i=0)(a:(f (r i)).2=0):mH f r (i+1)=0:=by grind [mH]
theorem EK(h:mH f r i=0)(a : ¬ (f (r i)).2=0) : ∀ n,i<n->mH f r n=(f (r i)).2
 | 0,hn=>L_ hn (z_ _)
 | n+1,hn=>by
   unfold mH;by_cases e:i=n
   ·simp_all
   ·rw[EK h a n (by omega),b_ a]
theorem KV : ∀ {n:Nat},mH f r n=0 -> ∀ i,i<n->(f (r i)).2=0
 | 0,_,i,hi=>L_ hi (z_ _)
 | n+1,h,i,hi=>by
   unfold mH at h;by_cases a:mH f r n=0
   ·rw[d_ a]at h;by_cases e:i=n
    ·simp_all
    ·exact KV a i (by omega)
   omega
end
def Jw(m:fO)(k:Int):Nat->Int:=m.R (m.idx k)
def eH(m:fO)(f:(Nat->Int)->(Nat->Int) × Int)(l:List Int):Int:=mH f (fun i=>Jw m (l.getD i 0)) l.length
open Classical in
noncomputable def vL(m:fO)(f:(Nat->Int)->(Nat->Int) × Int)(l:List Int):fO := { m with R:=fun i=>if m.T.x i∈l then(f (m.R i)).1 else m.R i }
def KW(l:List Int)(S:Nat->Bool)(v:Int):Nat->Bool
 | 0=>false
 | n+1=>KW l S v n || (S n&&decide (l.getD n 0=v))
theorem wW{l:List Int}{S:Nat->Bool}{v:Int} : ∀ {n:Nat},KW l S v n=true <-> ∃ q,q<n/\S q=true/\l.getD q 0=v
 | 0=>⟨fun h=>(nomatch h),fun⟨q,h,_⟩=>L_ h (z_ _)⟩
 | n+1=>by
   unfold KW;rw[Bool.or_eq_true,wW,Q_,O_]
   grind
def Cq(m:fO)(f:(Nat->Int)->(Nat->Int) × Int)(l:List Int)(S:Nat->Bool):Nat->Nat->Int:=fun i=>if KW l S (m.T.x i) l.length=true then(f (m.R i)).1 else m.R i
theorem Vm(m:fO)(f:(Nat->Int)->(Nat->Int) × Int)(l:List Int):Cq m f l (fun _=>false)=m.R:=by
 grind [Cq,wW]
theorem ZF{q:fO}(o:q.T.ok)(t:m<f.length)(s:j<q.T.n)(g:q.T.x j=f.getD m 0) : ∀ i,i<q.T.n->aZ (Cq q M f D) j (M (q.R j)).1 i=Cq q M f (aZ D m true) i:=fun i p=>by
 unfold aZ;by_cases e:i=j
 ·subst e;rw[d_ rfl];unfold Cq;rw[d_ ?_];rw[wW];exact⟨m,t,by show(if m=m then true else D m)=true; rw[d_ rfl],g.symm⟩
 ·rw[b_ e];unfold Cq;have:KW f D (q.T.x i) f.length=true<->KW f (fun i=>if i=m then true else D i) (q.T.x i) f.length=true:=by
   rw[wW,wW];constructor
   ·rintro ⟨r,d,a,b⟩;exact⟨r,d,by show(if r=m then true else D r)=true; split <;> first|rfl|exact a,b⟩
   ·rintro ⟨r,d,a,b⟩;by_cases k:r=m
    ·subst k;exact L_ (o.inj i j p s (by rw[g,<- b])) e
    ·exact⟨r,d,by have a:=a; rw[b_ k]at a; exact a,b⟩
  by_cases c:KW f D (q.T.x i) f.length=true
  ·rw[d_ c,d_ (this.1 c)]
  ·rw[b_ c,b_ (fun h=>c (this.2 h))]
theorem adN{m:fO}(h : ∀ q,q<f.length->D q=true):Cq m M f D=(vL m M f).R:=by
 funext i
 show _=if m.T.x i∈f then(M (m.R i)).1 else m.R i
 grind [Cq,wW,List.getElem_of_mem]
def xP(m:fO)(f:(Nat->Int)->(Nat->Int) × Int)(l:List Int):Nat->Value:=fun q => .agg (aA 54 (rv .i64 (f (Jw m (l.getD q 0))).1))
theorem NJ{i:fO}(h:Mp c b (m+1) (aZ (fun q=>f.getD q 0) m (f.getD m 0)) (aZ (xP i M f) m (.agg (aA 54 (rv .i64 X)))))(e:X=(M (Jw i (f.getD m 0))).1):Mp c b (m+1) (fun q=>f.getD q 0) (xP i M f):=h.qU fun q a=>by
 unfold aZ;by_cases l:q=m
 ·subst l; rw[d_ rfl,d_ rfl,e]; exact⟨rfl,rfl⟩
 ·rw[b_ l,b_ l]; exact⟨rfl,rfl⟩
end Rt
end Go.Proofs.YtabjalhnkndjaaaGreatDoor
namespace Go.Proofs.YtabjalhnkndjaaaGreatDoor
open Go.Proofs.Tryz
open Fx hiding E9 Fa HY Jf Jk L R start
open Go.RowKit Rt
theorem adO(x:Nat->Int)(v:dA)(a:Nat)(w:World)(E:1<=v.o/\v.o<=6)(b:aM w a 14 (dH v) 30) :
 Calls prog 183 #[.agg (aA 54 (rv .i64 x)),(pt a)] w fun e w'=>e = .returned (.tuple #[.agg (aA 54 (rv .i64 (bV x v.o v.bF).1)),av (bV x v.o v.bF).2])/\Below w.heap.size w w':=by
 refine bX func183 13 ?_;refine ay<|oq fun D P i c A S =>have⟨k,g⟩:=fB A.bP b (Below.refl w.heap.size w);have F:=iy i;have K:=gD i b.lt;have N:=c.lt;oJ 54 (rv .i64 (fun _=>0)) fun q Q j l B T => ?_;have⟨d,m,n⟩:=iP B.bP k c g;have G:=gQ j g.size;have⟨L,M⟩:=oM j k.lt c.lt;have O:=l.lt;refine au (av 0)<|aC<|ay<|Lv (.agg (aA 54 (rv .i64 x))) (dZ m.aJ 0)<|au (pt a)<|Lv (av v.o) (aR d.aJ 0)<|au (pf a 11)<|Lv (av v.bF) (aR d.aJ 11)<|dO (anW (x) v.o v.bF _ (by omega)) _ rfl ?_;intro R r;have⟨t,u,y,h⟩:=jv r d m l n;refine au (.agg (aA 54 (rv .i64 ((bV (x) v.o v.bF).1))))<|au (av ((bV (x) v.o v.bF).2))<|dY y 0 fun C z f U =>have s:aM C q 54 (rv .i64 ((bV (x) v.o v.bF).1)) 67:=aO z;have I:=t.cK f (by omega);have J:=u.cK f (by omega);have p:=f.below h h.size (by omega);au (av ((bV (x) v.o v.bF).2)) (aC (Wr (⟨.tuple #[.agg (aA 54 (rv .i64 ((bV (x) v.o v.bF).1))),av ((bV (x) v.o v.bF).2)],gK Tryz.results183 ⟨_,rfl,aU s.aJ⟩,?_⟩)));exact⟨rfl,p⟩
theorem adP(x:Nat->Int)(v:dA)(g:Nat->Int)(b c:Nat)(w:World)(K:1<=v.o/\v.o<=6)(d:aM w b 14 (dH v) 30)(f:aM w c 5 (lQ g) 96) :
 Calls prog 186 #[.agg (aA 54 (rv .i64 x)),(pt b),(pt c)] w fun e w'=>e = .returned (.tuple #[.agg (aA 54 (rv .i64 (bW x v.o (g 3)).1)),av (bW x v.o (g 3)).2])/\Below w.heap.size w w':=by
 refine bX func186 14 ?_;refine ay<|oq fun J Z k h G z1 => ?_;have⟨m,n,i⟩:=iP G.bP d f (Below.refl w.heap.size w);have L:=iy k;have⟨S,T⟩:=oM k d.lt f.lt;have X:=h.lt;refine oJ 54 (rv .i64 (fun _=>0)) fun y w2 l p H z2 => ?_;have⟨q,r,s,t⟩:=jv H.bP m n h i;have M:=gQ l i.size;have⟨U,V,W⟩:=El l m.lt n.lt h.lt;have Y:=p.lt;refine au (av 0)<|aC<|ay<|Lv (.agg (aA 54 (rv .i64 x))) (dZ s.aJ 0)<|au (pt b)<|Lv (av v.o) (aR q.aJ 0)<|au (pf c 3)<|Lv (av (g 3)) (aR r.aJ 3)<|dO (anX (x) v.o (g 3) _ (by omega)) _ rfl ?_;intro w3 z;have⟨E,F,A,B,j⟩:=oK z q r s p t;refine au (.agg (aA 54 (rv .i64 ((bW (x) v.o (g 3)).1))))<|au (av ((bW (x) v.o (g 3)).2))<|dY B 0 fun I C a z3 =>have D:aM I y 54 (rv .i64 ((bW (x) v.o (g 3)).1)) 67:=aO C;have P:=E.cK a (by omega);have Q:=F.cK a (by omega);have R:=A.cK a (by omega);have u:=a.below j j.size (by omega);au (av ((bW (x) v.o (g 3)).2)) (aC (Wr (⟨.tuple #[.agg (aA 54 (rv .i64 ((bW (x) v.o (g 3)).1))),av ((bW (x) v.o (g 3)).2)],gK Tryz.results186 ⟨_,rfl,aU D.aJ⟩,?_⟩)));exact⟨rfl,u⟩
theorem R8(m:fO)(j B:Nat)(w:World)(h:pF w B j m)(o:(Nat->Int)->(Nat->Int) × Int)(l:List Int)(s:Nat)(hgM:m.rb≠s/\m.mb≠s/\m.pb≠s/\m.gb≠s/\m.ab≠s)(hlh : ∀ k,k∈l->m.T.has k=true)(I:Mp w s l.length (fun q=>l.getD q 0) (xP m o l))(z:Nat)(A:Nat)(H:aM w z 1 (fun _ => .map (some s)) 79)(Z:aM w A 1 (fun _=>(pt j)) 50) :
 Calls prog 196 #[(pt z),(pt A)] w fun e w'=>e = .returned (.tuple #[])/\pF w' B j (vL m o l)/\ko (KN m j) w w':=by
 have hC:=h.c;have hT:=h.t;have hP:=h.p;have hR:=h.r;have hG:=h.g;have hA:=h.a;have b:=h.ne;have lC:=h.c.lt;have lT:=h.t.lt;have lP:=h.p.lt;have lR:=h.r.lt;have lG:=h.g.lt;have lA:=h.a.lt;have lg8:=H.lt;have lgl:=Z.lt;have lF:=I.lt;obtain⟨hg1,hg2,hg3,hg4,hg5⟩:=hgM;refine bX func196 17 ?_;refine ay<|Lv (.map (some s)) (aR H.aJ 0)<|Fx.L.range (by rfl) rfl rfl rfl I underlying79 fun F w1 kV m1 s1 z1 => ?_;have⟨m2,m3,m4,m5,m6,m7,m8,m9,m10⟩:=yQ s1.bP hC hT hP hR hG hA I H Z;have b1:=(vR (KN m j) w).then s1 (.inr (vR (KN m j) w).size);have tJ:w.heap.size<=F:=by rw[kV]; exact(vR (KN m j) w).size
 have vB:=m1.lt;refine aC<|Wb ?_;have m11:Mp w1 m.rb m.T.n m.T.x (fP (Cq m o l (fun _=>false))):=by rw[Vm]; exact m5
 refine Ic (fun kE f v => ∃ S:Nat->Bool,∃ K:Nat,K=unseen S l.length/\K=kE/\f 0=(pt z)/\f 1=(pt A)/\f 5=(pt F)/\aM v j 29 (zN m) 84/\xM v B m.tp m.mb m.T/\Mp v m.pb m.T.n m.T.x (I7 m.T)/\jV v m.gb m.gn (fun i=>m.g i 0) (fun i=>m.g i 1) (yY m.g)/\jV v m.ab m.an m.ao m.ar I8/\Mp v s l.length (fun q=>l.getD q 0) (xP m o l)/\aM v z 1 (fun _ => .map (some s)) 79/\aM v A 1 (fun _=>(pt j)) 50/\Mp v m.rb m.T.n m.T.x (fP (Cq m o l S))/\It v F s l.length S/\ko (KN m j) w v) (unseen (fun _=>false) l.length) ⟨(fun _=>false),(unseen (fun _=>false) l.length),rfl,rfl,(by rfl),(by rfl),(by rfl),m2,m3,m4,m6,m7,m8,m9,m10,m11,m1,b1⟩ ?_;rintro kE f1 w2 ⟨S,K,hkk,hkE,W,X,G,kY,m13,m14,m15,m16,m17,m18,m19,m20,M,Q⟩;refine ay<|Fx.L.next (by rfl) rfl rfl G m17 M (fun zB => ?_)<|fun d w3 C hS1 m22 mc1 s2 z2 => ?_
 ·skip
  refine au aD (aC (aQ (aL (Wx (cZ (iC (dB (⟨.tuple #[],jQ Tryz.results196,?_⟩))))))));have m23:Mp w2 m.rb m.T.n m.T.x (fP (vL m o l).R):=by rw[<- adN zB]; exact m20
  exact⟨rfl,{ c:=kY,t:=m13,p:=m14,r:=m23,g:=m15,a:=m16,ne:=⟨b.mp,b.mr,b.mg,b.ma,b.pr,b.pg,b.pa,b.rg,b.ra,b.ga⟩,lB:=h.lB,pB:=h.pB,rB:=h.rB,gB:=h.gB,aB:=h.aB },Q⟩
 skip
 have y:=M.Gg s2;have m24:=kY.fH y;have mU:=m13.fH y (by omega);have pK:=m14.fH y (by omega);have pO:=m15.fH y (by omega);have om:=m16.fH y (by omega);have N:=m17.fH y (M.rb.symm);have qV:=m18.fH y;have mY:=m19.fH y;have m32:=m20.fH y (by omega);have D:=Q.then s2 (.inr tJ);refine au aH<|aC<|aQ<|aP<|Wk<|sN<|Wb<|ay<|Lv (.tuple #[aG (l.getD d 0),.agg (aA 54 (rv .i64 ((o (Jw m (l.getD d 0))).1)))]) (Xk (key:=fun q=>l.getD q 0) (val:=xP m o l) (i:=d) rfl G N mc1 C)<|au (aG (l.getD d 0))<|au (.agg (aA 54 (rv .i64 ((o (Jw m (l.getD d 0))).1))))<|oJ 54 (rv .i64 (fun _=>0)) fun g2 w4 V O s3 z3 => ?_;have⟨pz,pQ,rE,sD,qM,qW,vk,pR,qx,qy,uF⟩:=BO s3.bP m24 mU pK pO om N qV mY m32 mc1 m22;have b4:=D.then s3 (.inr D.size);have xw:=gQ V D.size;have⟨aBM,aBN,aBO,aBP,aBQ,aBR,aBS,aBT⟩:=aaQ V m24.lt pK.lt pO.lt om.lt N.lt qV.lt mY.lt m32.lt;have zR:=O.lt;refine au (aG (l.getD d 0))<|dY O 0 fun P sQ s4 z4 => ?_;have qc:aM P g2 54 (rv .i64 ((o (Jw m (l.getD d 0))).1)) 67:=aO sQ;have gT:=gJ s4 O.ty;have⟨tK,xY,uN,yj,Ai,yG,xA,yH,wC,vU,wD⟩:=aaP gT pz pQ rE sD qM qW vk pR qx qy uF;have U:=b4.then s4 (.inr xw);refine aC ?_;obtain⟨jz,J,E⟩:=ji (hlh _ (Cm C rfl));have ejx:Jw m (l.getD d 0)=m.R jz:=by unfold Jw fO.idx; rw[rY h.t.uU.inj J E]
 refine nP [4,0,1,2,3,5,6] [4,0,0,4,0,4,3] [(6,0,[0]),(6,3,[3]),(6,5,[5])] fun qN Y iM => ?_;have s5:eG P.heap.size P qN:=Sb Y;have⟨tL,uG,oo,sF,pE,vV,m64,xB,sG,sH,sI,tN⟩:=QA Y tK xY uN yj Ai yG xA yH wC vU wD qc;have b6:=U.then s5 (.inr U.size);refine aS (aG (l.getD d 0))<|Rs (pt j) (aR xB.aJ 0 (ha:=X)) ?_;refine aS (pt j)<|aS (pf j 20)<|Rs (.map (some m.rb)) (aR tL.aJ 20) ?_;refine Rs (.agg (aA 54 (rv .i64 ((o (Jw m (l.getD d 0))).1)))) (dZ tN.aJ 0) ?_;refine jP<|Fx.L.anf (by rfl) rfl rfl rfl rfl rfl sG underlying79 underlying26 J E fun w6 tO s6 z5 => ?_;have u:=sG.Gg s6;have qg:=tL.fH u;have sS:=uG.fH u (b.mr);have vW:=oo.fH u (b.pr);have yR:=sF.fH u (Ne.symm b.rg);have xZ:=pE.fH u (Ne.symm b.ra);have wE:=vV.fH u (by omega);have zh:=m64.fH u;have yS:=xB.fH u;have zi:=sH.fH u (by omega) (by omega);have yI:=sI.fH u (by omega) (by omega);have xC:=tN.fH u;have b7:=b6.then s6 (.inl (.inr (.inr (.inr (.inl rfl)))));have zk:Mp w6 m.rb m.T.n m.T.x (fP (Cq m o l (aZ S d true))):=by have q9:=Ju _ _ _ _ tO; rw[ejx]at q9; exact q9.qU fun i hi=>⟨rfl,by unfold fP; rw[ZF h.t.uU C J E i hi]⟩
 refine Ln (Rn (bS (iA ⟨unseen (aZ S d true) l.length,(by have W:=um hS1 l.length C; omega),(aZ S d true),(unseen (aZ S d true) l.length),rfl,rfl,W,X,G,qg,sS,vW,yR,xZ,wE,zh,yS,zk,yI,b7⟩ (by decide))))
theorem adQ(m:fO)(j B:Nat)(w:World)(h:pF w B j m)(C:Int)(v:dA)(ho:1<=v.o/\v.o<=6)(E:Nat)(u:aM w E 14 (dH v) 30) :
 Calls prog 182 #[(pt j),aG C,.func (.func 183) #[] #[(pt E)]] w fun e w'=>yD w B j m (vL m (fun x=>bV x v.o v.bF) (m.T.dI C)) (eH m (fun x=>bV x v.o v.bF) (m.T.dI C)) e w':=by
 have hC:=h.c;have hT:=h.t;have hP:=h.p;have hR:=h.r;have hG:=h.g;have hA:=h.a;have lC:=h.c.lt;have lT:=h.t.lt;have lP:=h.p.lt;have lR:=h.r.lt;have lG:=h.g.lt;have lA:=h.a.lt;have lge:=u.lt;refine bX func182 44 ?_;refine ay<|Ej (pt j) fun A w1 kV Y s1 z1 => ?_;have⟨m2,m3,m4,m5,m6,m7,m8,b1⟩:=lY s1.bP hC hT hP hR hG hA u (Below.refl w.heap.size w);have tJ:=iy kV;have⟨rJ,Ed,Bo,FU,DX,QO⟩:=J3 kV hC.lt hP.lt hR.lt hG.lt hA.lt u.lt;have vB:=Y.lt;refine au (.nilFunc)<|au (av 0)<|aC<|ay<|Fx.L.Nq (by rfl) rfl rfl fun d w2 nN m9 s2 z2 => ?_;have⟨m10,m11,kY,m13,m14,m15,m16,m17,b2⟩:=yQ s2.bP m2 m3 m4 m5 m6 m7 m8 Y b1;have xw:=gQ nN b1.size;have⟨GX,KQ,EI,KR,GI,adg,adh⟩:=Oz nN m2.lt m4.lt m5.lt m6.lt m7.lt m8.lt Y.lt;have zR:=m9.lt;refine oJ 1 (fun _ => .map none) fun y w3 nO Z s3 z3 => ?_;have⟨m19,m20,mG,m22,m23,m24,mU,pK,pO,b3⟩:=vT s3.bP m10 m11 kY m13 m14 m15 m16 m17 m9 b2;have Gc:=gQ nO b2.size;have⟨adR,Vn,KX,KY,PD,Va,aoA,Vb⟩:=aaQ nO m10.lt kY.lt m13.lt m14.lt m15.lt m16.lt m17.lt m9.lt;have Gr:=Z.lt;refine jf Z 0 (.map (some d)) fun O om s4 z4 => ?_;have qb:aM O y 1 (fun _ => .map (some d)) 79:=eP om;have gT:=gJ s4 Z.ty;have⟨qV,mY,m32,oD,pz,pQ,rE,sD,qM⟩:=agM gT m19 m20 mG m22 m23 m24 mU pK pO;have b4:=s4.below b3 b3.size (by omega);refine aC<|aQ<|ay<|Lv (pt j) (aR sD.aJ 0)<|au (pt j)<|au (pf j 18)<|Lv (pt m.tp) (aR qV.aJ 18)<|au (aG C)<|lX (U3 C mY) ?_;rintro e9 w5 ⟨YP,D,u,qW,hb1⟩;refine⟨_,u,?_⟩;clear u;have⟨vk,pR,qx,qy,uF,sQ,qc,tK,xY,uN,b5⟩:=BO hb1 qV mY m32 oD pz pQ rE sD qM qb b4;obtain⟨l,H⟩ : ∃ q,q=fD.dI m.T C:=⟨_,rfl⟩;rw[<- H]at qW ⊢;have hl4:l.length<=4:=by rw[H]; exact fD.Dl
 refine au (av l.length)<|au (av 0)<|aC<|Wb ?_;have yj:Mp w5 d 0 (fun q=>l.getD q 0) (xP m (fun x=>bV x v.o v.bF) l):=xY.qU fun i hi=>L_ hi (z_ _);refine Wo (fun f k => ∃ i:Nat,i<=l.length/\mH (fun x=>bV x v.o v.bF) (fun i=>Jw m (l.getD i 0)) i=0/\f 2 = .func (.func 183) #[] #[(pt E)]/\f 3=(pt A)/\f 8=(pt y)/\f 19 = .slice YP (l.length) (D)/\f 20=av (l.length:Int)/\f 21=av (i:Int)/\aM k j 29 (zN m) 84/\xM k B m.tp m.mb m.T/\Mp k m.pb m.T.n m.T.x (I7 m.T)/\Mp k m.rb m.T.n m.T.x (fP m.R)/\jV k m.gb m.gn (fun i=>m.g i 0) (fun i=>m.g i 1) (yY m.g)/\jV k m.ab m.an m.ao m.ar I8/\aM k E 14 (dH v) 30/\aM k A 1 (fun _=>(pt j)) 50/\aM k y 1 (fun _ => .map (some d)) 79/\aY k O.heap.size 26 1 (.slice YP (l.length) (D)) l.length (BH l)/\Mp k d i (fun q=>l.getD q 0) (xP m (fun x=>bV x v.o v.bF) l)/\Below w.heap.size w k) (fun f _=>((l.length:Int)-intOf (f 21)).toNat) ⟨0,(by omega),rfl,(by rfl),(by rfl),(by rfl),(by rfl),ic,ic,vk,pR,qx,qy,uF,sQ,qc,tK,uN,qW,yj,b5⟩ ?_;rintro f1 w6 ⟨i,hi,K,h1,U,V,h4,W,G,Ai,yG,xA,yH,wC,vU,wD,N,aa,oo,ac,P⟩;refine ay ?_;by_cases c22:(i:Int)<(l.length:Int)
 ·refine Lv aH (fK c22 (hx:=G) (hy:=W))<|aC<|aQ<|aP<|Wk<|sN<|aQ<|Wb<|ay ?_;obtain⟨Gv,S⟩:=oo.wz (by omega);have pE:aY w6 O.heap.size 26 1 (dz Gv l.length D) l.length (BH l):=oo.fE (K_ (fun q=>Value.slice q l.length D) S);refine Lv (pf Gv i) (fC 1 (hx:=(h4.trans (K_ (fun q=>Value.slice q (l.length) (D)) S))) (hi:=G))<|Lv (aG (l.getD i 0)) (aR pE.aJ i)<|au (aG (l.getD i 0))<|aC<|aQ ?_;obtain⟨b,hjz,ejz⟩:=ji (fD.rZ h.t.uU H _ (Cm (show i<l.length by omega) rfl));have J:Jw m (l.getD i 0)=m.R b:=by unfold Jw fO.idx; rw[rY h.t.uU.inj hjz ejz]
  refine Wl<|bA h1<|Lv (pt j) (aR N.aJ 0 (ha:=U))<|au (pt j)<|au (pf j 20)<|Lv (.map (some m.rb)) (aR Ai.aJ 20)<|au (aG (l.getD i 0))<|Lv (.agg (aA 54 (rv .i64 (m.R b)))) (Df (z := .agg (aA 54 (rv .i64 (fun _=>0)))) rfl rfl rfl yH underlying79 underlying26 (by kernel_rfl) hjz ejz rfl)<|zW (by rfl) (uJ (args := [.agg (aA 54 (rv .i64 (m.R b)))]) rfl rfl rfl (all := #[.agg (aA 54 (rv .i64 (m.R b))),(pt E)]) rfl func183 rfl rfl) rfl<|(adO (m.R b) v E _ ho wD).mono ?_;rintro e w7 ⟨u,F⟩;refine⟨.tuple #[.agg (aA 54 (rv .i64 ((bV (m.R b) v.o v.bF).1))),av ((bV (m.R b) v.o v.bF).2)],by rw[u],?_⟩;clear u;have⟨vV,m64,xB,sG,sH,sI,tN,tO,qg,sS,vW,b7⟩:=QA F Ai yG xA yH wC vU wD N aa ac pE P;refine au (.tuple #[.agg (aA 54 (rv .i64 ((bV (m.R b) v.o v.bF).1))),av ((bV (m.R b) v.o v.bF).2)])<|au (.agg (aA 54 (rv .i64 ((bV (m.R b) v.o v.bF).1))))<|au (av ((bV (m.R b) v.o v.bF).2))<|oJ 54 (rv .i64 (fun _=>0)) fun g4 w8 yL ad s7 z5 => ?_;have⟨xZ,wE,zh,yS,zi,yI,xC,zk,zS,zw,Aj,b8⟩:=QA s7.bP vV m64 xB sG sH sI tN tO qg sS vW b7;have Uw:=gQ yL b7.size;have⟨aoe,aof,aog,aoh,aBV,aBW,aoB,aBX,aoC,aoD⟩:=aaS yL vV.lt xB.lt sG.lt sH.lt sI.lt tN.lt tO.lt qg.lt sS.lt vW.lt;have TR:=ad.lt;refine dY ad 0 fun w9 Bq s8 z6 => ?_;have BQ:aM w9 g4 54 (rv .i64 ((bV (m.R b) v.o v.bF).1)) 67:=aO Bq;have jC:=gJ s8 ad.ty;have⟨zT,BR,Bj,Ak,BF,DY,Et,Bt,Dv,BZ,Eu⟩:=aaP jC xZ wE zh yS zi yI xC zk zS zw Aj;have Q:=s8.below b8 b8.size (by omega);refine au (av ((bV (m.R b) v.o v.bF).2))<|aC<|aQ<|ay<|au (av ((bV (m.R b) v.o v.bF).2)) ?_;by_cases I:((bV (m.R b) v.o v.bF).2)=0
  ·refine Lv aD (kr I)<|aC<|aL<|Wk<|sN ?_;have hnd:l.Nodup:=(by rw[H]; exact fD.EJ h.t.uU C);have hny : ∀ q,q<i->(fun q=>l.getD q 0) q≠l.getD i 0:=fun q hq e=>by have:=GU hnd (show q<l.length by omega) (show i<l.length by omega) e; omega
   refine Wl<|Lv (.map (some d)) (aR Dv.aJ 0 (ha:=V))<|au (aG (l.getD i 0))<|Lv (.agg (aA 54 (rv .i64 ((bV (m.R b) v.o v.bF).1)))) (dZ BQ.aJ 0)<|Fx.L.UU (by rfl) rfl rfl rfl rfl rfl BZ underlying79 underlying26 hny fun uE Gd s9 z7 => ?_;have s:=BZ.Gg s9;have vG:=zT.fH s;have qO:=BR.fH s (by omega);have rO:=Bj.fH s (by omega);have tY:=Ak.fH s (by omega);have qz:=BF.fH s (by omega);have qP:=DY.fH s (by omega);have qQ:=Et.fH s;have pV:=Bt.fH s;have qA:=Dv.fH s;have uR:=Eu.fH s;have vH:=BQ.fH s;have b10:=s9.below Q Q.size (by omega);have qR:Mp uE d (i+1) (fun q=>l.getD q 0) (xP m (fun x=>bV x v.o v.bF) l):=NJ Gd (by rw[J]);refine Ln<|bS<|sN<|Wl<|Lv (av ((i:Int)+1)) (gu (hx:=G))<|au (av ((i:Int)+1))<|Ln ?_;have tZ:aY uE O.heap.size 26 1 (.slice YP (l.length) (D)) l.length (BH l):=uR.fE (K_ (fun q=>Value.slice q l.length D) S.symm);refine iA ⟨i+1,(by omega),(GV K (by rw[J]; exact I)),h1,U,V,h4,(W.trans ic),ic,vG,qO,rO,tY,qz,qP,qQ,pV,qA,tZ,qR,b10⟩ ?_;show((l.length:Int)-intOf (av ((i:Int)+1))).toNat<_;simp only[G,intOf]; omega
  refine Lv aH (mO I)<|aC<|aP<|ay<|au (av ((bV (m.R b) v.o v.bF).2))<|au (.nilFunc)<|au (av ((bV (m.R b) v.o v.bF).2))<|aC<|Wr<|sR<|bO<|sR<|oG<|bO<|sR<|aK (.tuple #[.nilFunc,av ((bV (m.R b) v.o v.bF).2)]) ?_;have M:eH m (fun x=>bV x v.o v.bF) l=(bV (m.R b) v.o v.bF).2:=by unfold eH; rw[EK K (by rw[J]; exact I) _ (by omega),J]
  exact⟨⟨.nilFunc,0,#[],by rw[M],rfl,fun e0=>L_ (M.symm.trans e0) (by first|decide|omega|assumption)⟩,Q⟩
 refine Lv aD (fM c22 (hx:=G) (hy:=W))<|aC<|aQ<|aL<|Wx<|cZ<|iC<|dB<|sN<|ay<|Lv (.func (.func 196) #[] #[(pt y),(pt A)]) (qp (us := []) (vs := [(pt y),(pt A)]) rfl rfl (Qo V U))<|au (.func (.func 196) #[] #[(pt y),(pt A)])<|au (av 0)<|aC<|Wr<|aK (.tuple #[.func (.func 196) #[] #[(pt y),(pt A)],av 0]) ?_;have hil:i=l.length:=by omega
 rw[hil]at ac K;have hgm:m.rb≠d/\m.mb≠d/\m.pb≠d/\m.gb≠d/\m.ab≠d:=⟨by omega,by omega,by omega,by omega,by omega⟩;have M:eH m (fun x=>bV x v.o v.bF) l=0:=K;exact⟨⟨_,196,#[(pt y),(pt A)],by rw[M],rfl,fun _=>⟨rfl,⟨_,_,func196,rfl,rfl⟩,fun w2 F=>(R8 m j B w2 ((h.up P).up F) (fun x=>bV x v.o v.bF) l d hgm (fD.rZ h.t.uU H) (ac.up F) _ _ (aa.cK (Sb F) (u_ aa.lt)) (N.cK (Sb F) (u_ N.lt))).mono fun _ _ X=>⟨X.1,X.2.1,X.2.2.mono fun _ hk => .inl hk⟩⟩⟩,P⟩
theorem adS(m:fO)(j B:Nat)(w:World)(h:pF w B j m)(C:Int)(v:dA)(g:Nat->Int)(ho:1<=v.o/\v.o<=6)(E F:Nat)(u:aM w E 14 (dH v) 30)(Z:aM w F 5 (lQ g) 96) :
 Calls prog 182 #[(pt j),aG C,.func (.func 186) #[] #[(pt E),(pt F)]] w fun e w'=>yD w B j m (vL m (fun x=>bW x v.o (g 3)) (m.T.dI C)) (eH m (fun x=>bW x v.o (g 3)) (m.T.dI C)) e w':=by
 have hC:=h.c;have hT:=h.t;have hP:=h.p;have hR:=h.r;have hG:=h.g;have hA:=h.a;have lC:=h.c.lt;have lT:=h.t.lt;have lP:=h.p.lt;have lR:=h.r.lt;have lG:=h.g.lt;have lA:=h.a.lt;have lge:=u.lt;have lgg:=Z.lt;refine bX func182 44 ?_;refine ay<|Ej (pt j) fun A w1 kV m1 s1 z1 => ?_;have⟨m2,m3,m4,m5,m6,m7,m8,m9,b1⟩:=yQ s1.bP hC hT hP hR hG hA u Z (Below.refl w.heap.size w);have tJ:=iy kV;have⟨rJ,Ed,Bo,FU,DX,QO,atd⟩:=Oz kV hC.lt hP.lt hR.lt hG.lt hA.lt u.lt Z.lt;have vB:=m1.lt;refine au (.nilFunc)<|au (av 0)<|aC<|ay<|Fx.L.Nq (by rfl) rfl rfl fun d w2 nN m10 s2 z2 => ?_;have⟨m11,kY,m13,m14,m15,m16,m17,m18,m19,b2⟩:=vT s2.bP m2 m3 m4 m5 m6 m7 m8 m9 m1 b1;have xw:=gQ nN b1.size;have⟨KP,EI,KR,GI,adg,adh,aou,aBY⟩:=aaQ nN m2.lt m4.lt m5.lt m6.lt m7.lt m8.lt m9.lt m1.lt;have zR:=m10.lt;refine oJ 1 (fun _ => .map none) fun y w3 nO m20 s3 z3 => ?_;have⟨mG,m22,m23,m24,mU,pK,pO,om,qb,qV,b3⟩:=BO s3.bP m11 kY m13 m14 m15 m16 m17 m18 m19 m10 b2;have Gc:=gQ nO b2.size;have⟨Vn,KY,PD,Va,aoA,Vb,Vd,Ve,adz⟩:=aaR nO m11.lt m13.lt m14.lt m15.lt m16.lt m17.lt m18.lt m19.lt m10.lt;have Gr:=m20.lt;refine jf m20 0 (.map (some d)) fun P mY s4 z4 => ?_;have m32:aM P y 1 (fun _ => .map (some d)) 79:=eP mY;have gT:=gJ s4 m20.ty;have⟨oD,pz,pQ,rE,sD,qM,qW,vk,pR,qx⟩:=QF gT mG m22 m23 m24 mU pK pO om qb qV;have b4:=s4.below b3 b3.size (by omega);refine aC<|aQ<|ay<|Lv (pt j) (aR pR.aJ 0)<|au (pt j)<|au (pf j 18)<|Lv (pt m.tp) (aR oD.aJ 18)<|au (aG C)<|lX (U3 C pz) ?_;rintro e9 w5 ⟨YP,D,u,qy,hb1⟩;refine⟨_,u,?_⟩;clear u;have⟨uF,sQ,qc,tK,xY,uN,yj,Ai,yG,xA,yH,b5⟩:=QA hb1 oD pz pQ rE sD qM qW vk pR qx m32 b4;obtain⟨l,I⟩ : ∃ q,q=fD.dI m.T C:=⟨_,rfl⟩;rw[<- I]at qy ⊢;have hl4:l.length<=4:=by rw[I]; exact fD.Dl
 refine au (av l.length)<|au (av 0)<|aC<|Wb ?_;have wC:Mp w5 d 0 (fun q=>l.getD q 0) (xP m (fun x=>bW x v.o (g 3)) l):=xA.qU fun i hi=>L_ hi (z_ _);refine Wo (fun f k => ∃ i:Nat,i<=l.length/\mH (fun x=>bW x v.o (g 3)) (fun i=>Jw m (l.getD i 0)) i=0/\f 2 = .func (.func 186) #[] #[(pt E),(pt F)]/\f 3=(pt A)/\f 8=(pt y)/\f 19 = .slice YP (l.length) (D)/\f 20=av (l.length:Int)/\f 21=av (i:Int)/\aM k j 29 (zN m) 84/\xM k B m.tp m.mb m.T/\Mp k m.pb m.T.n m.T.x (I7 m.T)/\Mp k m.rb m.T.n m.T.x (fP m.R)/\jV k m.gb m.gn (fun i=>m.g i 0) (fun i=>m.g i 1) (yY m.g)/\jV k m.ab m.an m.ao m.ar I8/\aM k E 14 (dH v) 30/\aM k F 5 (lQ g) 96/\aM k A 1 (fun _=>(pt j)) 50/\aM k y 1 (fun _ => .map (some d)) 79/\aY k P.heap.size 26 1 (.slice YP (l.length) (D)) l.length (BH l)/\Mp k d i (fun q=>l.getD q 0) (xP m (fun x=>bW x v.o (g 3)) l)/\Below w.heap.size w k) (fun f _=>((l.length:Int)-intOf (f 21)).toNat) ⟨0,(by omega),rfl,(by rfl),(by rfl),(by rfl),(by rfl),ic,ic,uF,sQ,qc,tK,xY,uN,yj,Ai,yG,yH,qy,wC,b5⟩ ?_;rintro f1 w6 ⟨i,hi,M,h1,V,W,h4,X,H,vU,wD,tL,uG,oo,sF,pE,vV,O,xB,sG,sH,Q⟩;refine ay ?_;by_cases c22:(i:Int)<(l.length:Int)
 ·refine Lv aH (fK c22 (hx:=H) (hy:=X))<|aC<|aQ<|aP<|Wk<|sN<|aQ<|Wb<|ay ?_;obtain⟨Gv,U⟩:=sG.wz (by omega);have sI:aY w6 P.heap.size 26 1 (dz Gv l.length D) l.length (BH l):=sG.fE (K_ (fun q=>Value.slice q l.length D) U);refine Lv (pf Gv i) (fC 1 (hx:=(h4.trans (K_ (fun q=>Value.slice q (l.length) (D)) U))) (hi:=H))<|Lv (aG (l.getD i 0)) (aR sI.aJ i)<|au (aG (l.getD i 0))<|aC<|aQ ?_;obtain⟨b,hjz,ejz⟩:=ji (fD.rZ h.t.uU I _ (Cm (show i<l.length by omega) rfl));have K:Jw m (l.getD i 0)=m.R b:=by unfold Jw fO.idx; rw[rY h.t.uU.inj hjz ejz]
  refine Wl<|bA h1<|Lv (pt j) (aR O.aJ 0 (ha:=V))<|au (pt j)<|au (pf j 20)<|Lv (.map (some m.rb)) (aR vU.aJ 20)<|au (aG (l.getD i 0))<|Lv (.agg (aA 54 (rv .i64 (m.R b)))) (Df (z := .agg (aA 54 (rv .i64 (fun _=>0)))) rfl rfl rfl uG underlying79 underlying26 (by kernel_rfl) hjz ejz rfl)<|zW (by rfl) (uJ (args := [.agg (aA 54 (rv .i64 (m.R b)))]) rfl rfl rfl (all := #[.agg (aA 54 (rv .i64 (m.R b))),(pt E),(pt F)]) rfl func186 rfl rfl) rfl<|(adP (m.R b) v g E F _ ho pE vV).mono ?_;rintro e w7 ⟨u,G⟩;refine⟨.tuple #[.agg (aA 54 (rv .i64 ((bW (m.R b) v.o (g 3)).1))),av ((bW (m.R b) v.o (g 3)).2)],by rw[u],?_⟩;clear u;have⟨tN,tO,qg,sS,vW,yR,xZ,wE,zh,yS,zi,yI,b7⟩:=aku G vU wD tL uG oo sF pE vV O xB sH sI Q;refine au (.tuple #[.agg (aA 54 (rv .i64 ((bW (m.R b) v.o (g 3)).1))),av ((bW (m.R b) v.o (g 3)).2)])<|au (.agg (aA 54 (rv .i64 ((bW (m.R b) v.o (g 3)).1))))<|au (av ((bW (m.R b) v.o (g 3)).2))<|oJ 54 (rv .i64 (fun _=>0)) fun g4 w8 yL xC s7 z5 => ?_;have⟨zk,zS,zw,Aj,Bq,BQ,zT,BR,Bj,Ak,BF,DY,b8⟩:=aku s7.bP tN tO qg sS vW yR xZ wE zh yS zi yI b7;have Uw:=gQ yL b7.size;have⟨aoB,aoC,aoD,aBZ,aB0,aB1,aB2,aoE,aoF,aoG,aoH⟩:=aqY yL tN.lt qg.lt sS.lt vW.lt yR.lt xZ.lt wE.lt zh.lt yS.lt zi.lt yI.lt;have TR:=xC.lt;refine dY xC 0 fun w9 Et s8 z6 => ?_;have Bt:aM w9 g4 54 (rv .i64 ((bW (m.R b) v.o (g 3)).1)) 67:=aO Et;have jC:=gJ s8 xC.ty;have⟨Dv,BZ,Eu,Gd,vG,qO,rO,tY,qz,qP,qQ,pV⟩:=aqX jC zk zS zw Aj Bq BQ zT BR Bj Ak BF DY;have S:=s8.below b8 b8.size (by omega);refine au (av ((bW (m.R b) v.o (g 3)).2))<|aC<|aQ<|ay<|au (av ((bW (m.R b) v.o (g 3)).2)) ?_;by_cases J:((bW (m.R b) v.o (g 3)).2)=0
  ·refine Lv aD (kr J)<|aC<|aL<|Wk<|sN ?_;have hnd:l.Nodup:=(by rw[I]; exact fD.EJ h.t.uU C);have hny : ∀ q,q<i->(fun q=>l.getD q 0) q≠l.getD i 0:=fun q hq e=>by have:=GU hnd (show q<l.length by omega) (show i<l.length by omega) e; omega
   refine Wl<|Lv (.map (some d)) (aR qP.aJ 0 (ha:=W))<|au (aG (l.getD i 0))<|Lv (.agg (aA 54 (rv .i64 ((bW (m.R b) v.o (g 3)).1)))) (dZ Bt.aJ 0)<|Fx.L.UU (by rfl) rfl rfl rfl rfl rfl qQ underlying79 underlying26 hny fun uE qA s9 z7 => ?_;have s:=qQ.Gg s9;have uR:=Dv.fH s;have vH:=BZ.fH s (by omega);have qR:=Eu.fH s (by omega);have tZ:=Gd.fH s (by omega);have zD:=vG.fH s (by omega);have wG:=qO.fH s (by omega);have wH:=rO.fH s;have Ay:=tY.fH s;have yV:=qz.fH s;have uf:=qP.fH s;have oQ:=pV.fH s;have wI:=Bt.fH s;have b10:=s9.below S S.size (by omega);have yX:Mp uE d (i+1) (fun q=>l.getD q 0) (xP m (fun x=>bW x v.o (g 3)) l):=NJ qA (by rw[K]);refine Ln<|bS<|sN<|Wl<|Lv (av ((i:Int)+1)) (gu (hx:=H))<|au (av ((i:Int)+1))<|Ln ?_;have wJ:aY uE P.heap.size 26 1 (.slice YP (l.length) (D)) l.length (BH l):=oQ.fE (K_ (fun q=>Value.slice q l.length D) U.symm);refine iA ⟨i+1,(by omega),(GV M (by rw[K]; exact J)),h1,V,W,h4,(X.trans ic),ic,uR,vH,qR,tZ,zD,wG,wH,Ay,yV,uf,wJ,yX,b10⟩ ?_;show((l.length:Int)-intOf (av ((i:Int)+1))).toNat<_;simp only[H,intOf]; omega
  refine Lv aH (mO J)<|aC<|aP<|ay<|au (av ((bW (m.R b) v.o (g 3)).2))<|au (.nilFunc)<|au (av ((bW (m.R b) v.o (g 3)).2))<|aC<|Wr<|sR<|bO<|sR<|oG<|bO<|sR<|aK (.tuple #[.nilFunc,av ((bW (m.R b) v.o (g 3)).2)]) ?_;have N:eH m (fun x=>bW x v.o (g 3)) l=(bW (m.R b) v.o (g 3)).2:=by unfold eH; rw[EK M (by rw[K]; exact J) _ (by omega),K]
  exact⟨⟨.nilFunc,0,#[],by rw[N],rfl,fun e0=>L_ (N.symm.trans e0) (by first|decide|omega|assumption)⟩,S⟩
 refine Lv aD (fM c22 (hx:=H) (hy:=X))<|aC<|aQ<|aL<|Wx<|cZ<|iC<|dB<|sN<|ay<|Lv (.func (.func 196) #[] #[(pt y),(pt A)]) (qp (us := []) (vs := [(pt y),(pt A)]) rfl rfl (Qo W V))<|au (.func (.func 196) #[] #[(pt y),(pt A)])<|au (av 0)<|aC<|Wr<|aK (.tuple #[.func (.func 196) #[] #[(pt y),(pt A)],av 0]) ?_;have hil:i=l.length:=by omega
 rw[hil]at sH M;have hgm:m.rb≠d/\m.mb≠d/\m.pb≠d/\m.gb≠d/\m.ab≠d:=⟨by omega,by omega,by omega,by omega,by omega⟩;have N:eH m (fun x=>bW x v.o (g 3)) l=0:=M;exact⟨⟨_,196,#[(pt y),(pt A)],by rw[N],rfl,fun _=>⟨rfl,⟨_,_,func196,rfl,rfl⟩,fun w2 G=>(R8 m j B w2 ((h.up Q).up G) (fun x=>bW x v.o (g 3)) l d hgm (fD.rZ h.t.uU I) (sH.up G) _ _ (xB.cK (Sb G) (u_ xB.lt)) (O.cK (Sb G) (u_ O.lt))).mono fun _ _ Y=>⟨Y.1,Y.2.1,Y.2.2.mono fun _ hk => .inl hk⟩⟩⟩,Q⟩
section
namespace Rt
def GY(k1 k2:Nat->Int):Nat->Int->Int->Bool
 | 0,_,_=>false
 | n+1,a,b=>(decide (k1 n=a)&&decide (k2 n=b)) || GY k1 k2 n a b
def AY(k1 k2:Nat->Int):Nat->Int->Int->Nat
 | 0,_,_=>0
 | n+1,a,b=>if k1 n=a/\k2 n=b then n else AY k1 k2 n a b
section
variable {k1 k2:Nat->Int} {a b:Int}
theorem nk : ∀ {n:Nat},GY k1 k2 n a b=true <-> ∃ j,j<n/\k1 j=a/\k2 j=b
 | 0=>⟨fun h=>(nomatch h),fun⟨j,h,_⟩=>L_ h (z_ _)⟩
 | n+1=>by
   unfold GY;rw[Bool.or_eq_true,Q_,O_,O_,nk]
   grind
theorem xQ(e:j<m)(c:k1 j=a)(d:k2 j=b):GY k1 k2 m a b=true:=by grind [nk]
theorem uI(h : ∀ i,i<m -> ¬ (k1 i=a/\k2 i=b)):GY k1 k2 m a b=false:=by
 grind [nk]
theorem Dm{j:Nat} : ∀ {n:Nat},(∀ p q,p<n->q<n->k1 p=k1 q->k2 p=k2 q->p=q)->j<n->k1 j=a->k2 j=b->AY k1 k2 n a b=j
 | 0,_,h,_,_=>L_ h (z_ _)
 | n+1,hi,hj,e1,e2=>by
   unfold AY;by_cases c:k1 n=a/\k2 n=b
   ·grind
   ·rw[b_ c];refine Dm (fun p q d e=>hi p q (by omega) (by omega)) ?_ e1 e2
    grind
end
theorem Jy{v:dA}(h:dG v=true)(a:jB v):Fx.Jk v.o v.bK/\Fx.Jk v.o v.of:=by
 have d:=rR h;have b:=a.bK;have c:=a.of;unfold nU at b c;exact⟨⟨by omega,by omega⟩,⟨by omega,by omega⟩⟩
theorem ais(h:jV c b k (aZ (fun i=>H i 0) m a) (aZ (fun i=>H i 1) m d) (aZ (yY H) m (.agg (aA 5 y))))(x:Nat->Int)(e0:x 0=a)(g:x 1=d)(n : ∀ j,j<5->y j=lQ x j) :
 jV c b k (fun i=>aZ H m x i 0) (fun i=>aZ H m x i 1) (yY (aZ H m x)):=h.qU fun i _=>by
 unfold aZ yY;by_cases o:i=m
 ·subst o;refine⟨?_,?_,?_⟩
  ·show(if i=i then a else H i 0)=(if i=i then x else H i) 0;rw[d_ rfl,d_ rfl,e0]
  ·show(if i=i then d else H i 1)=(if i=i then x else H i) 1;rw[d_ rfl,d_ rfl,g]
  ·show(if i=i then Value.agg (aA 5 y)else _)=Value.agg (aA 5 (lQ (if i=i then x else H i)));rw[d_ rfl,d_ rfl,fI n]
 ·refine⟨?_,?_,?_⟩
  ·show(if i=m then a else H i 0)=(if i=m then x else H i) 0;rw[b_ o,b_ o]
  ·show(if i=m then d else H i 1)=(if i=m then x else H i) 1;rw[b_ o,b_ o]
  ·show(if i=m then Value.agg (aA 5 y)else Value.agg (aA 5 (lQ (H i))))=Value.agg (aA 5 (lQ (if i=m then x else H i)));rw[b_ o,b_ o]
theorem ait(h:jV c b m (fun i=>H i 0) (fun i=>H i 1) (aZ (yY H) j (.agg (aA 5 (lQ X)))))(e0:X 0=H j 0)(a:X 1=H j 1) :
 jV c b m (fun i=>aZ H j X i 0) (fun i=>aZ H j X i 1) (yY (aZ H j X)):=h.qU fun i _=>by
 unfold aZ yY;show H i 0=(if i=j then X else H i) 0/\H i 1=(if i=j then X else H i) 1/\_=Value.agg (aA 5 (lQ (if i=j then X else H i)));by_cases g:i=j
 ·subst g; rw[d_ rfl,d_ rfl]; exact⟨e0.symm,a.symm,rfl⟩
 ·rw[b_ g,b_ g]; exact⟨rfl,rfl,rfl⟩
theorem XG(h:jV c b k (aZ X m a) (aZ Y m d) (aZ I8 m (.bool true))):jV c b k (aZ X m a) (aZ Y m d) I8:=by grind [h.qU,aZ,I8]
theorem ate(x:Nat->Int)(r:Int):dN (lQ x) 4 (aG r)=lQ (fZ x 4 r):=by
 grind [dN,lQ,fZ]
def LW(a b:Int):Nat->Value:=fun p=>if p=0 then av a else aG b
def adT(m:fO)(a:Nat->Nat->Int)(v:dA):fO := { m with R:=a,an:=m.an+1,ao:=aZ m.ao m.an v.o,ar:=aZ m.ar m.an v.bK,gn:=m.gn+1,g:=aZ m.g m.gn (uS v) }
def XH(m:fO)(a:Nat->Nat->Int)(v:dA)(j:Nat):fO := { m with R:=a,an:=m.an+1,ao:=aZ m.ao m.an v.o,ar:=aZ m.ar m.an v.bK,g:=aZ m.g j (fZ (m.g j) 4 v.bK) }
structure Bw(w0 w:World):Prop where
 b:Below w0.heap.size w0 w
theorem Bw.up{w':World}(h:Bw q c)(w:Below c.heap.size c w'):Bw q w':=⟨Oj h.b w⟩
instance {a w w':World}:Rt.Tr w w' (Bw a w) (Bw a w'):=⟨fun b h=>h.up b⟩
end Rt
theorem aoI(w:y 0=av a)(h1:y 1=aG d)(h:aM c m 2 y 101):aM c m 2 (LW a d) 101:=h.congr fun j b=>by
 rcases(show j=0\/j=1 by omega)with rfl|rfl
 ·exact w
 ·exact h1
structure LtT(gl gq ge b:Nat):Prop where
 gl:gl<b
 gq:gq<b
 ge:ge<b
structure LtF(gl gq ge gg go b:Nat):Prop where
 gl:gl<b
 gq:gq<b
 ge:ge<b
 gg:gg<b
 go:go<b
theorem adU(m:fO)(l B:Nat)(w:World)(h:pF w B l m)(v:dA)(hv:dG v=true)(hwf:jB v)(I:Nat->Nat->Int)(D J G:Nat)(aoJ:J<=D)(cap:Array Value)(U:Ap w B l m { m with R:=I } D (.func (.func G) #[] cap) G cap)(S:Nat)(K:Nat)(M:Nat)(A:Nat)(Y:aM w S 1 (fun _ => .func (.func G) #[] cap) 85)(hl:aM w K 1 (fun _=>(pt l)) 50)(hq:aM w M 2 (LW v.o v.bK) 101)(E:aM w A 14 (dH v) 30)(N:LtT K M A D)(hnz : ∀ i,i<m.an -> ¬ (m.ao i=v.o/\m.ar i=v.bK))(hny : ∀ i,i<m.gn -> ¬ ((fun i=>m.g i 0) i=v.o/\(fun i=>m.g i 1) i=v.bK)) :
 Calls prog 185 #[(pt S),(pt K),(pt M),(pt A)] w fun e w'=>e = .returned (.tuple #[])/\pF w' B l (adT m I v)/\ko (Ao m l J) w w':=by
 have d:=h.ne;have Z:=Jy hv hwf;refine bX func185 25 ?_;refine ay<|Lv (.func (.func G) #[] cap) (aR Y.aJ 0)<|zW (by rfl) (Xu (args := []) rfl rfl rfl (by simp) U.f) rfl<|(U.s _ (Below.refl _ _)).mono ?_;rintro e9 z ⟨E,C,H⟩;refine⟨_,E,?_⟩;clear E;have V:=H.mono (S':=Ao m l J) fun k hk=>hk.imp id (m_ aoJ);have m1:=C.c;have m2:=C.t;have m3:=C.p;have m4:=C.r;have m5:=C.g;have m6:=C.a;have m7:=h.Pv hl (by decide) H N.gl;have m8:=h.Pv hq (by decide) H N.gq;have m9:=h.Pv E (by decide) H N.ge;refine aC<|aQ<|nP [0,1,2,3,4,5] [4,0,0,4,4,3] [(5,0,[0]),(5,3,[3]),(5,4,[4])] fun qN W iM =>have s1:eG z.heap.size z qN:=Sb W;have⟨m10,m11,kY,m13,m14,m15,m16,m17,m18⟩:=yQ W m1 m2 m3 m4 m5 m6 m7 m8 m9;have D:=V.then s1 (.inr V.size);Rs (pt l) (aR m16.aJ 0)<|aS (pt l)<|aS (pf l 28)<|Rs (.map (some m.ab)) (aR m10.aJ 28)<|Rs (.agg (aA 2 (LW v.o v.bK))) (dZ m17.aJ 0)<|jP<|Fx.L.acH (by rfl) rfl rfl rfl ((show ev _ _ = .agg (aA 2 (LW v.o v.bK))from rfl).trans (Ea (y:=LW v.o v.bK) (a:=v.o) (b:=v.bK) rfl rfl)) Z.1 rfl m15 underlying81 Ms hnz fun O m19 s2 z1 =>have q:=m15.Gg s2;have m20:=m10.fH q;have mG:=m11.fH q (d.ma);have m22:=kY.fH q (d.pa);have m23:=m13.fH q (d.ra);have m24:=m14.fH q (d.ga);have mU:=m16.fH q;have pK:=m17.fH q;have pO:=m18.fH q;have Q:=D.then s2 (.inl (.inl (.inr (.inr (.inr (.inr (.inr rfl)))))));have om:jV O m.ab (m.an+1) (aZ m.ao m.an v.o) (aZ m.ar m.an v.bK) I8:=XG m19;Ln<|dJ<|nP [5,7,9,11,0,1,2,3,4,6,8,10,12,13,14] [4,0,0,4,4,0,4,0,4,0,4,0,4,0,3] [(14,0,[0]),(14,3,[3]),(14,4,[4]),(14,6,[6]),(14,8,[8]),(14,10,[10]),(14,12,[12])] fun Fu X rM =>have s3:eG O.heap.size O Fu:=Sb X;have⟨qb,qV,mY,m32,oD,pz,pQ,F,sD⟩:=yQ X m20 mG m22 m23 m24 mU pK pO om;have b3:=Q.then s3 (.inr Q.size);aS (pt A)<|aS (pf A 12)<|aS (pf A 9)<|aS (pf A 11)<|Rs (pt l) (aR pz.aJ 0)<|aS (pt l)<|aS (pf l 27)<|Rs (.map (some m.gb)) (aR qb.aJ 27)<|Rs (.agg (aA 2 (LW v.o v.bK))) (dZ pQ.aJ 0)<|Rs (av v.o) (aR F.aJ 0)<|Rs (aG v.bK) (aR F.aJ 12)<|Rs (aG v.node) (aR F.aJ 9)<|Rs (av v.bF) (aR F.aJ 11)<|aS (.agg (aA 5 (bJ (bJ (bJ (bJ zR0 0 1 (fun _=>av v.o)) 1 1 (fun _=>aG v.bK)) 2 1 (fun _=>aG v.node)) 3 1 (fun _=>av v.bF))))<|jP<|Fx.L.acH (by rfl) rfl rfl rfl ((show ev _ _ = .agg (aA 2 (LW v.o v.bK))from rfl).trans (Ea (y:=LW v.o v.bK) (a:=v.o) (b:=v.bK) rfl rfl)) Z.1 rfl oD underlying80 Ms hny fun w3 qM s4 z2 => ?_;have u:=oD.Gg s4;have qW:=qb.fH u;have vk:=qV.fH u (d.mg);have pR:=mY.fH u (d.pg);have qx:=m32.fH u (d.rg);have qc:=sD.fH u (Ne.symm d.ga);have b4:=b3.then s4 (.inl (.inl (.inr (.inr (.inr (.inr (.inl rfl)))))));have tK:=ais qM (uS v) rfl rfl (by intro j hj; rcases(show j=0\/j=1\/j=2\/j=3\/j=4 by omega)with rfl|rfl|rfl|rfl|rfl <;> rfl)
 refine Ln (Rn (⟨.tuple #[],jQ Tryz.results185,?_⟩));unfold adT;exact⟨rfl,{ c:=qW,t:=vk,p:=pR,r:=qx,g:=tK,a:=qc,ne:=⟨d.mp,d.mr,d.mg,d.ma,d.pr,d.pg,d.pa,d.rg,d.ra,d.ga⟩,lB:=h.lB,pB:=h.pB,rB:=h.rB,gB:=h.gB,aB:=h.aB },b4⟩
theorem adV(m:fO)(l B:Nat)(w:World)(h:pF w B l m)(v:dA)(hv:dG v=true)(hwf:jB v)(K:Nat->Nat->Int)(E H I:Nat)(aoJ:H<=E)(cap:Array Value)(S:Ap w B l m { m with R:=K } E (.func (.func I) #[] cap) I cap)(j:Nat)(Q:Nat)(M:Nat)(N:Nat)(J:Nat)(A:Nat)(go:Nat)(X:aM w Q 1 (fun _ => .func (.func I) #[] cap) 85)(hl:aM w M 1 (fun _=>(pt l)) 50)(hq:aM w N 2 (LW v.o v.bK) 101)(F:aM w J 14 (dH v) 30)(Y:aM w A 5 (lQ (m.g j)) 96)(hof:aM w go 2 (LW v.o v.of) 101)(hgg:H<=A)(G:LtF M N J A go E)(hnz : ∀ i,i<m.an -> ¬ (m.ao i=v.o/\m.ar i=v.bK))(Z:j<m.gn)(ejy:(fun i=>m.g i 0) j=v.o)(fjy:(fun i=>m.g i 1) j=v.of) :
 Calls prog 188 #[(pt Q),(pt M),(pt N),(pt J),(pt A),(pt go)] w fun e w'=>e = .returned (.tuple #[])/\pF w' B l (XH m K v j)/\ko (Ao m l H) w w':=by
 have d:=h.ne;have aa:=Jy hv hwf;refine bX func188 22 ?_;refine ay<|Lv (.func (.func I) #[] cap) (aR X.aJ 0)<|zW (by rfl) (Xu (args := []) rfl rfl rfl (by simp) S.f) rfl<|(S.s _ (Below.refl _ _)).mono ?_;rintro e9 z ⟨F,D,C⟩;refine⟨_,F,?_⟩;clear F;have U:=C.mono (S':=Ao m l H) fun k hk=>hk.imp id (m_ aoJ);have m1:=D.c;have m2:=D.t;have m3:=D.p;have m4:=D.r;have m5:=D.g;have m6:=D.a;have m7:=h.Pv hl (by decide) C G.gl;have m8:=h.Pv hq (by decide) C G.gq;have m9:=h.Pv F (by decide) C G.ge;have m10:=h.Pv Y (by decide) C G.gg;have m11:=h.Pv hof (by decide) C G.go;refine aC<|aQ<|nP [0,1,2,3,4,5] [4,0,0,4,4,3] [(5,0,[0]),(5,3,[3]),(5,4,[4])] fun qN V iM =>have s1:eG z.heap.size z qN:=Sb V;have⟨kY,m13,m14,m15,m16,m17,m18,m19,m20,mG,m22⟩:=BO V m1 m2 m3 m4 m5 m6 m7 m8 m9 m10 m11;have E:=U.then s1 (.inr U.size);Rs (pt l) (aR m18.aJ 0)<|aS (pt l)<|aS (pf l 28)<|Rs (.map (some m.ab)) (aR kY.aJ 28)<|Rs (.agg (aA 2 (LW v.o v.bK))) (dZ m19.aJ 0)<|jP<|Fx.L.acH (by rfl) rfl rfl rfl ((show ev _ _ = .agg (aA 2 (LW v.o v.bK))from rfl).trans (Ea (y:=LW v.o v.bK) (a:=v.o) (b:=v.bK) rfl rfl)) aa.1 rfl m17 underlying81 Ms hnz fun w2 m23 s2 z1 =>have q:=m17.Gg s2;have m24:=kY.fH q;have mU:=m13.fH q (d.ma);have pK:=m14.fH q (d.pa);have pO:=m15.fH q (d.ra);have om:=m16.fH q (d.ga);have qb:=m18.fH q;have qV:=m19.fH q;have mY:=m20.fH q;have m32:=mG.fH q;have oD:=m22.fH q;have b2:=E.then s2 (.inl (.inl (.inr (.inr (.inr (.inr (.inr rfl)))))));have pz:jV w2 m.ab (m.an+1) (aZ m.ao m.an v.o) (aZ m.ar m.an v.bK) I8:=XG m23;Ln<|dJ<|ay<|au (pf J 12)<|Lv (aG v.bK) (aR mY.aJ 12)<|au (pf A 4)<|jf m32 4 (aG v.bK) fun O pQ s3 z2 =>have rE:aM O A 5 (lQ (fZ (m.g j) 4 v.bK)) 96:=pQ.to (ate _ _);have gT:=gJ s3 m32.ty;have⟨sD,qM,qW,vk,pR,qx,qy,uF,sQ,qc⟩:=QF gT m24 mU pK pO om qb qV mY oD pz;have P:=b2.then s3 (.inl (.inr hgg));aC<|nP [0,1,2,3,4,5,6] [4,0,0,4,4,4,3] [(6,0,[0]),(6,3,[3]),(6,4,[4]),(6,5,[5])] fun Fu W rM =>have s4:eG O.heap.size O Fu:=Sb W;have⟨tK,xY,uN,yj,Ai,yG,xA,yH,wC,vU,wD⟩:=BO W sD qM qW vk pR qx qy uF sQ qc rE;have b4:=P.then s4 (.inr P.size);Rs (pt l) (aR yG.aJ 0)<|aS (pt l)<|aS (pf l 27)<|Rs (.map (some m.gb)) (aR tK.aJ 27)<|Rs (.agg (aA 2 (LW v.o v.of))) (dZ wC.aJ 0)<|Rs (.agg (aA 5 (lQ (fZ (m.g j) 4 v.bK)))) (dZ wD.aJ 0)<|jP<|Fx.L.asb (by rfl) rfl rfl rfl ((show ev _ _ = .agg (aA 2 (LW v.o v.of))from rfl).trans (Ea (y:=LW v.o v.of) (a:=v.o) (b:=v.of) rfl rfl)) aa.2 rfl Ai underlying80 Ms Z ejy fjy fun w4 tL s5 z3 =>have u:=Ai.Gg s5;have uG:=tK.fH u;have oo:=xY.fH u (d.mg);have sF:=uN.fH u (d.pg);have pE:=yj.fH u (d.rg);have vV:=yG.fH u;have m64:=xA.fH u;have xB:=yH.fH u;have sG:=wC.fH u;have sH:=vU.fH u (Ne.symm d.ga);have sI:=wD.fH u;have b5:=b4.then s5 (.inl (.inl (.inr (.inr (.inr (.inr (.inl rfl)))))));have tN:jV w4 m.gb m.gn (fun i=>aZ m.g j (fZ (m.g j) 4 v.bK) i 0) (fun i=>aZ m.g j (fZ (m.g j) 4 v.bK) i 1) (yY (aZ m.g j (fZ (m.g j) 4 v.bK))):=ait tL rfl rfl;Ln (Rn (⟨.tuple #[],jQ Tryz.results188,?_⟩));unfold XH;exact⟨rfl,{ c:=uG,t:=oo,p:=sF,r:=pE,g:=tN,a:=sH,ne:=⟨d.mp,d.mr,d.mg,d.ma,d.pr,d.pg,d.pa,d.rg,d.ra,d.ga⟩,lB:=h.lB,pB:=h.pB,rB:=h.rB,gB:=h.gB,aB:=h.aB },b5⟩
end
namespace Rt
def jX(m:fO)(o r:Int):Bool:=GY m.ao m.ar m.an o r
def lH(m:fO)(o r:Int):Bool:=GY (fun i=>m.g i 0) (fun i=>m.g i 1) m.gn o r
def iD(m:fO)(o r:Int):Nat:=AY (fun i=>m.g i 0) (fun i=>m.g i 1) m.gn o r
noncomputable def adW(m:fO)(v:dA):fO:=vL m (fun x=>bV x v.o v.bF) (m.T.dI v.node)
def mQ(m:fO)(v:dA):Int:=if jX m v.o v.bK=true then 14 else if m.T.has v.node=false then 9 else eH m (fun x=>bV x v.o v.bF) (m.T.dI v.node)
noncomputable def nJ(m:fO)(v:dA):fO:=adT m (adW m v).R v
noncomputable def adX(m:fO)(v:dA):fO:=vL m (fun x=>bW x v.o (m.g (iD m v.o v.of) 3)) (m.T.dI (m.g (iD m v.o v.of) 2))
def lS(m:fO)(v:dA):Int:=if jX m v.o v.bK=true then 14 else if lH m v.o v.of=false\/m.g (iD m v.o v.of) 4≠0 then 12 else eH m (fun x=>bW x v.o (m.g (iD m v.o v.of) 3)) (m.T.dI (m.g (iD m v.o v.of) 2))
noncomputable def jY(m:fO)(v:dA):fO:=XH m (adX m v).R v (iD m v.o v.of)
def ZG(m:fO):Prop := ∀ i,i<m.gn->jX m (m.g i 0) (m.g i 1)=true
end Rt
theorem Fx.atf{e g f i:Operand}{a b c d:Value}(h1:ev x u=h)(j:ev x O=V)(k:ev x e=a)(l:ev x g=b)(m:ev x f=c)(n:ev x i=d) : [u,O,e,g,f,i].map (ev x) = [h,V,a,b,c,d]:=by rw[List.map_cons,h1,Fx.aqS j k l m n]
theorem Ap.up{w':World}{w e:fO}{cap:Array Value}(B:Ap c m k w e j h b cap)(f:Below c.heap.size c w'):Ap w' m k w e j h b cap := { B with s:=fun i g=>B.s i (Oj f g) }
instance {w w':World} {B e a c:Nat} {m f:fO} {d:Value} {cap:Array Value}:Rt.Tr w w' (Ap w B e m f a d c cap) (Ap w' B e m f a d c cap):=⟨fun b h=>h.up b⟩
theorem aiu(m:fO)(d B:Nat)(w:World)(h:pF w B d m)(v:dA)(M:dG v=true)(hwf:jB v)(hga:ZG m) :
 Calls prog 172 #[(pt d),.agg (aA 14 (dH v))] w fun e w'=>yD w B d m (nJ m v) (mQ m v) e w':=by
 have hC:=h.c;have hT:=h.t;have hP:=h.p;have hR:=h.r;have hG:=h.g;have hA:=h.a;obtain⟨a,ha,ho⟩ : ∃ a:Nat,a<6/\v.o=(a:Int)+1:=gY (kM M);have hra:aX v=a:=by unfold aX; omega
 have hko:=Jy M hwf;have hvo:1<=v.o/\v.o<=6:=by omega
 refine bX func172 40 ?_;refine ay<|Ej (pt d) fun C w1 kV N s1 z1 => ?_;have⟨m2,m3,m4,m5,m6,m7,V⟩:=kU s1.bP hC hT hP hR hG hA (Below.refl w.heap.size w);have tJ:=iy kV;have⟨rJ,Ed,Bo,FU,DX⟩:=Du kV hC.lt hP.lt hR.lt hG.lt hA.lt;have vB:=N.lt;refine oq fun f w2 nN D s2 z2 => ?_;have⟨m9,m10,m11,kY,m13,m14,m15,W⟩:=lY s2.bP m2 m3 m4 m5 m6 m7 N V;have xw:=gQ nN V.size;have⟨RZ,KP,KQ,EI,KR,GI⟩:=J3 nN m2.lt m4.lt m5.lt m6.lt m7.lt N.lt;have zR:=D.lt;refine au (.nilFunc)<|au (av 0)<|aC<|ay<|au (pt f)<|Lv (av v.o) (aR D.aJ 0)<|au (pf f 12)<|Lv (aG v.bK) (aR D.aJ 12)<|au (.agg (aA 2 (bJ (bJ zS0 0 1 (fun _=>av v.o)) 1 1 (fun _=>aG v.bK))))<|oJ 2 zS0 fun l w3 nO O s3 z3 => ?_;have⟨m17,m18,m19,m20,mG,m22,m23,m24,X⟩:=yQ s3.bP m9 m10 m11 kY m13 m14 m15 D W;have Gc:=gQ nO W.size;have⟨aB4,adR,aoK,Vn,KX,KY,PD⟩:=Oz nO m9.lt m11.lt kY.lt m13.lt m14.lt m15.lt D.lt;have Gr:=O.lt;refine dY O 0 (h1:=(cu (cu (fun jq _=>by show(zS0 jq).oneCell'=true; simp only[zS0]; repeat (first|rfl|split)) (fun _ _=>rfl)) (fun _ _=>rfl))) fun w4 mU s4 z4 => ?_
 have pK:=aO mU;have pO:=aoI (EZ (by omega) (vw (j:=0) (by omega) (by omega) rfl)) (vw (j:=0) (by omega) (by omega) rfl) pK;have gT:=gJ s4 O.ty;have⟨om,qb,qV,mY,m32,oD,pz,pQ⟩:=QE gT m17 m18 m19 m20 mG m22 m23 m24;have b4:=s4.below X X.size (by omega);refine aC<|aQ<|aQ<|nP [0,1,2,3,4,5] [4,0,0,4,4,4] [] fun qN eX iM =>have⟨rE,sD,qM,qW,vk,P,qx,qy,uF,Y⟩:=vT eX om qb qV mY m32 oD pz pQ pO b4;Rs (pt d) (aR qx.aJ 0)<|aS (pt d)<|aS (pf d 28)<|Rs (.map (some m.ab)) (aR rE.aJ 28)<|Rs (.agg (aA 2 (LW v.o v.bK))) (dZ uF.aJ 0) ?_
 rcases Cj m.ao m.ar m.an v.o v.bK with ⟨adK,Ih,Ii,R9⟩|iN
 ·refine Rs aH (RF (z := .bool false) rfl rfl ((show ev _ _ = .agg (aA 2 (LW v.o v.bK))from rfl).trans (Ea (y:=LW v.o v.bK) (a:=v.o) (b:=v.bK) rfl rfl)) hko.1 P underlying81 Ms (by rfl) Ih Ii R9 rfl)<|dJ<|aP<|ay<|au (.nilFunc)<|au (av 14)<|aC<|Wr<|sR<|aK (.tuple #[.nilFunc,av 14]) ?_;have k:mQ m v=14:=by unfold mQ; exact d_ (xQ Ih Ii R9)
  exact⟨⟨.nilFunc,0,#[],by rw[k],rfl,fun A=>L_ (k.symm.trans A) (by first|decide|omega|assumption)⟩,Y⟩
 refine Rs aD (RD (z := .bool false) rfl rfl ((show ev _ _ = .agg (aA 2 (LW v.o v.bK))from rfl).trans (Ea (y:=LW v.o v.bK) (a:=v.o) (b:=v.bK) rfl rfl)) hko.1 P underlying81 Ms (by rfl) iN)<|dJ<|aL<|Wk<|sN<|aQ<|aQ<|nP [4,0,1,2,3,5,6,7] [4,0,0,4,0,4,3,0] [(6,0,[3,2,1,0]),(6,3,[3]),(6,5,[5]),(7,6,[6])] fun Fu iZ rM =>have⟨sQ,qc,tK,xY,uN,yj,Q,G,xA,I⟩:=vT iZ rE sD qM qW vk P qx qy uF Y;aS (pf f 9)<|Rs (pt d) (aR Q.aJ 0)<|aS (pt d)<|aS (pf d 18)<|Rs (pt m.tp) (aR sQ.aJ 18)<|Rs (aG v.node) (aR G.aJ 9) ?_;refine jP ?_;by_cases s:(fD.has m.T v.node)=true
 ·refine mX (akY v.node qc) aH (by rw[s])<|Ln<|aS aD<|dJ<|aL<|Wk<|sN<|ay<|Lv (pt d) (aR Q.aJ 0)<|au (pf f 9)<|Lv (aG v.node) (aR G.aJ 9)<|Lv (.func (.func 183) #[] #[(pt f)]) (qp (us := []) (vs := [(pt f)]) rfl rfl rfl)<|lX (adQ m d B _ (h.up I) v.node v hvo f G) ?_;rintro e9 H ⟨⟨F,fi1,sK,he,ho1,hD1⟩,hb1⟩;refine⟨_,he,?_⟩;clear he;have⟨yH,vU,wD,tL,uG,oo,sF,pE,Z⟩:=yQ hb1 sQ tK xY uN yj Q G xA I;have bw1:Bw H H:=⟨Below.refl _ _⟩;refine au (.tuple #[F,av (eH m (fun x=>bV x v.o v.bF) (m.T.dI (v.node)))])<|au (F)<|au (av (eH m (fun x=>bV x v.o v.bF) (m.T.dI (v.node))))<|oJ 1 (fun _ => .nilFunc) fun n w6 K S s8 z5 => ?_;have⟨tO,qg,sS,vW,b8⟩:=oK s8.bP oo sF pE bw1 Z;have Uw:=gQ K Z.size;have⟨aB5,anY,anZ,aoa,aob,aoc,aB6,aod⟩:=aaQ K yH.lt vU.lt wD.lt tL.lt uG.lt oo.lt sF.lt pE.lt;have TR:=S.lt;have kg4:H.heap.size<=n:=by rw[K]; exact bw1.b.size
  refine jf S 0 F (h1:=ho1) fun w7 yR U z6 => ?_;have xZ:aM w7 n 1 (fun _=>F) 85:=eP yR;have jC:=gJ U S.ty;have⟨zk,zS,zw⟩:=wB jC tO qg sS;have Aj:=(⟨U.below vW.b vW.b.size kg4⟩:Bw H _);have J:=U.below b8 b8.size (by omega);refine au (av (eH m (fun x=>bV x v.o v.bF) (m.T.dI (v.node))))<|aC<|aQ<|ay<|au (av (eH m (fun x=>bV x v.o v.bF) (m.T.dI (v.node)))) ?_;by_cases E:(eH m (fun x=>bV x v.o v.bF) (m.T.dI (v.node)))=0
  ·refine Lv aD (kr E)<|aC<|aL<|Wk<|sN<|ay<|Lv (.func (.func 185) #[] #[(pt n),(pt C),(pt l),(pt f)]) (qp (us := []) (vs := [(pt n),(pt C),(pt l),(pt f)]) rfl rfl rfl)<|au (.func (.func 185) #[] #[(pt n),(pt C),(pt l),(pt f)])<|au (av 0)<|aC<|Wr<|aK (.tuple #[.func (.func 185) #[] #[(pt n),(pt C),(pt l),(pt f)],av 0]) ?_;have hD0:=hD1 E;have hfe:=hD0.e;subst hfe;have b01:w.heap.size<=Fu.heap.size:=(by omega);have k:mQ m v=0:=(by unfold mQ; rw[b_ (show ¬ jX m v.o v.bK=true by unfold jX; rw[uI iN]; decide)]; rw[b_ (by rw[s]; decide)]; exact E);exact⟨⟨_,185,#[(pt n),(pt C),(pt l),(pt f)],by rw[k],rfl,fun _=>⟨rfl,⟨_,_,func185,rfl,rfl⟩,fun w2 u=>(adU m d B w2 ((h.up J).up u) v M hwf (adW m v).R Fu.heap.size w.heap.size _ (by omega) _ (hD0.up (Oj Aj.b u)) _ _ _ _ (xZ.cK (Sb u) (u_ xZ.lt)) (zk.cK (Sb u) (u_ zk.lt)) (zw.cK (Sb u) (u_ zw.lt)) (zS.cK (Sb u) (u_ zS.lt)) ⟨by omega,by omega,by omega⟩ iN (fun i hi e=>by have q9:=hga i hi; obtain⟨j9,hj9,e9,f9⟩:=nk.1 q9; exact iN j9 hj9 ⟨e9.trans e.1,f9.trans e.2⟩)).mono fun _ _ L=>⟨L.1,L.2.1,L.2.2.mono fun _ hk=>hk⟩⟩⟩,J⟩
  refine Lv aH (mO E)<|aC<|aP<|ay<|au (av (eH m (fun x=>bV x v.o v.bF) (m.T.dI (v.node))))<|au (.nilFunc)<|au (av (eH m (fun x=>bV x v.o v.bF) (m.T.dI (v.node))))<|aC<|Wr<|sR<|aK (.tuple #[.nilFunc,av (eH m (fun x=>bV x v.o v.bF) (m.T.dI (v.node)))]) ?_;have k:mQ m v=eH m (fun x=>bV x v.o v.bF) (m.T.dI (v.node)):=by unfold mQ; rw[b_ (show ¬ jX m v.o v.bK=true by unfold jX; rw[uI iN]; decide)]; rw[b_ (by rw[s]; decide)]
  exact⟨⟨.nilFunc,0,#[],by rw[k],rfl,fun A=>L_ (k.symm.trans A) (by first|decide|omega|assumption)⟩,J⟩
 rw[R_]at s;refine mX (akY v.node qc) aD (by rw[s])<|Ln<|aS aH<|dJ<|aP<|ay<|au (.nilFunc)<|au (av 9)<|aC<|Wr<|sR<|aK (.tuple #[.nilFunc,av 9]) ?_;have k:mQ m v=9:=by unfold mQ; rw[b_ (show ¬ jX m v.o v.bK=true by unfold jX; rw[uI iN]; decide)]; exact d_ s
 exact⟨⟨.nilFunc,0,#[],by rw[k],rfl,fun A=>L_ (k.symm.trans A) (by first|decide|omega|assumption)⟩,I⟩
theorem aiv(m:fO)(A B:Nat)(w:World)(h:pF w B A m)(v:dA)(hv:dG v=true)(hwf:jB v) :
 Calls prog 173 #[(pt A),.agg (aA 14 (dH v))] w fun e w'=>yD w B A m (jY m v) (lS m v) e w':=by
 have hC:=h.c;have hP:=h.p;have hR:=h.r;have hG:=h.g;have hA:=h.a;obtain⟨a,ha,ho⟩ : ∃ a:Nat,a<6/\v.o=(a:Int)+1:=gY (kM hv);have hra:aX v=a:=by unfold aX; omega
 have ac:=Jy hv hwf;have hvo:1<=v.o/\v.o<=6:=by omega
 refine bX func173 56 ?_;refine ay<|Ej (pt A) fun K w1 kV m1 s1 z1 => ?_;have⟨m2,m4,m5,m6,m7,b1⟩:=oL s1.bP hC hP hR hG hA (Below.refl w.heap.size w);have tJ:=iy kV;have⟨rJ,Ed,Bo,FU,DX⟩:=Du kV hC.lt hP.lt hR.lt hG.lt hA.lt;have vB:=m1.lt;refine oq fun n w2 nN E s2 z2 => ?_;have⟨m9,m11,kY,m13,m14,m15,b2⟩:=kU s2.bP m2 m4 m5 m6 m7 m1 b1;have xw:=gQ nN b1.size;have⟨RZ,KP,KQ,EI,KR,GI⟩:=J3 nN m2.lt m4.lt m5.lt m6.lt m7.lt m1.lt;have zR:=E.lt;refine au (.nilFunc)<|au (av 0)<|aC<|aQ ?_;refine Jb (T1:=101) (T2:=101) (T1':=101) (T2':=101) (a1 := .tmp 6) (v1 := .tmp 16) (a2 := .tmp 7) (v2 := .tmp 21) (m1:=2) (m2:=2) (z1:=fun d=>if d<1 then av 0 else aG 0) (y1:=bJ (bJ zS0 0 1 (fun _=>av v.o)) 1 1 (fun _=>aG v.bK)) (z2:=fun d=>if d<1 then av 0 else aG 0) (y2:=bJ (bJ zS0 0 1 (fun _=>av v.o)) 1 1 (fun _=>aG v.of)) (u1 := .agg (aA 2 (bJ (bJ zS0 0 1 (fun _=>av v.o)) 1 1 (fun _=>aG v.bK)))) (u2 := .agg (aA 2 (bJ (bJ zS0 0 1 (fun _=>av v.o)) 1 1 (fun _=>aG v.of)))) 10 11 12 13 [[],[],[],[],[],[],[],[],[],[],[],[],[(0,[10]),(1,[11])],[(0,[10]),(1,[11]),(2,[12])]] [[(2,[0]),(3,[0])],[(2,[1]),(3,[1])],[(2,[2]),(3,[2])],[(2,[3]),(3,[3])],[(2,[4]),(3,[4])],[(3,[5])],[(3,[6])],[(3,[7])],[(3,[8])],[(3,[9])],[(2,[10]),(3,[10])],[(2,[11]),(3,[11])],[(3,[12])],[]] #[(pt n),av v.o,(pf n 12),aG v.bK,.agg (aA 2 (bJ (bJ zS0 0 1 (fun _=>av v.o)) 1 1 (fun _=>aG v.bK))),(pt n),av v.o,(pf n 13),aG v.of,.agg (aA 2 (bJ (bJ zS0 0 1 (fun _=>av v.o)) 1 1 (fun _=>aG v.of))),undef,undef,undef,undef] (by kernel_rfl) (by kernel_rfl) (by kernel_rfl) (by kernel_rfl) (by kernel_rfl) (by kernel_rfl) (by kernel_rfl) (by kernel_rfl) (by kernel_rfl) (by kernel_rfl) rfl rfl (by kernel_rfl) (by kernel_rfl) rfl rfl rfl rfl (by kernel_rfl) (by kernel_rfl) (fun k l=>(show ev _ (.tmp 6)=(pt k)from by kernel_rfl)) (fun k l=>(show ev _ (.tmp 7)=(pt l)from by kernel_rfl)) (fun k l=>(show ev _ (.tmp 16) = .agg (aA 2 (bJ (bJ zS0 0 1 (fun _=>av v.o)) 1 1 (fun _=>aG v.bK)))from by kernel_rfl)) (fun k l=>(show ev _ (.tmp 21) = .agg (aA 2 (bJ (bJ zS0 0 1 (fun _=>av v.o)) 1 1 (fun _=>aG v.of)))from by kernel_rfl)) (bM _ _) (bM _ _) (cu (cu (fun jq _=>by show(zS0 jq).oneCell'=true; simp only[zS0]; repeat (first|rfl|split)) (fun _ _=>rfl)) (fun _ _=>rfl)) (cu (cu (fun jq _=>by show(zS0 jq).oneCell'=true; simp only[zS0]; repeat (first|rfl|split)) (fun _ _=>rfl)) (fun _ _=>rfl)) (fun k l => ?_) ?_
 ·refine⟨?_,?_,?_,?_,?_,?_,?_,?_,?_,?_,?_,?_,?_,?_,trivial⟩
  ·exact .inr KqE
  ·exact .inr (QL (av v.o) fun G u=>bE (x:=dH v) rfl (show ev _ (.tmp 12)=(pt n)from by kernel_rfl) (by kernel_rfl) (E.aJ.below u (by have:=E.lt; omega)) (i:=0) (by omega) (by omega) rfl)
  ·exact .inr KqE
  ·exact .inr (QL (aG v.bK) fun G u=>bE (x:=dH v) rfl (show ev _ (.tmp 14)=(pf n 12)from by kernel_rfl) (by kernel_rfl) (E.aJ.below u (by have:=E.lt; omega)) (i:=12) (by omega) (by omega) rfl)
  ·exact .inr (QL (.agg (aA 2 (bJ (bJ zS0 0 1 (fun _=>av v.o)) 1 1 (fun _=>aG v.bK)))) fun G u=>iq (vs := [(0,av v.o),(1,aG v.bK)]) (places := #[(0,1),(1,1)]) (m:=2) (x:=fun d=>if d<1 then av 0 else aG 0) rfl (aaH (show ev _ (.tmp 13)=av v.o from by kernel_rfl) (show ev _ (.tmp 15)=aG v.bK from by kernel_rfl)) underlying101 (by kernel_rfl) (by kernel_rfl) (by rw[aT (off:=0) (s:=1) (y:=fun _=>av v.o) (by kernel_rfl) (bG)]; rw[aT (off:=1) (s:=1) (y:=fun _=>aG v.bK) (by kernel_rfl) (bG)]; rfl))
  ·exact .inr KqE
  ·exact .inr (QL (av v.o) fun G u=>bE (x:=dH v) rfl (show ev _ (.tmp 17)=(pt n)from by kernel_rfl) (by kernel_rfl) (E.aJ.below u (by have:=E.lt; omega)) (i:=0) (by omega) (by omega) rfl)
  ·exact .inr KqE
  ·exact .inr (QL (aG v.of) fun G u=>bE (x:=dH v) rfl (show ev _ (.tmp 19)=(pf n 13)from by kernel_rfl) (by kernel_rfl) (E.aJ.below u (by have:=E.lt; omega)) (i:=13) (by omega) (by omega) rfl)
  ·exact .inr (QL (.agg (aA 2 (bJ (bJ zS0 0 1 (fun _=>av v.o)) 1 1 (fun _=>aG v.of)))) fun G u=>iq (vs := [(0,av v.o),(1,aG v.of)]) (places := #[(0,1),(1,1)]) (m:=2) (x:=fun d=>if d<1 then av 0 else aG 0) rfl (aaH (show ev _ (.tmp 18)=av v.o from by kernel_rfl) (show ev _ (.tmp 20)=aG v.of from by kernel_rfl)) underlying101 (by kernel_rfl) (by kernel_rfl) (by rw[aT (off:=0) (s:=1) (y:=fun _=>av v.o) (by kernel_rfl) (bG)]; rw[aT (off:=1) (s:=1) (y:=fun _=>aG v.of) (by kernel_rfl) (bG)]; rfl))
  ·exact .inl rfl
  ·exact .inl rfl
  ·exact .inl rfl
  exact .inl rfl
 rintro k l w3 Z Q H I ne1 m16 m17 hb1;have aoL:m.rb≠k:=u_ (n_ (kY.lt) H);have aB7:m.gb≠k:=u_ (n_ (m13.lt) H);have aB8:m.ab≠k:=u_ (n_ (m14.lt) H);have aB9:K≠k:=u_ (n_ (m15.lt) H);have alb:n≠k:=u_ (n_ (E.lt) H);have aFR:A≠l:=u_ (n_ (m9.lt) I);have aCa:m.pb≠l:=u_ (n_ (m11.lt) I);have aCb:m.rb≠l:=u_ (n_ (kY.lt) I);have aCc:m.gb≠l:=u_ (n_ (m13.lt) I);have aoM:m.ab≠l:=u_ (n_ (m14.lt) I);have adZ:K≠l:=u_ (n_ (m15.lt) I);have aFS:n≠l:=u_ (n_ (E.lt) I);have⟨m18,m20,mG,m22,m23,m24,mU,b3⟩:=lY hb1 m9 m11 kY m13 m14 m15 E b2;have H:w.heap.size<=k:=m_ b2.size H;have Gr:=m16.lt;have I:w.heap.size<=l:=m_ b2.size I;have TR:=m17.lt;have q1:Z 2=(pt K):=by rw[Q]; kernel_rfl
 have q2:Z 3=(pt n):=by rw[Q]; kernel_rfl
 have q5:Z 6=(pt k):=by rw[Q]; kernel_rfl
 have q6:Z 7=(pt l):=by rw[Q]; kernel_rfl
 clear Q;refine sN<|aQ<|aQ ?_;refine nP [0,1,2,3,4,5] [4,0,0,4,4,4] [] fun qN eX iM => ?_;have⟨pK,om,qb,qV,mY,m32,oD,pz,pQ,b4⟩:=vT eX m18 m20 mG m22 m23 m24 mU m16 m17 b3;refine Rs (pt A) (aR m32.aJ 0 (ha:=q1)) ?_;refine aS (pt A)<|aS (pf A 28)<|Rs (.map (some m.ab)) (aR pK.aJ 28) ?_;refine Rs (.agg (aA 2 (bJ (bJ zS0 0 1 (fun _=>av v.o)) 1 1 (fun _=>aG v.bK)))) (dZ pz.aJ 0 (ha:=q5)) ?_
 rcases Cj m.ao m.ar m.an v.o v.bK with ⟨adK,Ih,Ii,R9⟩|iN
 ·refine Rs aH (RF (z := .bool false) rfl rfl ((show ev _ _ = .agg (aA 2 (bJ (bJ zS0 0 1 (fun _=>av v.o)) 1 1 (fun _=>aG v.bK)))from rfl).trans (Ea (y:=bJ (bJ zS0 0 1 (fun _=>av v.o)) 1 1 (fun _=>aG v.bK)) (a:=v.o) (b:=v.bK) (EZ (by omega) (vw (j:=0) (by omega) (by omega) rfl)) (vw (j:=0) (by omega) (by omega) rfl))) ac.1 mY underlying81 Ms (by rfl) Ih Ii R9 rfl) ?_;refine dJ<|aP<|ay<|au (.nilFunc)<|au (av 14)<|aC<|Wr<|sR<|aK (.tuple #[.nilFunc,av 14]) ?_;have C:lS m v=14:=by unfold lS; exact d_ (xQ Ih Ii R9)
  exact⟨⟨.nilFunc,0,#[],by rw[C],rfl,fun L=>L_ (C.symm.trans L) (by first|decide|omega|assumption)⟩,b4⟩
 refine Rs aD (RD (z := .bool false) rfl rfl ((show ev _ _ = .agg (aA 2 (bJ (bJ zS0 0 1 (fun _=>av v.o)) 1 1 (fun _=>aG v.bK)))from rfl).trans (Ea (y:=bJ (bJ zS0 0 1 (fun _=>av v.o)) 1 1 (fun _=>aG v.bK)) (a:=v.o) (b:=v.bK) (EZ (by omega) (vw (j:=0) (by omega) (by omega) rfl)) (vw (j:=0) (by omega) (by omega) rfl))) ac.1 mY underlying81 Ms (by rfl) iN) ?_;refine dJ<|aL<|Wk<|sN<|aQ ?_;refine nP [0,1,2,3,4,5,6,7,8,9,10,11] [1,0,0,1,1,1,0,0,0,2,3,0] [(10,0,[0]),(10,3,[3]),(10,4,[4]),(10,5,[5]),(10,9,[9]),(11,9,[9]),(11,10,[10])] fun Fu iZ rM => ?_;have⟨S,qM,qW,U,pR,V,qy,uF,W,X⟩:=vT iZ pK om qb qV mY m32 oD pz pQ b4;refine lI (v:=(pt A)) (by rfl) (by rfl) (mE _) (fun G u=>bE (x:=fun _=>(pt A)) rfl q1 (by kernel_rfl) (V.aJ.below u (by have:=V.lt; omega)) (i:=0) (by omega) (by omega) rfl) ?_;refine aS (pt A)<|aS (pf A 27)<|lI (v := .map (some m.gb)) (by rfl) (by rfl) (mE _) (fun G u=>bE (x:=zN m) rfl rfl (by kernel_rfl) (S.aJ.below u (by have:=S.lt; omega)) (i:=27) (by omega) (by omega) rfl) ?_;refine lI (v := .agg (aA 2 (bJ (bJ zS0 0 1 (fun _=>av v.o)) 1 1 (fun _=>aG v.of)))) (by rfl) (by rfl) (mE _) (fun G u=>eB (x:=bJ (bJ zS0 0 1 (fun _=>av v.o)) 1 1 (fun _=>aG v.of)) (y:=bJ (bJ zS0 0 1 (fun _=>av v.o)) 1 1 (fun _=>aG v.of)) rfl q6 (by kernel_rfl) (by kernel_rfl) (W.aJ.below u (by have:=W.lt; omega)) (i:=0) (by omega) (by omega) (fun j _=>by rw[G_])) ?_
 rcases Cj (fun i=>m.g i 0) (fun i=>m.g i 1) m.gn v.o v.of with ⟨f,P,M,N⟩|alk
 ·refine lI (v := .tuple #[.agg (aA 5 (lQ (m.g f))),.bool true]) (by rfl) (by rfl) (mE _) (fun G u=>Zr (z := .agg (aA 5 zR0)) rfl rfl ((show ev _ _ = .agg (aA 2 (bJ (bJ zS0 0 1 (fun _=>av v.o)) 1 1 (fun _=>aG v.of)))from rfl).trans (Ea (y:=bJ (bJ zS0 0 1 (fun _=>av v.o)) 1 1 (fun _=>aG v.of)) (a:=v.o) (b:=v.of) (EZ (by omega) (vw (j:=0) (by omega) (by omega) rfl)) (vw (j:=0) (by omega) (by omega) rfl))) ac.2 (U.up u) underlying80 Ms (by kernel_rfl) P M N rfl) ?_;refine aS (.tuple #[.agg (aA 5 (lQ (m.g f))),.bool true])<|aS (.agg (aA 5 (lQ (m.g f))))<|aS aH<|mF<|oJ 5 zR0 fun D w4 BG qc s6 z3 => ?_;have⟨tK,uN,yj,Ai,yG,xA,yH,wC,vU,b6⟩:=vT s6.bP S qM qW U pR V qy uF W X;have wX:=gQ BG X.size;have⟨aCd,aCe,aCf,aCg,aCh,aCi,aCj,aCk,aCl⟩:=aaR BG S.lt qM.lt qW.lt U.lt pR.lt V.lt qy.lt uF.lt W.lt;have YE:=qc.lt;refine Ln ⟨s6.bP,?_⟩;refine jP<|dY qc 0 (h1:=(fun j hj=>by rcases j with _|_|_|_|_|_|_|_|_|_|_|_|_|_|j <;> first|rfl|omega)) fun w5 wD s7 z4 => ?_
  have tL:aM w5 D 5 (lQ (m.g f)) 96:=aO wD;have ad:aM w5 D 5 (lQ (m.g f)) 96:=tL;have gT:=gJ s7 qc.ty;have⟨oo,pE,vV,m64,xB,sG,sH,sI,tN⟩:=agM gT tK uN yj Ai yG xA yH wC vU;have b7:=s7.below b6 b6.size (by omega);refine Ln<|aS aH<|dJ<|aQ<|ay<|au aH<|au aD<|au aD<|au (pf D 4)<|Lv (aG ((m.g f) 4)) (aR ad.aJ 4) ?_;by_cases c42:((m.g f) 4)=0
  ·refine Lv aD (kr c42)<|au aD<|aC<|aL<|Wk<|sN<|ay<|Lv (pt A) (aR sG.aJ 0 (ha:=q1))<|au (pf D 2)<|Lv (aG ((m.g f) 2)) (aR ad.aJ 2)<|Lv (.func (.func 186) #[] #[(pt n),(pt D)]) (qp (us := []) (vs := [(pt n),(pt D)]) rfl rfl (Qo q2 rfl))<|lX (adS m A B _ (h.up b7) ((m.g f) 2) v (m.g f) hvo n D sH ad) ?_;rintro e9 w6 ⟨⟨aa,fi1,sK,he,ho1,hD1⟩,F⟩;refine⟨_,he,?_⟩;clear he;have⟨tO,sS,vW,yR,xZ,wE,zh,yS,zi,yI,b8⟩:=BO F oo pE vV m64 xB sG sH sI tN ad b7;have bw1:Bw w6 w6:=⟨Below.refl _ _⟩;refine au (.tuple #[aa,av (eH m (fun x=>bW x v.o (m.g f 3)) (m.T.dI ((m.g f) 2)))])<|au (aa)<|au (av (eH m (fun x=>bW x v.o (m.g f 3)) (m.T.dI ((m.g f) 2))))<|oJ 1 (fun _ => .nilFunc) fun O w7 Mt xC s9 z5 => ?_;have⟨zT,BR,Bj,Ak,BF,DY,b9⟩:=kU s9.bP wE zh yS zi yI bw1 b8;have lg6:=gQ Mt b8.size;have⟨aCm,aCn,aCo,aCp,aCq,aCr,aCs,aCt,aCu,aCv⟩:=aaS Mt tO.lt sS.lt vW.lt yR.lt xZ.lt wE.lt zh.lt yS.lt zi.lt yI.lt;have tg6:=xC.lt;have kg6:w6.heap.size<=O:=(by rw[Mt]; exact bw1.b.size);refine jf xC 0 aa (h1:=ho1) fun w8 Et oP z6 => ?_;have Bt:aM w8 O 1 (fun _=>aa) 85:=eP Et;have jC:=gJ oP xC.ty;have⟨rO,tY,qz,qP,qQ⟩:=xu jC zT BR Bj Ak BF;have pV:=(⟨oP.below DY.b DY.b.size kg6⟩:Bw w6 _);have b10:=oP.below b9 b9.size (by omega);refine au (av (eH m (fun x=>bW x v.o (m.g f 3)) (m.T.dI ((m.g f) 2))))<|aC<|aQ<|ay<|au (av (eH m (fun x=>bW x v.o (m.g f 3)) (m.T.dI ((m.g f) 2)))) ?_;by_cases Y:(eH m (fun x=>bW x v.o (m.g f 3)) (m.T.dI ((m.g f) 2)))=0
   ·refine Lv aD (kr Y)<|aC<|aL<|Wk<|sN<|ay<|Lv (.func (.func 188) #[] #[(pt O),(pt K),(pt k),(pt n),(pt D),(pt l)]) (qp (us := []) (vs := [(pt O),(pt K),(pt k),(pt n),(pt D),(pt l)]) rfl rfl (atf rfl q1 q5 q2 rfl q6))<|au (.func (.func 188) #[] #[(pt O),(pt K),(pt k),(pt n),(pt D),(pt l)])<|au (av 0)<|aC<|Wr<|aK (.tuple #[.func (.func 188) #[] #[(pt O),(pt K),(pt k),(pt n),(pt D),(pt l)],av 0]) ?_;have J:iD m v.o v.of=f:=Dm h.g.inj P M N;have hD0:=hD1 Y;have hfe:=hD0.e;subst hfe;have em:jY m v=XH m (vL m (fun x=>bW x v.o (m.g f 3)) (m.T.dI (m.g f 2))).R v f:=(by unfold jY adX; rw[J]);rw[em];have C:lS m v=0:=by unfold lS; rw[b_ (show ¬ jX m v.o v.bK=true by unfold jX; rw[uI iN]; decide)]; rw[b_ (show ¬ (lH m v.o v.of=false\/m.g (iD m v.o v.of) 4≠0) by rw[J,show lH m v.o v.of=true from xQ P M N]; rintro (q|q) <;> first|(exact L_ q (by decide))|omega),J]; exact Y
    exact⟨⟨_,188,#[(pt O),(pt K),(pt k),(pt n),(pt D),(pt l)],by rw[C],rfl,fun _=>⟨rfl,⟨_,_,func188,rfl,rfl⟩,fun w2 F=>(adV m A B w2 ((h.up b10).up F) v hv hwf _ w5.heap.size w.heap.size _ (by omega) _ (hD0.up (Oj pV.b F)) f _ _ _ _ _ _ (Bt.cK (Sb F) (u_ Bt.lt)) (rO.cK (Sb F) (u_ rO.lt)) (qz.cK (Sb F) (u_ qz.lt)) (tY.cK (Sb F) (u_ tY.lt)) (qQ.cK (Sb F) (u_ qQ.lt)) (qP.cK (Sb F) (u_ qP.lt)) wX ⟨by omega,by omega,by omega,by omega,by omega⟩ iN P M N).mono fun _ _ hc=>⟨hc.1,hc.2.1,hc.2.2.mono fun _ hk=>hk⟩⟩⟩,b10⟩
   refine Lv aH (mO Y)<|aC<|aP<|ay<|au (av (eH m (fun x=>bW x v.o (m.g f 3)) (m.T.dI ((m.g f) 2))))<|au (.nilFunc)<|au (av (eH m (fun x=>bW x v.o (m.g f 3)) (m.T.dI ((m.g f) 2))))<|aC<|Wr<|sR<|aK (.tuple #[.nilFunc,av (eH m (fun x=>bW x v.o (m.g f 3)) (m.T.dI ((m.g f) 2)))]) ?_;have J:iD m v.o v.of=f:=Dm h.g.inj P M N;have C:lS m v=eH m (fun x=>bW x v.o (m.g f 3)) (m.T.dI ((m.g f) 2)):=by unfold lS; rw[b_ (show ¬ jX m v.o v.bK=true by unfold jX; rw[uI iN]; decide)]; rw[b_ (show ¬ (lH m v.o v.of=false\/m.g (iD m v.o v.of) 4≠0) by rw[J,show lH m v.o v.of=true from xQ P M N]; rintro (q|q) <;> first|(exact L_ q (by decide))|omega),J]
   exact⟨⟨.nilFunc,0,#[],by rw[C],rfl,fun L=>L_ (C.symm.trans L) (by first|decide|omega|assumption)⟩,b10⟩
  refine Lv aH (mO c42)<|au aH<|aC<|aP<|ay<|au (.nilFunc)<|au (av 12)<|aC<|Wr<|sR<|aK (.tuple #[.nilFunc,av 12]) ?_;have J:iD m v.o v.of=f:=Dm h.g.inj P M N;have C:lS m v=12:=by unfold lS; rw[b_ (show ¬ jX m v.o v.bK=true by unfold jX; rw[uI iN]; decide)]; exact d_ (.inr (by rw[J]; omega))
  exact⟨⟨.nilFunc,0,#[],by rw[C],rfl,fun L=>L_ (C.symm.trans L) (by first|decide|omega|assumption)⟩,b7⟩
 refine lI (v := .tuple #[.agg (aA 5 zR0),.bool false]) (by rfl) (by rfl) (mE _) (fun G u=>Zq (z := .agg (aA 5 zR0)) rfl rfl ((show ev _ _ = .agg (aA 2 (bJ (bJ zS0 0 1 (fun _=>av v.o)) 1 1 (fun _=>aG v.of)))from rfl).trans (Ea (y:=bJ (bJ zS0 0 1 (fun _=>av v.o)) 1 1 (fun _=>aG v.of)) (a:=v.o) (b:=v.of) (EZ (by omega) (vw (j:=0) (by omega) (by omega) rfl)) (vw (j:=0) (by omega) (by omega) rfl))) ac.2 (U.up u) underlying80 Ms (by kernel_rfl) alk) ?_;refine aS (.tuple #[.agg (aA 5 zR0),.bool false])<|aS (.agg (aA 5 zR0))<|aS aD<|mF<|oJ 5 zR0 fun g7 w9 Rh qA s11 z7 => ?_;have b11:=bL s11.bP X;have lg7:=gQ Rh X.size;have⟨aww,awx,awy,awz,awC,awD,awE,awF,awG⟩:=aaR Rh S.lt qM.lt qW.lt U.lt pR.lt V.lt qy.lt uF.lt W.lt;have tg7:=qA.lt;refine Ln ⟨s11.bP,?_⟩;refine jP<|dY qA 0 (h1:=(fun j hj=>by rcases j with _|_|_|_|_|_|_|_|_|_|_|_|_|_|j <;> first|rfl|omega)) fun uE oQ s12 z8 => ?_
 have wI:aM uE g7 5 zR0 96:=aO oQ;have b12:=s12.below b11 b11.size (by omega);refine Ln<|aS aD<|dJ<|aQ<|ay<|au aD<|au aH<|au aH<|bf<|bf<|bf<|au aH<|aC<|aP<|ay<|au (.nilFunc)<|au (av 12)<|aC<|Wr<|sR<|aK (.tuple #[.nilFunc,av 12]) ?_;have C:lS m v=12:=by unfold lS; rw[b_ (show ¬ jX m v.o v.bK=true by unfold jX; rw[uI iN]; decide)]; exact d_ (.inl (uI alk))
 exact⟨⟨.nilFunc,0,#[],by rw[C],rfl,fun L=>L_ (C.symm.trans L) (by first|decide|omega|assumption)⟩,b12⟩
namespace Rt
noncomputable def kL(m:fO)(v:dA):fO:=if v.aI=1 then Ij m v else if v.aI=2 then yZ m v else if v.aI=3 then nJ m v else if v.aI=4 then jY m v else if v.aI=5 then Ig m v else if v.aI=6 then NA m v else GL m v
def ig(m:fO)(v:dA):Int:=if v.aI=1 then kX m v else if v.aI=2 then mD m v else if v.aI=3 then mQ m v else if v.aI=4 then lS m v else if v.aI=5 then nI m v else if v.aI=6 then 0 else 0
def eT(m:fO)(v:dA):Int:=if dG v=false then 1 else if qG m.aF v=true then 14 else if fq m.aF v=false then 13 else if m.dF (aX v)=false\/m.left (aX v)=true then 10 else ig m v
structure QlK(m:fO):Prop where
 own : ∀ a,a<6->0<=m.own a/\m.own a<=1000
 row : ∀ i,i<m.T.n -> ∀ p,p<54->0<=m.R i p/\m.R i p<=1125899906842624
 ga:ZG m
 kn:J4 m.aF
def kfn(k:Nat):Nat:=if k=1 then 170 else if k=2 then 171 else if k=3 then 172 else if k=4 then 173 else if k=5 then 174 else if k=6 then 175 else 176
def Vo:Nat->Value:=fun p=>if p=0 then .nilFunc else .func (.func (kfn p)) #[] #[]
theorem aiw(h:1<=m):Vo m = .func (.func (kfn m)) #[] #[]:=b_
end Rt
theorem atl  (h1 : 1 ≤ k) (b : k ≤ 7) : ∃ a c, prog.funcs[kfn k]? = some a ∧ (a.name == "runtime.NumGoroutine") = false ∧ a.body = some c := by
 rcases(show k=1\/k=2\/k=3\/k=4\/k=5\/k=6\/k=7 by omega)with rfl|rfl|rfl|rfl|rfl|rfl|rfl
 ·exact⟨_,_,func170,rfl,rfl⟩
 ·exact⟨_,_,func171,rfl,rfl⟩
 ·exact⟨_,_,func172,rfl,rfl⟩
 ·exact⟨_,_,func173,rfl,rfl⟩
 ·exact⟨_,_,func174,rfl,rfl⟩
 ·exact⟨_,_,func175,rfl,rfl⟩
 exact⟨_,_,func176,rfl,rfl⟩
theorem Ap.low{w g:fO}{cap:Array Value}(d:Ap c m k w g b h A cap)(i:j<=b):Ap c m k w g j h A cap := { d with s:=fun n f=>(d.s n f).mono fun _ _ a=>⟨a.1,a.2.1,a.2.2.mono fun B l=>l.imp id (m_ i)⟩ }
theorem aix(m:fO)(a B:Nat)(w:World)(h:pF w B a m)(v:dA)(d:dG v=true)(f:jB v)(e:QlK m)(k:Nat)(l:v.aI=(k:Int))(j:1<=k/\k<=7) :
 Calls prog (kfn k) #[(pt a),.agg (aA 14 (dH v))] w (yD w B a m (kL m v) (ig m v)):=by
 rcases(show k=1\/k=2\/k=3\/k=4\/k=5\/k=6\/k=7 by omega)with rfl|rfl|rfl|rfl|rfl|rfl|rfl
 ·have c:v.aI=1:=by omega
  rw[show kL m v=Ij m v by grind [kL],show ig m v=kX m v by grind [ig]];exact air _ _ _ _ h _ d e.own
 ·have c:v.aI=2:=by omega
  rw[show kL m v=yZ m v by grind [kL],show ig m v=mD m v by grind [ig]];exact ady m a B w h v d c e.row
 ·have c:v.aI=3:=by omega
  rw[show kL m v=nJ m v by grind [kL],show ig m v=mQ m v by grind [ig]];exact aiu m a B w h v d f e.ga
 ·have c:v.aI=4:=by omega
  rw[show kL m v=jY m v by grind [kL],show ig m v=lS m v by grind [ig]];exact aiv m a B w h v d f
 ·have c:v.aI=5:=by omega
  rw[show kL m v=Ig m v by grind [kL],show ig m v=nI m v by grind [ig]];exact aic m a B w h v d c
 ·have c:v.aI=6:=by omega
  rw[show kL m v=NA m v by grind [kL],show ig m v=0 by grind [ig]];obtain⟨b,g,i⟩:=M9 d c;exact aie m a B w h v d b g i
 have c:v.aI=7:=by omega
 rw[show kL m v=GL m v by grind [kL],show ig m v=0 by grind [ig]];exact adC m a B w h v d
theorem aiy(m:fO)(b B:Nat)(w:World)(h:pF w B b m)(v:dA)(n:jB v)(R:QlK m)(hB:1<=B)(N:jM w 0 0 8 Vo) :
 Calls prog 23 #[(pt b),.agg (aA 14 (dH v))] w fun e w'=>yD w B b m (kL m v) (eT m v) e w':=by
 have M:=h.c;have hP:=h.p;have hR:=h.r;have hG:=h.g;have hA:=h.a;have lA:=h.a.lt;obtain⟨s,Q⟩ : ∃ s:Nat,v.aI=(s:Int):=⟨v.aI.toNat,by have:=n.aI; omega⟩;have O:Kr m.aF:=fun i hi=>by have:=R.kn i hi; exact⟨by omega,by omega⟩
 refine bX func23 55 ?_;refine ay<|oq fun y w1 A F s1 z1 => ?_;have⟨m2,m8,H⟩:=iP s1.bP M N (Below.refl w.heap.size w);have tJ:=iy A;have⟨rJ,Ed,Bo,FU,DX⟩:=Du A M.lt hP.lt hR.lt hG.lt hA.lt;have QO:0≠y:=by rw[A]; exact u_ (N.lt (by omega))
 have vB:=F.lt;refine au (.nilFunc)<|au (av 0)<|aC<|aQ<|Wb<|ay<|au (pt b)<|Lv aD (CU rfl rfl rfl (by kernel_rfl))<|au aD<|aC<|aL<|ay<|Lv (.agg (aA 14 (dH v))) (dZ F.aJ 0) ?_;by_cases k:(dG v)=true
 ·have D:dG v=true:=k;obtain⟨a,ha,ho⟩ : ∃ a:Nat,a<6/\v.o=(a:Int)+1:=gY (kM D);have E:aX v=a:=by unfold aX; omega
  have hkr:=lD D;refine dO (Ny v _ n) aH (by rw[k]) ?_;intro w2 hb1;have⟨m9,m15,m16,b2⟩:=jv hb1 m2 m8 F H;refine au aD<|au aD<|aC<|aL<|aQ ?_;refine nP [0,1,2,3,4,5,6] [0,0,0,4,4,3,0] [(5,3,[3]),(5,4,[4]),(6,5,[5])] fun qN eX iM => ?_;have⟨S,m23,T,I⟩:=jv eX m9 m15 m16 b2;refine aS (pt b)<|aS (pt b)<|aS (pf b 12)<|Rs (.agg (aA 6 (rv .u64 m.aF))) (dZ S.aJ 12 (fun j hj=>Dk (p:=j) (by omega) (by omega))) ?_;refine Rs (.agg (aA 14 (dH v))) (dZ T.aJ 0) ?_;refine jP ?_;by_cases l:(qG m.aF v)=true
  ·refine dO (adv m.aF v _ n) aH (by rw[l]) ?_;intro w3 hb2;have b4:=bL hb2 I;refine Ln<|aS aH<|dJ<|aP<|ay<|au (.nilFunc)<|au (av 14)<|aC<|Wr<|bO<|sR<|aK (.tuple #[.nilFunc,av 14]) ?_;have d:eT m v=14:=(by unfold eT; rw[b_ (by rw[k]; decide)]; exact d_ l);exact⟨⟨.nilFunc,0,#[],by rw[d],rfl,fun f=>L_ (d.symm.trans f) (by first|decide|omega|assumption)⟩,b4⟩
  rw[R_]at l;refine dO (adv m.aF v _ n) aD (by rw[l]) ?_;intro w4 hb3;have⟨oD,qW,vk,b5⟩:=jv hb3 S m23 T I;refine Ln<|aS aD<|dJ<|aL<|aQ ?_;refine nP [0,1,2,3,4,5,6,7] [0,0,0,4,4,3,0,0] [(5,3,[3]),(5,4,[4]),(6,5,[5]),(7,5,[5])] fun Fu iZ rM => ?_;have⟨U,tK,V,J⟩:=jv iZ oD qW vk b5;refine aS (pt b)<|aS (pt b)<|aS (pf b 12)<|Rs (.agg (aA 6 (rv .u64 m.aF))) (dZ U.aJ 12 (fun j hj=>Dk (p:=j) (by omega) (by omega))) ?_;refine Rs (.agg (aA 14 (dH v))) (dZ V.aJ 0) ?_;refine jP ?_;by_cases q:(fq m.aF v)=true
  ·refine dO (Xz m.aF v _ n O) aH (by rw[q]) ?_;intro w5 hb4;have⟨uN,wC,vU,b7⟩:=jv hb4 U tK V J;refine Ln<|aS aD<|aS aD<|dJ<|aL<|aQ<|aQ ?_;refine nP [0,1,4,5,2,3,6,7,8,9] [0,0,4,0,0,0,0,4,0,0] [] fun MU mZ DZ => ?_;have⟨G,vV,W,K⟩:=jv mZ uN wC vU b7;refine aS (pt b)<|aS (pt y)<|aS (pt b)<|aS (pt b)<|Rs (av v.o) (aR W.aJ 0) ?_;refine Rp (av a) (fun _=>jK)<|Rp (pf b a) (fun _=>jh 6 1) ?_;by_cases u:(m.dF a)=true
   ·refine Rs aH (aR G.aJ a ((KL (by omega)).trans (K_ Value.bool u))) ?_;refine aS aD<|aS aD<|dJ<|aL ?_;refine nP [0,1,4,5,2,3,6,7,8] [0,0,4,0,0,0,0,4,0] [] fun wZ oF Fv => ?_;have⟨X,qg,Y,L⟩:=jv oF G vV W K;refine aS (pt b)<|aS (pt y)<|aS (pt b)<|aS (pf b 6)<|Rs (av v.o) (aR Y.aJ 0) ?_;refine Rp (av a) (fun _=>jK)<|Rp (pf b (a+6)) (fun _=>jh 6 1) ?_;by_cases x:(m.left a)=true
    ·refine Rs aH (aR X.aJ (a+6) ((KM (p:=a) (by omega) (by omega)).trans (K_ Value.bool x))) ?_;refine aS aH<|dJ<|aP<|ay<|au (.nilFunc)<|au (av 10)<|aC<|Wr<|bO<|sR<|aK (.tuple #[.nilFunc,av 10]) ?_;have d:eT m v=10:=(by unfold eT; rw[b_ (by rw[k]; decide)]; rw[b_ (by rw[l]; decide)]; rw[b_ (by rw[q]; decide)]; exact d_ (.inr (by rw[E]; exact x)));exact⟨⟨.nilFunc,0,#[],by rw[d],rfl,fun f=>L_ (d.symm.trans f) (by first|decide|omega|assumption)⟩,L⟩
    rw[R_]at x;refine Rs aD (aR X.aJ (a+6) ((KM (p:=a) (by omega) (by omega)).trans (K_ Value.bool x))) ?_;refine aS aD<|dJ<|aL<|Wk<|bS<|sN<|aQ ?_;refine nP [0,4,1,2,3,5,6,7,8,9,10] [0,4,0,4,0,4,3,0,0,0,0] [(6,1,[3,2,1]),(6,3,[3]),(6,5,[5]),(7,6,[6]),(8,6,[6]),(9,6,[6]),(10,6,[6])] fun wt5 sU MV => ?_;have⟨zi,Z,z⟩:=iP sU qg Y L;refine aS (pf y 8)<|aS (pt b)<|Rs (.int .u8 (s:Int)) (aR Z.aJ 8 (K_ (Value.int IntKind.u8) Q)) ?_;refine Rp (pf 0 s) (fun _=>jh 8 1)<|Rs (.func (.func (kfn s)) #[] #[]) (aR zi s (aiw (by omega))) ?_;refine Rs (.agg (aA 14 (dH v))) (dZ Z.aJ 0) ?_;refine jP<|zW (by rfl) (Xu (args := [(pt b),.agg (aA 14 (dH v))]) rfl rfl rfl (by rfl) (atl (by omega) (by omega))) rfl<|(aix m b B _ (h.up z) v D n R s Q (by omega)).mono ?_;rintro e9 w6 ⟨⟨C,fi1,sK,P,ho1,hD1⟩,hb5⟩;refine⟨_,P,?_⟩;clear P;have aa:=bL hb5 z;refine Ln<|aS (C)<|aS (av (ig m v))<|aS (C)<|aS (av (ig m v))<|dJ<|Wr<|aK (.tuple #[C,av (ig m v)]) ?_;have d:eT m v=ig m v:=(by unfold eT; rw[b_ (by rw[k]; decide)]; rw[b_ (by rw[l]; decide)]; rw[b_ (by rw[q]; decide)]; exact b_ (by rw[E,u,x]; decide));exact⟨⟨_,_,_,by rw[d],ho1,fun f=>(hD1 (d.symm.trans f)).low z.size⟩,aa⟩
   rw[R_]at u;refine Rs aD (aR G.aJ a ((KL (by omega)).trans (K_ Value.bool u))) ?_;refine aS aH<|aS aH<|dJ<|aP<|Wk<|sN<|aP<|ay<|au (.nilFunc)<|au (av 10)<|aC<|Wr<|bO<|sR<|aK (.tuple #[.nilFunc,av 10]) ?_;have d:eT m v=10:=(by unfold eT; rw[b_ (by rw[k]; decide)]; rw[b_ (by rw[l]; decide)]; rw[b_ (by rw[q]; decide)]; exact d_ (.inl (by rw[E]; exact u)));exact⟨⟨.nilFunc,0,#[],by rw[d],rfl,fun f=>L_ (d.symm.trans f) (by first|decide|omega|assumption)⟩,K⟩
  rw[R_]at q;refine dO (Xz m.aF v _ n O) aD (by rw[q]) ?_;intro w7 hb6;have ab:=bL hb6 J;refine Ln<|aS aH<|aS aH<|dJ<|aP<|ay<|au (.nilFunc)<|au (av 13)<|aC<|Wr<|bO<|sR<|aK (.tuple #[.nilFunc,av 13]) ?_;have d:eT m v=13:=by unfold eT; rw[b_ (by rw[k]; decide)]; rw[b_ (by rw[l]; decide)]; exact d_ q
  exact⟨⟨.nilFunc,0,#[],by rw[d],rfl,fun f=>L_ (d.symm.trans f) (by first|decide|omega|assumption)⟩,ab⟩
 rw[R_]at k;refine dO (Ny v _ n) aD (by rw[k]) ?_;intro w8 M8;have ac:=bL M8 H;refine au aH<|au aH<|aC<|aP<|ay<|au (.nilFunc)<|au (av 1)<|aC<|Wr<|bO<|sR<|aK (.tuple #[.nilFunc,av 1]) ?_;have d:eT m v=1:=by unfold eT; exact d_ k
 exact⟨⟨.nilFunc,0,#[],by rw[d],rfl,fun f=>L_ (d.symm.trans f) (by first|decide|omega|assumption)⟩,ac⟩
namespace Rt
noncomputable def mI(m:fO)(v:dA):fO:=if eT m v=0 then { kL m v with aF:=aN (kL m v).aF (aX v) ((kL m v).aF (aX v)+1) } else m
theorem Sc(m:fO)(v:dA):(kL m v).aF=m.aF:=by
 unfold kL
 repeat (first|rfl|split)
def NK:Nat->Int:=fun _=>0
def bQ(m:fO)(k:Int):Nat->Int:=if m.T.has k=true then Jw m k else NK
end Rt
theorem pF.aF{w:World}{d:fO}(h:pF w k m d)(f:eG m w q)(e:aM q m 29 (zN { d with aF:=X }) 84):pF q k m { d with aF:=X }:=by
 have b:=gJ f h.c.ty;exact { c:=e,t:=h.t.nA b (by decide),p:=h.p.nA b trivial,r:=h.r.nA b trivial,g:=h.g.nA b trivial,a:=h.a.nA b trivial,ne:=⟨h.ne.mp,h.ne.mr,h.ne.mg,h.ne.ma,h.ne.pr,h.ne.pg,h.ne.pa,h.ne.rg,h.ne.ra,h.ne.ga⟩,lB:=h.lB,pB:=h.pB,rB:=h.rB,gB:=h.gB,aB:=h.aB }
theorem uY{m:fO}{v:dA}(h:eT m v=0):dG v=true:=by
 cases hc:dG v with
 | true=>rfl
 | false=>unfold eT at h; rw[d_ hc]at h; cases h
theorem uZ{m:fO}{v:dA}(h:eT m v=0):v.seq=m.aF (aX v)+1/\ig m v=0/\m.dF (aX v)=true/\m.left (aX v)=false:=by
 have d:=uY h;unfold eT at h;rw[b_ (by rw[d]; decide)]at h;by_cases c:qG m.aF v=true
 ·rw[d_ c]at h; cases h
 rw[b_ c]at h;by_cases a:fq m.aF v=false
 ·rw[d_ a]at h; cases h
 rw[b_ a]at h;by_cases b:m.dF (aX v)=false\/m.left (aX v)=true
 ·rw[d_ b]at h; cases h
 rw[b_ b]at h;refine⟨?_,h,?_,?_⟩
 ·have a:fq m.aF v=true:=by cases e:fq m.aF v with|true=>rfl|false=>exact L_ e a
  unfold fq at a;simp only[Q_,O_]at a;exact a.1.2
 ·cases e:m.dF (aX v)with|true=>rfl|false=>exact L_ (.inl e) b
 cases e:m.left (aX v)with|false=>rfl|true=>exact L_ (.inr e) b
theorem aiz(m:fO)(b B:Nat)(w:World)(h:pF w B b m)(v:dA)(hwf:jB v)(M:QlK m)(Z:1<=B)(I:jM w 0 0 8 Vo) :
 Calls prog 9 #[(pt b),.agg (aA 14 (dH v))] w fun e w'=>e = .returned (av (eT m v))/\pF w' B b (mI m v)/\ko (Ao m b w.heap.size) w w':=by
 have F:=h.c;have hP:=h.p;have hR:=h.r;have hG:=h.g;have Y:=h.a;have lA:=h.a.lt;refine bX func9 30 ?_;refine ay<|oq fun E w1 x D s1 z1 => ?_;have⟨d,m8,l⟩:=iP s1.bP F I (Below.refl w.heap.size w);have tJ:=iy x;have⟨rJ,Ed,Bo,FU,DX⟩:=Du x F.lt hP.lt hR.lt hG.lt Y.lt;have QO:0≠E:=by rw[x]; exact u_ (I.lt (by omega))
 have vB:=D.lt;refine au (av 0)<|aC<|ay<|au (pt b)<|Lv (.agg (aA 14 (dH v))) (dZ D.aJ 0)<|lX (aiy m b B _ (h.up l) v hwf M Z m8) ?_;rintro V w2 ⟨⟨z,X,U,j,ho1,aa⟩,hb1⟩;refine⟨_,j,?_⟩;clear j;have⟨O,n⟩:=fB hb1 D l;refine au (.tuple #[z,av (eT m v)])<|au (z)<|au (av (eT m v))<|au (z)<|au (av (eT m v))<|aC<|aQ<|ay<|au (av (eT m v)) ?_;by_cases i:(eT m v)=0
 ·refine Lv aD (kr i)<|aC<|aL<|Wk<|sN<|aQ ?_;have A:=aa i;have hfe:=A.e;subst hfe;refine Wl<|au (.func (.func X) #[] U)<|zW (by rfl) (Xu (args := []) rfl rfl rfl (by simp) A.f) rfl<|(A.s _ (Below.refl _ _)).mono ?_;rintro V u ⟨j,C,G⟩;refine⟨_,j,?_⟩;clear j;have J:ko (Ao m b w.heap.size) w u:=(Fx.ko.jr n) |> fun q=>Fx.ko.trans _ _ _ q (G.mono fun k hk=>hk.imp id (m_ l.size));obtain⟨d,y⟩ : ∃ q,q=kL m v:=⟨_,rfl⟩;rw[<- y]at C;have W:d.aF=m.aF:=by rw[y,Sc]
  have H:=C.c;have lC2:=H.lt;have hkb:=(uZ i).1;have N:=uY i;obtain⟨a,K,ho⟩ : ∃ a:Nat,a<6/\v.o=(a:Int)+1:=gY (kM N);have hra:aX v=a:=by unfold aX; omega
  have hbd:=rR N;have hka:=M.kn a K;have P:=(h.up n).Pv (w':=u) (O) (by decide) G (by have:=O.lt; have:=l.size; omega);have aHT:=P.lt;refine aC<|aQ ?_;refine nP [0,1,4,5,9,10,2,3,6,7,8,11,12] [0,0,4,0,0,0,0,4,0,0,0,0,3] [(12,2,[2]),(12,7,[7])] fun qN L iM => ?_;have s3:eG u.heap.size u qN:=Sb L;have⟨Q,m19,m20⟩:=iP L H C P;have S:=J.then s3 (.inr J.size);refine aS (pt b)<|aS (pt E)<|aS (pt b)<|aS (pf b 12)<|aS (pt b)<|aS (pf b 12)<|Rs (av v.o) (aR m20.aJ 0) ?_;refine Rp (av a) (fun _=>jK)<|Rp (pf b (a+12)) (fun _=>jh 6 1)<|Rs (aG (d.aF a)) (aR Q.aJ (a+12) (Dk (p:=a) (by omega) (by omega))) ?_;refine Rp (aG (d.aF a+1)) (fun v1=>aax rfl rfl rfl (jO (by rw[W]; omega) rfl))<|Rp (pf b (a+12)) (fun _=>jh 6 1)<|jP<|jf Q (a+12) (aG (d.aF a+1)) fun w4 mG R z2 => ?_;have m22:aM w4 b 29 (zN { d with aF:=aN d.aF a (d.aF a+1) }) 84:=mG.to (Zz K (by omega) _);have T:=S.then R (.inl (.inl (.inl rfl)));refine Ln (dJ (ay (au (av 0) (aC (Wr (aK (av 0) (⟨by rw[i],?_,T⟩)))))));rw[show mI m v = { d with aF:=aN d.aF a (d.aF a+1) } by unfold mI; rw[d_ i,<- y,hra]];exact m19.aF R m22
 refine Lv aH (mO i) (aC (aP (ay (au (av (eT m v)) (au (av (eT m v)) (aC (Wr (sR (aK (av (eT m v)) (⟨rfl,?_,Fx.ko.jr n⟩))))))))));rw[show mI m v=m by unfold mI; exact b_ i]; exact h.up n
namespace Rt
def Cr(k f c d e b a:Nat):fO := { dF:=fun i=>decide (i<k),left:=fun _=>false,aF:=fun _=>0,own:=fun _=>0,T:=fD.zero,R:=fun _ _=>0,gn:=0,g:=fun _ _=>0,an:=0,ao:=fun _=>0,ar:=fun _=>0,tp:=f,mb:=c,pb:=d,rb:=e,gb:=b,ab:=a }
end Rt
theorem aea(k g c d f b a:Nat)(h:k<6):dN (zN (Cr k g c d f b a)) k (.bool true)=zN (Cr (k+1) g c d f b a):=by
 rw[adj h];have:aN (Cr k g c d f b a).dF k true=(Cr (k+1) g c d f b a).dF:=by
  funext i
  show(if i=k then true else decide (i<k))=decide (i<k+1);by_cases e:i=k
  ·subst e; rw[d_ rfl]; exact(f_).symm
  ·rw[b_ e]; exact decide_eq_decide.2 (by omega)
 show zN { Cr k g c d f b a with dF:=_ }=_;rw[this]; rfl
theorem atm(k:Nat)(hk:1<=k/\k<=6)(w:World) :
 Calls prog 7 #[av (k:Int)] w fun e w' => ∃ W m,e = .returned (.tuple #[(pt W),av 0])/\(∃ tp mb pb rb gb ab,m=Cr k tp mb pb rb gb ab)/\pF w' w.heap.size W m/\Below w.heap.size w w':=by
 refine bX func7 30 ?_;refine ay<|au (.pointer none)<|au (av 0)<|aC<|aQ<|ay<|au (av k)<|Lv aD DV<|au aD<|au (av k)<|Lv aD Fb<|au aD<|aC<|aL<|Wk<|sN<|ay<|lX (akX _) ?_;rintro e9 w1 ⟨n,x,V,hg1,X,hb1⟩;refine⟨_,V,?_⟩;clear V;have J:=bL hb1 (Below.refl w.heap.size w);have m2:=X.Mr (Below.refl w.heap.size w).size;clear X hg1;refine Fx.L.Nq (by rfl) rfl rfl fun o w2 Q G s2 z1 =>have⟨m4,K⟩:=fB s2.bP m2 J;have tJ:=gQ Q J.size;have aoN:=gD Q m2.lt;have vB:=G.lt;Fx.L.Nq (by rfl) rfl rfl fun q w3 R H s3 z2 =>have⟨m6,m7,M⟩:=iP s3.bP m4 G K;have xw:=gQ R K.size;have⟨aoO,abE⟩:=oM R m4.lt G.lt;have zR:=H.lt;Fx.L.acI (by rfl) rfl rfl fun s w4 S I s4 z3 =>have⟨m9,Y,Z,N⟩:=jv s4.bP m6 m7 H M;have Gc:=gQ S M.size;have⟨aoP,aeb,adY⟩:=El S m6.lt m7.lt H.lt;have Gr:=I.lt;Fx.L.acI (by rfl) rfl rfl fun u w5 T E s5 z4 =>have⟨m13,aa,ac,ad,O⟩:=oK s5.bP m9 Y Z I N;have Uw:=gQ T N.size;have⟨aoQ,aoM,adZ,aoR⟩:=J2 T m9.lt Y.lt Z.lt I.lt;have TR:=E.lt;au (.agg (aA 29 (bJ (bJ (bJ (bJ (bJ (fun d=>if d<12 then .bool false else if d<18 then aG 0 else if d<19 then .pointer none else if d<21 then .map none else if d<27 then av 0 else .map none) 18 1 (fun _=>(pt n))) 19 1 (fun _ => .map (some o))) 20 1 (fun _ => .map (some q))) 27 1 (fun _ => .map (some s))) 28 1 (fun _ => .map (some u)))))<|Ga (m:=29) (y:=bJ (bJ (bJ (bJ (bJ (fun d=>if d<12 then .bool false else if d<18 then aG 0 else if d<19 then .pointer none else if d<21 then .map none else if d<27 then av 0 else .map none) 18 1 (fun _=>(pt n))) 19 1 (fun _ => .map (some o))) 20 1 (fun _ => .map (some q))) 27 1 (fun _ => .map (some s))) 28 1 (fun _ => .map (some u))) (by rfl) rfl rfl (bM _ _) rfl fun b w6 U ae s6 z5 => ?_;have⟨m18,m19,m20,mG,m22,b6⟩:=oL s6.bP m13 aa ac ad E O;have wX:=gQ U O.size;have⟨aCw,aCx,aCy,aCz⟩:=J2 U aa.lt ac.lt ad.lt E.lt;have l:QlN (Cr 0 n x o q s u):=⟨aoN,aoO,aoP,aoQ,by assumption,by assumption,by assumption,by assumption,by assumption,by assumption⟩;have m23:=ae.congr (fun j hj=>match j,hj with|0,_=>rfl|1,_=>rfl|2,_=>rfl|3,_=>rfl|4,_=>rfl|5,_=>rfl|6,_=>rfl|7,_=>rfl|8,_=>rfl|9,_=>rfl|10,_=>rfl|11,_=>rfl|12,_=>rfl|13,_=>rfl|14,_=>rfl|15,_=>rfl|16,_=>rfl|17,_=>rfl|18,_=>rfl|19,_=>rfl|20,_=>rfl|21,_=>rfl|22,_=>rfl|23,_=>rfl|24,_=>rfl|25,_=>rfl|26,_=>rfl|27,_=>rfl|28,_=>rfl|j+29,h=>L_ h (by omega))
 refine au (pt b)<|aC<|aQ<|ay<|au (av k)<|au (av 0)<|aC<|Wb<|Wo (fun f z => ∃ i:Nat,i<=k/\f 4=(pt b)/\f 19=av (k:Int)/\f 20=av (i:Int)/\xM z (w.heap.size) n x fD.zero/\Mp z o 0 (fun _=>0) (fun _ => .pointer none)/\Mp z q 0 (fun _=>0) (fun _ => .pointer none)/\jV z s 0 (fun _=>0) (fun _=>0) (fun _ => .pointer none)/\jV z u 0 (fun _=>0) (fun _=>0) (fun _ => .pointer none)/\aM z b 29 (zN (Cr i n x o q s u)) 84/\Below w.heap.size w z) (fun f _=>((k:Int)-intOf (f 20)).toNat) ⟨0,(by omega),(by rfl),ic,ic,m18,m19,m20,mG,m22,m23,b6⟩ ?_;rintro f1 w7 ⟨i,v,C,D,A,m24,mU,pK,pO,om,F,B⟩;refine ay ?_;by_cases P:(i:Int)<(k:Int)
 ·refine Lv aH (fK P (hx:=A) (hy:=D))<|aC<|aQ<|aP<|Wk<|sN<|aQ<|Wb<|ay<|bA A<|au (av i)<|aC<|Wl<|bA C<|au (av i)<|au (pt b)<|au (pt b)<|Lv (pf b i) (jh 6 1)<|jf F i aH fun w8 qV s7 z6 =>have mY:aM w8 b 29 (zN (Cr (i+1) n x o q s u)) 84:=qV.to (aea i _ _ _ _ _ _ (by omega));have gT:=gJ s7 F.ty;have⟨m32,oD,pz,pQ,rE⟩:=xu gT m24 mU pK pO om;have b8:=s7.below B B.size (by omega);Ln<|bS<|sN<|Wl<|Lv (av ((i:Int)+1)) (gu (hx:=A))<|au (av ((i:Int)+1))<|Ln<|iA ⟨i+1,(by omega),C,(D.trans ic),ic,m32,oD,pz,pQ,rE,mY,b8⟩ ?_;show((k:Int)-intOf (av ((i:Int)+1))).toNat<_;simp only[A,intOf]; omega
 refine Lv aD (fM P (hx:=A) (hy:=D))<|aC<|aQ<|aL<|Wx<|cZ<|iC<|dB<|sN<|ay<|bA C<|au (pt b)<|au (av 0)<|aC<|Wr<|aK (.tuple #[(pt b),av 0]) ?_;have eik:i=k:=by omega
 subst eik;exact⟨b,Cr i n x o q s u,rfl,⟨_,_,_,_,_,_,rfl⟩,{ c:=F,t:=m24,p:=mU.qU fun i v=>L_ v (z_ _),r:=pK.qU fun i v=>L_ v (z_ _),g:=pO.qU fun i v=>L_ v (z_ _),a:=om.qU fun i v=>L_ v (z_ _),ne:=⟨l.mp,l.mr,l.mg,l.ma,l.pr,l.pg,l.pa,l.rg,l.ra,l.ga⟩,lB:=wX,pB:=tJ,rB:=xw,gB:=Gc,aB:=Uw },B⟩
end Go.Proofs.YtabjalhnkndjaaaGreatDoor
namespace Go.Proofs.YtabjalhnkndjaaaGreatDoor.Fx
open Go.RowKit Go.Shelf Go.Sort Go.Lib
def nu(a b:Int):Int:=if a<b then -1 else if b<a then 1 else 0
theorem XI(a b:Int):nu a b<0<->a<b:=by
 unfold nu;split
 ·simp_all
 split <;> simp_all
theorem aiA{c:Type}(ky:c->Int):SWO (ltOf fun x y=>nu (ky x) (ky y)):=by
 have e : ∀ x y,(ltOf fun x y=>nu (ky x) (ky y)) x y=decide (ky x<ky y):=fun x y=>by
  unfold ltOf;exact decide_eq_decide.2 (XI _ _)
 refine⟨fun x => ?_,fun x y z a b => ?_,fun x y z a b => ?_⟩ <;> simp only[e,decide_eq_true_eq,decide_eq_false_iff_not]at * <;> omega
end Go.Proofs.YtabjalhnkndjaaaGreatDoor.Fx
namespace Go.Proofs.YtabjalhnkndjaaaGreatDoor.Fx
open Go.RowKit Go.Shelf Go.Sort Go.Lib
theorem Sd{N:Nat}(a:Array Value)(os:Array Obj)(h:aY c A E b (.slice (some ⟨k,0,none⟩) m j) m x)(i:a.size=m*b) :
 aY (sortWorld id c k 0 N a os) A E b (.slice (some ⟨k,0,none⟩) m j) m (fun q=>a[q]!)/\eG k c (sortWorld id c k 0 N a os):=by
 rcases h.2 with ⟨s,_⟩|⟨g',cap',cur,s,hB,hg,hn,hm,hs,ht⟩
 ·cases s
 simp only[Value.slice.injEq,Option.some.injEq,Addr.mk.injEq]at s;obtain⟨⟨rfl,_⟩,_,rfl⟩:=s;have e:=(t_.1 hg).1;have f:(sortWorld id c k 0 N a os).heap=(c.heap.modify k (onCells (putCells id 0 a)))++os:=rfl;have w : ∀ g,g<c.heap.size->(sortWorld id c k 0 N a os).heap[g]? = (c.heap.modify k (onCells (putCells id 0 a)))[g]? := fun g d=>by
  grind
 have cap:m*b<=j*b:=Nat.mul_le_mul_right b hn;refine⟨⟨by simp,.inr ⟨k,j,putCells id 0 a cur,rfl,hB,?_,hn,hm,?_,?_⟩⟩,⟨rfl,rfl,rfl,by simp_all,fun g d l => ?_⟩⟩
 ·rw[w k e,Array.getElem?_modify,d_ rfl,hg]; rfl
 ·simp[putCells,hs]
 ·apply List.ext_getElem?
  grind [putCells]
 grind
theorem Vp(d:Array Value)(h:aY c j E b (.slice (some ⟨k,0,none⟩) m A) m x)(n:d.size=m*b)(hx : ∀ q,q<m*b->x q=d[q]!)(f:0<m) :
 Holds id c k 0 d/\k<c.heap.size:=by
 obtain⟨g,i,e,_,w,_,s⟩:=h.form f
 rcases h.2 with ⟨a,_⟩|⟨g2,cap2,cur,a,hB,hg,hn,hm,hs,ht⟩
 ·omega
 simp only[Value.slice.injEq,Option.some.injEq,Addr.mk.injEq]at a e;obtain⟨⟨rfl,_⟩,_,rfl⟩:=a;obtain⟨⟨rfl,_⟩,_,rfl⟩:=e;refine⟨fun B o=>⟨?_,?_⟩,w⟩
 ·have l:=s B (by omega)
  simp_all
 grind [World.frozen?]
theorem NM{a:Type} [Inhabited a]{enc:a->Nat->Value}{e0:a}{l:List a}(f:0<m) : ∀ q,q<l.length*m->dn m (fun k=>enc (l.getD k e0)) q=(Go.Sort.flatK (fun x=>(List.range m).map (enc x)) m l.toArray)[q]! := fun q b=>by
 have d:=Nat.div_lt_of_lt_mul (by rw[Nat.mul_comm]; exact b);have e:q % m<m:=I_ _ f;rw[Go.Sort.get_flatK _ _ _ q (by simpa using b)];unfold dn;have c:l.toArray[q / m]! = l.getD (q / m) e0:=by simp[d]
 rw[c];simp[e]
theorem aec{P:Program}{ρ:Ren}(C:SlLaysF0.n6 P ρ)(M : ∀ D c,(callFunc m D).run P c = .ok (.enter m D) c)(H:0<k)
 (K : ∀ c,(isAgg (ρ.t 24)).run P c = .ok true c) (zE : ∀ c,(Go.sizeOf (ρ.t 24)).run P c = .ok k c) {d:Type} [Inhabited d] {enc:d->Nat->Value} {e0:d} (h1 : ∀ x B,B<k->(enc x B).oneCell'=true) {ky:d->Int} {l:List d}
 (h:aY c j E k (.slice U l.length b) l.length (dn k fun q=>enc (l.getD q e0)))
 (R : ∀ J x y,Calls P m #[.agg (aA k (enc x)),.agg (aA k (enc y))] J fun e w'=>e = .returned (.int .i64 (nu (ky x) (ky y))) /\ ∃ q aa,w'=grow (J.drewN q) aa) (hm:l.length<4611686018427387904) :
 Calls P (ρ.f 6) #[.slice U l.length b,.func (.func m) #[] #[]] c fun e w'=>e = .returned (.tuple #[]) /\ ∃ z:List d,z.Perm l/\z.Pairwise (fun x y=>ky x<=ky y)/\aY w' j E k (.slice U l.length b) l.length (dn k fun q=>enc (z.getD q e0))/\(∀ s,s<c.heap.size->(Value.slice U l.length b).ownBlock≠some s->w'.heap[s]? = c.heap[s]?)/\jk [E] c w'/\Below j c w':=by
 by_cases O:l.length=0
 ·have r:=List.length_eq_zero_iff.1 O;subst r;refine(AnyF.slices_SortFunc_none C U b _ c).mono ?_
  simp_all [vS,Below.refl]
 obtain⟨g,c2,n,hB,hg,hmc,_⟩:=h.form;simp only[Value.slice.injEq]at n;obtain⟨rfl,_,rfl⟩:=n;have o : ∀ x,((fun x=>(List.range k).map (enc x)) x).length=k:=fun x=>by simp
 have W:(Go.Sort.flatK (fun x=>(List.range k).map (enc x)) k l.toArray).size=l.length*k:=by simp
 obtain⟨Q,r⟩:=Vp _ h W (NM H) (by omega);have X:=h.ty rfl;have u : ∀ x,((List.range k).map (enc x)).toArray=aA k (enc x):=fun x=>by
  apply Array.ext
  ·simp[gG]
  ·intro i h1 h2;have F:i<k:=(by simp_all);have:=jm (enc x) F
   simp_all
 have G:=AnyQ.slices_SortFunc C k K zE (fun x=>(List.range k).map (enc x)) o (fun x v u=>by
  grind) (fun x y=>nu (ky x) (ky y)) (aiA _) m #[] g 0 b l.toArray c M
  (fun N p dk hdk x y=>by rw[u,u]; exact R _ x y) Q r (by omega)
 rw[show l.toArray.size=l.length by simp]at G;refine G.mono ?_;rintro e w' ⟨S,cap,N,p,⟨A,_,I⟩,V,rfl⟩;have A:cap.size=l.length:=by omega
 have Y:sortWorldK (fun x=>(List.range k).map (enc x)) k c g 0 N cap p=sortWorld id c g 0 N (Go.Sort.flatK (fun x=>(List.range k).map (enc x)) k cap) p:=rfl;rw[Y];obtain⟨Z,w⟩:=Sd (N:=N) (Go.Sort.flatK (fun x=>(List.range k).map (enc x)) k cap) p h (by simp[A]);have n:(cap.extract 0 l.length).toList=cap.toList:=by
  rw[<- A]; simp
 have L:(l.toArray.extract 0 l.length).toList=l:=by simp
 rw[n,L]at I;refine⟨S,cap.toList,I,?_,?_,fun s o a=>w.block s o (fun e=>a (by rw[e]; rfl)),gJ w X,⟨w.os,w.tape,w.output,w.size,fun s o=>w.block s (by omega) (by omega)⟩⟩
 ·rw[List.pairwise_iff_getElem];intro i B hi hj T;have F:=V i B (J_ _) T (by simp_all)
  grind [ltOf,XI]
 have:=fun q (hq:q<l.length*k)=>NM (enc:=enc) (e0:=e0) (l:=cap.toList) H q (by simp_all)
 grind [Go.Sort.flatK,Z.congr]
end Go.Proofs.YtabjalhnkndjaaaGreatDoor.Fx
namespace Go.Proofs.YtabjalhnkndjaaaGreatDoor
open Go.Proofs.Tryz
open Go.Shelf
def ZH:Go.Shelf.Ren:=⟨fun|6=>32|15=>71|14=>70|28=>107|29=>108|20=>99|21=>100|22=>101|23=>102|24=>103|25=>104|26=>105|27=>106|46=>127|47=>128|48=>129|49=>130|50=>131|57=>144|n=>n,fun|22=>41|24=>96|25=>97|3=>3|39=>154|0=>0|53=>116|55=>26|4=>4|46=>181|45=>180|50=>185|5=>5|9=>9|66=>200|70=>204|76=>214|77=>215|n=>n,fun|n=>n⟩
theorem atn:Go.Proofs.SlLaysF0.n6 prog ZH := {
 mixed:=by rfl
 f6:=⟨Tryz.f32.name,by decide,func32.trans (K_ some (by rfl))⟩
 f14:=⟨Tryz.f70.name,by decide,func70.trans (K_ some (by rfl))⟩
 f15:=func71.trans (K_ some (by rfl))
 f20:=⟨Tryz.f99.name,by decide,func99.trans (K_ some (by rfl))⟩
 f21:=⟨Tryz.f100.name,by decide,func100.trans (K_ some (by rfl))⟩
 f22:=⟨Tryz.f101.name,by decide,func101.trans (K_ some (by rfl))⟩
 f23:=⟨Tryz.f102.name,by decide,func102.trans (K_ some (by rfl))⟩
 f24:=⟨Tryz.f103.name,by decide,func103.trans (K_ some (by rfl))⟩
 f25:=⟨Tryz.f104.name,by decide,func104.trans (K_ some (by rfl))⟩
 f26:=⟨Tryz.f105.name,by decide,func105.trans (K_ some (by rfl))⟩
 f27:=⟨Tryz.f106.name,by decide,func106.trans (K_ some (by rfl))⟩
 f28:=func107.trans (K_ some (by rfl))
 f29:=func108.trans (K_ some (by rfl))
 f46:=⟨Tryz.f127.name,by decide,func127.trans (K_ some (by rfl))⟩
 f47:=func128.trans (K_ some (by rfl))
 f48:=func129.trans (K_ some (by rfl))
 f49:=⟨Tryz.f130.name,by decide,func130.trans (K_ some (by rfl))⟩
 f50:=⟨Tryz.f131.name,by decide,func131.trans (K_ some (by rfl))⟩
 f57:=⟨Tryz.f144.name,by decide,func144.trans (K_ some (by rfl))⟩
 t0:=underlying0
 a0:=Tryz.isAgg0
 z0:=Tryz.sizeOf0
 v0:=Tryz.zeroValue0
 t3:=underlying3
 a3:=Tryz.isAgg3
 z3:=Tryz.sizeOf3
 v3:=Tryz.zeroValue3
 t4:=underlying4
 a4:=Tryz.isAgg4
 z4:=Tryz.sizeOf4
 v4:=Tryz.zeroValue4
 t5:=underlying5
 a5:=Tryz.isAgg5
 z5:=Tryz.sizeOf5
 v5:=Tryz.zeroValue5
 t9:=underlying9
 a9:=Tryz.isAgg9
 z9:=Tryz.sizeOf9
 v9:=Tryz.zeroValue9
 t22:=underlying41
 a22:=Tryz.isAgg41
 z22:=Tryz.sizeOf41
 v22:=Tryz.zeroValue41
 t25:=underlying97
 a25:=Tryz.isAgg97
 z25:=Tryz.sizeOf97
 v25:=Tryz.zeroValue97
 t39:=underlying154
 a39:=Tryz.isAgg154
 z39:=Tryz.sizeOf154
 v39:=Tryz.zeroValue154
 t45:=underlying180
 a45:=Tryz.isAgg180
 z45:=Tryz.sizeOf180
 v45:=Tryz.zeroValue180
 t46:=underlying181
 a46:=Tryz.isAgg181
 z46:=Tryz.sizeOf181
 v46:=Tryz.zeroValue181
 t50:=underlying185
 a50:=Tryz.isAgg185
 z50:=Tryz.sizeOf185
 v50:=Tryz.zeroValue185
 t53:=underlying116
 a53:=Tryz.isAgg116
 z53:=Tryz.sizeOf116
 v53:=Tryz.zeroValue116
 t55:=underlying26
 a55:=Tryz.isAgg26
 z55:=Tryz.sizeOf26
 v55:=Tryz.zeroValue26
 t66:=underlying200
 a66:=Tryz.isAgg200
 z66:=Tryz.sizeOf200
 v66:=Tryz.zeroValue200
 t70:=underlying204
 a70:=Tryz.isAgg204
 z70:=Tryz.sizeOf204
 v70:=Tryz.zeroValue204
 t76:=underlying214
 a76:=Tryz.isAgg214
 z76:=Tryz.sizeOf214
 v76:=Tryz.zeroValue214
 t77:=underlying215
 a77:=Tryz.isAgg215
 z77:=Tryz.sizeOf215
 v77:=Tryz.zeroValue215 }
end Go.Proofs.YtabjalhnkndjaaaGreatDoor
