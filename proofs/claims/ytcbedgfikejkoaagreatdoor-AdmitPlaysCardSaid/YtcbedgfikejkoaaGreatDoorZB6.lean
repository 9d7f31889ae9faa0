/-
  What the proof of the law rests on, part 6: walks of functions, and plain laws; each says its conditions itself.
-/
import Derived.Shelf.SlSortCmp.NoneTotal
import Derived.Shelf.SlSortCmp.WholeK
import Derived.Lib.SliceRun
import Derived.Ground.SlsfProg
import Derived.Test.YtcbedgfikejkoaaGreatDoorProg
import Derived.Deep.Slices
import Derived.Lib.SmallJoins
import Derived.ChangeArms
import Derived.Test.YtcbedgfikejkoaaGreatDoorZB5
set_option maxRecDepth 20000
set_option linter.unusedVariables false
set_option maxHeartbeats 1600000
set_option linter.unusedSimpArgs false
namespace Go.Proofs.YtcbedgfikejkoaaGreatDoor
open Go.RowKit Rt
open Fx (bf Lv sN Ln Ws Rp Wr Sb Wk rC sR Rs Rn Rk Gx gQ uM rv aA aR aO ev Stp aP Mp iN jV cells_one)
namespace Rt
def nP(v:EvM):Int:=1099511627776*v.o+v.seq
def jc(m:dN)(v:EvM):Int:=if 5<=m.own (aN v)\/140737488355328<v.aQ then 6 else m.T.err (nP v) v.node
def Dk(m:dN)(v:EvM):dN := { m with T:=m.T.put (nP v) v.node,R:=aO m.R m.T.n (upd (fun _=>0) (aN v) v.aQ),own:=aI m.own (aN v) (m.own (aN v)+1) }
theorem Vj{T:dM}{pa:Int}{id:Int}{w:World}{b n:Nat}{x:Nat->Int}(h:Mp w b n x (aO (DN T) T.n (aC pa))):Mp w b n x (DN (T.put id pa)):=h.uT fun i _=>⟨rfl,by show aO (DN T) T.n _ i=aC (aO T.p T.n pa i); unfold aO DN; split <;> rfl⟩
theorem YE{R:Nat->Nat->Int}{j n b:Nat}{r:Nat->Int}{x:Nat->Int}{w:World}(h:Mp w b n x (aO (wQ R) j (.agg (aA 54 (rv .i64 r))))):Mp w b n x (wQ (aO R j r)):=Ej _ _ _ _ h
end Rt
theorem aht(o q:Int)(w:World)(b:1<=o/\o<=6)(c:1<=q/\q<1099511627776):Calls Tryz.prog 214 #[au o,aC q] w fun e a=>e = .returned (aC (1099511627776*o+q))/\a=w:=by
 have h:=aoi o.toNat q.toNat w (by omega) (by omega);rw[show((o.toNat:Nat):Int)=o by omega,show((q.toNat:Nat):Int)=q by omega]at h;exact h
theorem Vk(m:dN)(b B:Nat)(w:World)(h:lN w B b m)(v:EvM)(hv:bR v=true)(J:m.T.err (nP v) v.node=0)(a:Nat)(ha:a<6)(hra:aN v=a)(hob:0<=m.own a/\m.own a<=1000)(hid:0<=nP v/\nP v<=18446744073709551615)(I:Nat)(G:Nat)(l:Nat)(H:Nat)(S:aR w I 1 (fun _=>(pt b)) 28)(hi:aR w G 1 (fun _=>aC (nP v)) 23)(P:aR w l 14 (bM v) 37)(Q:aR w H 1 (fun _=>au (a:Int)) 3) :
 Calls Tryz.prog 216 #[(pt I),(pt G),(pt l),(pt H)] w fun e w'=>e = .returned (.tuple #[])/\lN w' B b (Dk m v)/\jV (FH m b) w w':=by
 have hC:=h.c;have hT:=h.t;have hP:=h.p;have hR:=h.r;have hG:=h.g;have hA:=h.a;have d:=h.ne;have lC:=h.c.lt;have lT:=h.t.lt;have lP:=h.p.lt;have lR:=h.r.lt;have lG:=h.g.lt;have lA:=h.a.lt;have ZO:=S.lt;have lgi:=hi.lt;have lge:=P.lt;have lgk:=Q.lt;have U : ∀ i,i<m.T.n->m.T.x i≠nP v:=fun i hi e=>by have:=(EJ J).2.1; rw[jL hi e]at this; cases this
 refine Kent Tryz.func216 42 ?_;refine Ws ?_;refine jW [5,0,1,2,3,4,6,7] [4,0,0,4,4,0,4,3] [(7,0,[3,2,1,0]),(7,3,[3]),(7,4,[4]),(7,6,[6])] fun qE K iC => ?_;have s1:Stp w.heap.size w qE:=Sb K;have⟨W,m2,m3,m4,m5,m6,m7,m8,m9,m10⟩:=uS K hC hT hP hR hG hA S hi P Q;have b1:=(uM (FH m b) w).then s1 (.inr (uM (FH m b) w).size);refine aY (pf l 9)<|Rs (pt b) (aL m7.aH 0) ?_;refine aY (pt b)<|aY (pf b 18)<|Rs (pt m.tp) (aL W.aH 18) ?_;refine Rs (aC (nP v)) (aL m8.aH 0) ?_;refine Rs (aC v.node) (aL m9.aH 9) ?_;refine gW<|dK (KE (nP v) v.node m2 hid) _ rfl ?_;rintro y ⟨m11,s2⟩;have j:=m2.BN s2;have m12:=W.dY j;have m13:=m3.dY j (Ne.symm d.mp);have m14:=m4.dY j (Ne.symm d.mr);have m15:=m5.dY j (Ne.symm d.mg);have m16:=m6.dY j (Ne.symm d.ma);have m17:=m7.dY j;have m18:=m8.dY j;have m19:=m9.dY j;have m20:=m10.dY j;have C:=b1.then s2 (.inl (.inr (.inl rfl)));have m21:sH y B m.tp m.mb (m.T.put (nP v) v.node):=by rw[<- dM.El J]; exact m11
 refine Ln<|bQ<|Ws ?_;refine jW [5,0,1,2,3,4,6,7] [4,0,0,4,4,0,4,3] [(7,0,[0]),(7,3,[3]),(7,4,[4]),(7,6,[6])] fun CZ M nT => ?_;have s3:Stp y.heap.size y CZ:=Sb M;have⟨m22,m23,m24,mV,nO,ow,oD,nU,oz,lZ⟩:=uS M m12 m13 m14 m15 m16 m17 m18 m19 m20 m21;have b3:=C.then s3 (.inr C.size);refine aY (pf l 9)<|Rs (pt b) (aL ow.aH 0) ?_;refine aY (pt b)<|aY (pf b 19)<|Rs (.map (some m.pb)) (aL m22.aH 19) ?_;refine Rs (aC (nP v)) (aL oD.aH 0) ?_;refine Rs (aC v.node) (aL nU.aH 9) ?_;refine gW<|Fx.L.PN (by rfl) rfl rfl rfl rfl rfl m23 Tryz.underlying108 Tryz.underlying23 U fun z m32 s4 z1 => ?_;have k:=m23.BN s4;have pR:=m22.dY k;have nG:=m24.dY k (Ne.symm d.pr);have oF:=mV.dY k (Ne.symm d.pg);have nV:=nO.dY k (Ne.symm d.pa);have rQ:=ow.dY k;have qG:=oD.dY k;have qH:=nU.dY k;have tN:=oz.dY k;have mW:=lZ.dY k (d.mp);have D:=b3.then s4 (.inl (.inr (.inr (.inl rfl))));have mK:Mp z m.pb ((m.T.put (nP v) v.node).n) ((m.T.put (nP v) v.node).x) (DN (m.T.put (nP v) v.node)):=Vj m32;refine Ln<|bQ<|Ws ?_;refine jW [0,2,3,7,8,1,4,5,6,9,10] [4,4,0,0,0,4,0,0,0,0,3] [(10,0,[0]),(10,1,[1]),(10,5,[5])] fun Rb N AP => ?_;have s5:Stp z.heap.size z Rb:=Sb N;have⟨s,qI,qy,oG,rG,uW,tO,tJ,vN,uN⟩:=uS N pR nG oF nV rQ qG qH tN mW mK;have b5:=D.then s5 (.inr D.size);refine Rs (pt b) (aL rG.aH 0) ?_;refine aY (pt b)<|aY (pf b 21)<|aY (pt b)<|aY (pf b 21)<|Rs (au a) (aL tJ.aH 0) ?_;refine Rp (pf b (a+21)) (fun _=>jI 6 1)<|Rs (au (m.own a)) (aL s.aH (a+21) (Jw (p:=a) (by omega) (by omega))) ?_;refine Rp (au ((m.own a)+1)) (fun _=>fF)<|Rp (pf b (a+21)) (fun _=>jI 6 1)<|gW<|jd s (a+21) (au ((m.own a)+1)) fun w3 uj s6 z2 => ?_;have uX:aR w3 b 29 (vJ { m with own:=aI m.own a (m.own a+1) }) 114:=uj.to (Yr ha (by omega) _);have gY:=gQ s6 s.ty;have⟨xC,sw,sD,tK,xD,qJ,uz,nW,tL⟩:=abd gY qI qy oG rG uW tO tJ vN uN;have q:=b5.then s6 (.inl (.inl rfl));refine Ln<|bQ<|ay<|av (.agg (aA 54 (rv .i64 (fun _=>0))))<|rD 54 (rv .i64 (fun _=>0)) fun o w4 F u s7 z3 => ?_;have⟨xE,xg,vO,wz,sF,uO,uY,vP,vQ,zG⟩:=uS s7.old xC sw sD tK xD qJ uz nW tL uX;have b7:=q.then s7 (.inr q.size);have V:=iI F q.size;have⟨aow,aox,aoy,aoz,aoA,aoB,aoC,aoD,aoE⟩:=Xn F xC.lt sw.lt sD.lt tK.lt xD.lt qJ.lt uz.lt tL.lt uX.lt;have ug:=u.lt;refine eB u 0 fun w5 xk s8 z4 => ?_;have zm:aR w5 o 54 (rv .i64 (fun _=>0)) 82:=aP xk;have jQ:=gQ s8 u.ty;have⟨zn,yJ,xq,wB,wC,xW,zT,xX,AU,Au⟩:=Od jQ xE xg vO wz sF uO uY vP vQ zG;have b8:=b7.then s8 (.inr V);refine aD<|ay<|Lv (au a) (aL zT.aH 0)<|av (pf l 11)<|Lv (au v.aQ) (aL xW.aH 11)<|av (pt o)<|Lv (pf o a) (jI 6 1)<|jd zm a (au v.aQ) fun A Av s9 z5 => ?_;have zU:aR A o 54 (rv .i64 (upd (fun _=>0) a v.aQ)) 82:=Av.to (Fx.yE _ _ _ _);have qF:=gQ s9 zm.ty;have⟨zV,AV,EN,DJ,Cb,C9,zZ,Gd,Ec,Gf⟩:=Od qF zn yJ xq wB wC xW zT xX AU Au;have E:=b8.then s9 (.inr V);refine aD ?_;refine jW [0,1,2,3,4,5,6] [4,0,0,4,4,4,3] [(6,0,[0]),(6,3,[3]),(6,4,[4]),(6,5,[5])] fun wt4 O G8 => ?_;have s10:Stp A.heap.size A wt4:=Sb O;have⟨Gr,wK,xZ,X,Y,qb,pG,qM,qc,Z,aa⟩:=ED O zV AV EN DJ Cb C9 zZ Gd Ec Gf zU;have b10:=E.then s10 (.inr E.size);refine Rs (pt b) (aL X.aH 0) ?_;refine aY (pt b)<|aY (pf b 20)<|Rs (.map (some m.rb)) (aL Z.aH 20) ?_;refine Rs (aC (nP v)) (aL Y.aH 0) ?_;refine Rs (.agg (aA 54 (rv .i64 (upd (fun _=>0) a v.aQ)))) (fC aa.aH 0) ?_;refine gW<|Fx.L.PN (by rfl) rfl rfl rfl rfl rfl Gr Tryz.underlying109 Tryz.underlying23 U fun w7 vB s11 z6 => ?_;have f:=Gr.BN s11;have rM:=wK.dY f (Ne.symm d.rg);have uE:=xZ.dY f (Ne.symm d.ra);have zq:=X.dY f;have vE:=Y.dY f;have zu:=qb.dY f;have Cc:=pG.dY f;have xG:=qM.dY f (d.mr);have uF:=qc.dY f (d.pr);have qN:=Z.dY f;have yc:=aa.dY f;have b11:=b10.then s11 (.inl (.inr (.inr (.inr (.inl rfl)))));have yg:Mp w7 m.rb ((m.T.put (nP v) v.node).n) ((m.T.put (nP v) v.node).x) (wQ (aO m.R m.T.n (upd (fun _=>0) a v.aQ))):=YE vB;refine Ln (Rn (⟨.tuple #[],iN Tryz.results216,?_⟩));unfold Dk; rw[hra];exact⟨rfl,{ c:=qN,t:=xG,p:=uF,r:=yg,g:=rM,a:=uE,ne:=⟨d.mp,d.mr,d.mg,d.ma,d.pr,d.pg,d.pa,d.rg,d.ra,d.ga⟩,lB:=h.lB,pB:=h.pB,rB:=h.rB,gB:=h.gB,aB:=h.aB },b11⟩
theorem YF(m:dN)(j B:Nat)(w:World)(h:lN w B j m)(v:EvM)(L:bR v=true)(ab : ∀ a,a<6->0<=m.own a/\m.own a<=1000) :
 Calls Tryz.prog 207 #[(pt j),.agg (aA 14 (bM v))] w fun e w'=>Rf w B j m (Dk m v) (jc m v) e w':=by
 have Z:=h.c;have hT:=h.t;have hP:=h.p;have hR:=h.r;have hG:=h.g;have hA:=h.a;have hN:=h.ne;have lC:=h.c.lt;have lT:=h.t.lt;have lP:=h.p.lt;have lR:=h.r.lt;have lG:=h.g.lt;have lA:=h.a.lt;obtain⟨a,J,ho⟩ : ∃ a:Nat,a<6/\v.o=(a:Int)+1:=eX (iU L);have z:aN v=a:=by unfold aN; omega
 have hbd:=oh L;have aa:0<=nP v/\nP v<=18446744073709551615:=by unfold nP; omega
 have hoa:=ab a J;refine Kent Tryz.func207 38 ?_;refine ay<|xS (pt j) fun n w1 X M s1 z1 => ?_;have⟨m2,U⟩:=eO s1.old Z (Below.refl w.heap.size w);have su:=gH X;have mJ:=bY X Z.lt;have ug:=M.lt;refine oL fun b w2 Y l s2 z2 => ?_;have⟨P,Q,H⟩:=iy s2.old m2 M U;have qK:=iI Y U.size;have⟨aah,KT⟩:=uw Y m2.lt M.lt;have yK:=l.lt;refine av (.nilFunc)<|av (au 0)<|aD<|Ws ?_;refine Gx (T1:=23) (T2:=3) (T1':=23) (T2':=3) (a1 := .tmp 6) (v1 := .tmp 13) (a2 := .tmp 7) (v2 := .tmp 16) (m1:=1) (m2:=1) (z1:=rv .u64 (fun _=>0)) (y1:=fun _=>aC (nP v)) (z2:=rv .i64 (fun _=>0)) (y2:=fun _=>au (a:Int)) (u1:=aC (nP v)) (u2:=au (a:Int)) 8 9 10 11 [[],[],[],[],[],[],[],[],[],[],[(0,[8]),(1,[9])],[(0,[8]),(1,[9]),(2,[10])]] [[(2,[0]),(3,[0])],[(2,[1]),(3,[1])],[(2,[2]),(3,[2])],[(2,[3]),(3,[3])],[(2,[4]),(3,[4])],[(3,[5])],[(3,[6])],[(3,[7])],[(2,[8]),(3,[8])],[(2,[9]),(3,[9])],[(3,[10])],[]] #[(pt b),au v.o,(pf b 1),aC v.seq,aC (nP v),(pt b),au v.o,au (a:Int),undef,undef,undef,undef] (by kernel_rfl) (by kernel_rfl) (by kernel_rfl) (by kernel_rfl) (by kernel_rfl) (by kernel_rfl) (by kernel_rfl) (by kernel_rfl) (by kernel_rfl) (by kernel_rfl) rfl rfl (by kernel_rfl) (by kernel_rfl) rfl rfl rfl rfl (by kernel_rfl) (by kernel_rfl) (fun d f=>(show ev _ (.tmp 6)=(pt d)from by kernel_rfl)) (fun d f=>(show ev _ (.tmp 7)=(pt f)from by kernel_rfl)) (fun d f=>(show ev _ (.tmp 13)=aC (nP v)from by kernel_rfl)) (fun d f=>(show ev _ (.tmp 16)=au (a:Int)from by kernel_rfl)) (cells_one (by rfl)) (cells_one (by rfl)) (fun _ _=>rfl) (fun _ _=>rfl) (fun d f => ?_) ?_
 ·refine⟨?_,?_,?_,?_,?_,?_,?_,?_,?_,?_,?_,?_,trivial⟩
  ·exact .inr lV
  ·exact .inr (oC (au v.o) fun D q=>bf (x:=bM v) rfl (show ev _ (.tmp 9)=(pt b)from by kernel_rfl) (by kernel_rfl) (l.aH.below q (by have:=l.lt; omega)) (i:=0) (by omega) (by omega) rfl)
  ·exact .inr lV
  ·exact .inr (oC (aC v.seq) fun D q=>bf (x:=bM v) rfl (show ev _ (.tmp 11)=(pf b 1)from by kernel_rfl) (by kernel_rfl) (l.aH.below q (by have:=l.lt; omega)) (i:=1) (by omega) (by omega) rfl)
  ·exact .inr (Fx.IV (v:=aC (nP v)) (by kernel_rfl) (by kernel_rfl) (Fx.qbC (fun D q=>rC (args := [au v.o,aC v.seq]) rfl (Fx.args2 (show ev _ (.tmp 10)=au v.o from by kernel_rfl) (show ev _ (.tmp 12)=aC v.seq from by kernel_rfl)) Tryz.func214 rfl rfl) (fun D q=>(aht v.o v.seq _ (by omega) (by omega)).mono fun e v2 h=>⟨h.1,(by rw[h.2]; exact Below.refl _ _)⟩)))
  ·exact .inr lV
  ·exact .inr (oC (au v.o) fun D q=>bf (x:=bM v) rfl (show ev _ (.tmp 14)=(pt b)from by kernel_rfl) (by kernel_rfl) (l.aH.below q (by have:=l.lt; omega)) (i:=0) (by omega) (by omega) rfl)
  ·exact .inr (oC (au a) fun D q=>Fx.Rq rfl (show ev _ (.tmp 15)=au v.o from by kernel_rfl) (show ev _ (.const (au 1))=au 1 from by kernel_rfl) Fx.io)
  ·exact .inl rfl
  ·exact .inl rfl
  ·exact .inl rfl
  exact .inl rfl
 rintro d f w3 G y A C ne1 m6 m7 hb1;have ahu:j≠d:=u_ (n_ (P.lt) A);have Z6:n≠d:=u_ (n_ (Q.lt) A);have asH:b≠d:=u_ (n_ (l.lt) A);have asI:j≠f:=u_ (n_ (P.lt) C);have asJ:n≠f:=u_ (n_ (Q.lt) C);have asK:b≠f:=u_ (n_ (l.lt) C);have⟨m8,m9,m10,b3⟩:=jP hb1 P Q l H;have A:w.heap.size<=d:=m_ H.size A;have G9:=m6.lt;have C:w.heap.size<=f:=m_ H.size C;have OI:=m7.lt;have R:G 2=(pt n):=by rw[y]; kernel_rfl
 have S:G 3=(pt b):=by rw[y]; kernel_rfl
 have q5:G 6=(pt d):=by rw[y]; kernel_rfl
 have q6:G 7=(pt f):=by rw[y]; kernel_rfl
 clear y;refine sN<|Ws<|Ws ?_;refine jW [0,2,3,1,4,5,6,7,8,9,10,11] [4,4,0,0,0,4,0,0,0,4,0,0] [] fun qE dP iC => ?_;have⟨m11,N,O,ac,ad,E⟩:=qD dP m8 m9 m10 m6 m7 b3;refine Rs (pt j) (aL N.aH 0 (ha:=R)) ?_;refine aY (pt j)<|aY (pf j 21)<|Rs (au a) (aL ad.aH 0 (ha:=q6)) ?_;refine Rp (pf j (a+21)) (fun _=>jI 6 1)<|Rs (au (m.own a)) (aL m11.aH (a+21) (Jw (p:=a) (by omega) (by omega))) ?_;by_cases V:5<=(m.own a)
 ·refine Rp aG (fun _=>kP V)<|aY aG<|Rk (by rfl)<|Rk (by rfl)<|Rk (by rfl)<|aY aG<|bQ<|aM<|ay<|av (.nilFunc)<|av (au 6)<|aD<|Wr<|sR<|aJ (.tuple #[.nilFunc,au 6]) ?_;have k:jc m v=6:=by unfold jc; rw[z]; exact d_ (.inl (by omega))
  exact⟨⟨.nilFunc,0,#[],by rw[k],rfl,fun u=>M_ (k.symm.trans u) (by first|decide|omega|assumption)⟩,E⟩
 refine Rp aF (fun _=>ko V)<|aY aF<|Rp (pf b 11) (fun _=>jA S 11)<|Rs (au v.aQ) (aL O.aH 11) ?_;by_cases W:140737488355328<v.aQ
 ·refine Rp aG (fun _=>mG W)<|aY aG<|bQ<|aM<|ay<|av (.nilFunc)<|av (au 6)<|aD<|Wr<|sR<|aJ (.tuple #[.nilFunc,au 6]) ?_;have k:jc m v=6:=by unfold jc; rw[z]; exact d_ (.inr (by omega))
  exact⟨⟨.nilFunc,0,#[],by rw[k],rfl,fun u=>M_ (k.symm.trans u) (by first|decide|omega|assumption)⟩,E⟩
 refine Rp aF (fun _=>mH W)<|aY aF<|bQ<|aK<|Wk<|sN<|Ws<|ay<|Lv (pt j) (aL N.aH 0 (ha:=R))<|Lv (aC (nP v)) (aL ac.aH 0 (ha:=q5))<|Lv (pf b 9) (jA S 9)<|Lv (aC v.node) (aL O.aH 9)<|dK (adC m j B _ (h.up E) (nP v) v.node aa) _ rfl ?_;intro w4 s;have⟨ae,af,ag,m20,I⟩:=oQ s N O ac ad E;refine av (au (m.T.err (nP v) v.node))<|aD<|ay<|av (au (m.T.err (nP v) v.node)) ?_;by_cases F:(m.T.err (nP v) v.node)=0
 ·refine Lv aF (jJ F)<|aD<|aK<|Wk<|sN<|ay<|Lv (.func (.func 216) #[] #[(pt n),(pt d),(pt b),(pt f)]) (Fx.nu (us := []) (vs := [(pt n),(pt d),(pt b),(pt f)]) rfl rfl (Fx.Rm R q5 S q6))<|av (.func (.func 216) #[] #[(pt n),(pt d),(pt b),(pt f)])<|av (au 0)<|aD<|Wr<|aJ (.tuple #[.func (.func 216) #[] #[(pt n),(pt d),(pt b),(pt f)],au 0]) ?_;have k:jc m v=0:=by unfold jc; rw[z,b_ (by omega)]; exact F
  exact⟨⟨_,216,#[(pt n),(pt d),(pt b),(pt f)],by rw[k],rfl,fun _=>⟨rfl,⟨_,_,Tryz.func216,rfl,rfl⟩,fun w2 s=>(Vk m j B w2 ((h.up I).up s) v L F a J z (ab a J) aa _ _ _ _ (ae.cB (Sb s) (u_ ae.lt)) (ag.cB (Sb s) (u_ ag.lt)) (af.cB (Sb s) (u_ af.lt)) (m20.cB (Sb s) (u_ m20.lt))).mono fun _ _ K=>⟨K.1,K.2.1,K.2.2.mono fun _ hk => .inl hk⟩⟩⟩,I⟩
 refine Lv aG (nC F)<|aD<|aM<|ay<|av (au (m.T.err (nP v) v.node))<|av (.nilFunc)<|av (au (m.T.err (nP v) v.node))<|aD<|Wr<|sR<|aJ (.tuple #[.nilFunc,au (m.T.err (nP v) v.node)]) ?_;have k:jc m v=m.T.err (nP v) v.node:=by unfold jc; rw[z,b_ (by omega)]
 exact⟨⟨.nilFunc,0,#[],by rw[k],rfl,fun u=>M_ (k.symm.trans u) (by first|decide|omega|assumption)⟩,I⟩
end Go.Proofs.YtcbedgfikejkoaaGreatDoor
namespace Go.Proofs.YtcbedgfikejkoaaGreatDoor
open Go.RowKit Go
namespace Rt
section
variable {x p:Nat->Int} {n d e:Nat} {k v:Int}
theorem JG : ∀ {d:Nat} {v:Int},jB x p n d v -> ∀ k,k∈jD x p n d v->(jD x p n d k).length<=(jD x p n d v).length
 | 0,v,h,k,hk=>by cases hk
 | d+1,v,h,k,hk=>by
   cases hv:dS x n v with
   | false=>rw[kW hv]at hk; cases hk
   | true =>
     have e:jD x p n (d+1) v=v::jD x p n d (iF x p n v):=(by show(if _ then _ else _)=_; rw[d_ hv]);have a:jB x p n d (iF x p n v):=h hv;rw[e]at hk
     rcases List.mem_cons.1 hk with rfl|hk
     ·exact A_ _
     ·have b:=JG a k hk;have c:jB x p n d k:=by
       refine AO (d:=d) ?_ (m_ b yI);exact FM a k hk
      have f:=(Ja c (Nat.le_succ d)).1;rw[f,e,List.length_cons]; omega
where FM : ∀ {d:Nat} {v:Int},jB x p n d v -> ∀ k,k∈jD x p n d v->jB x p n d k
 | 0,v,h,k,hk=>by cases hk
 | d+1,v,h,k,hk=>by
   cases hv:dS x n v with
   | false=>rw[kW hv]at hk; cases hk
   | true =>
     have e:jD x p n (d+1) v=v::jD x p n d (iF x p n v):=(by show(if _ then _ else _)=_; rw[d_ hv]);have hs:jB x p n d (iF x p n v):=h hv;rw[e]at hk
     rcases List.mem_cons.1 hk with rfl|hk
     ·exact h
     ·exact(Ja (FM hs k hk) (Nat.le_succ d)).2
theorem Ik : ∀ {d:Nat} {v:Int},jB x p n d v->(jD x p n d v).Nodup
 | 0,v,h=>List.nodup_nil
 | d+1,v,h=>by
   cases hv:dS x n v with
   | false=>rw[kW hv]; exact List.nodup_nil
   | true =>
     have e:jD x p n (d+1) v=v::jD x p n d (iF x p n v):=(by show(if _ then _ else _)=_; rw[d_ hv]);have a:jB x p n d (iF x p n v):=h hv;rw[e,List.nodup_cons];refine⟨fun c => ?_,Ik a⟩;have f:=JG a v c;have b:=(Ja (JG.FM a v c) (Nat.le_succ d)).1;rw[e]at b;rw[<- b,List.length_cons]at f;omega
end
section
variable {T:dM} {l:List Int} {k:Int}
theorem dM.Aj(h:T.ok)(k:Int):(T.path k).Nodup:=Ik (h.stop k)
theorem dM.oo(h:T.ok)(e:l=T.path k) : ∀ v,v∈l->T.has v=true:=fun v c=>by
 obtain⟨i,a,b⟩:=List.getElem_of_mem c;have:=dM.Nv h e a;rw[r_,o_ a]at this;rw[<- b]; exact this
theorem CB(h:l.Nodup){i j:Nat}(hi:i<l.length)(a:j<l.length)(e:l.getD i 0=l.getD j 0):i=j:=by
 rw[r_,r_,o_ hi,o_ a]at e;exact(List.getElem_inj h).1 e
end
def jM(f:(Nat->Int)->(Nat->Int) × Int)(r:Nat->Nat->Int):Nat->Int
 | 0=>0
 | i+1=>if jM f r i=0 then(f (r i)).2 else jM f r i
section
variable {f:(Nat->Int)->(Nat->Int) × Int} {r:Nat->Nat->Int} {i n:Nat}
theorem CF(h:jM f r i=0)(a:(f (r i)).2=0):jM f r (i+1)=0:=by unfold jM; rw[d_ h,a]
theorem Ak(h:jM f r i=0)(a : ¬ (f (r i)).2=0) : ∀ n,i<n->jM f r n=(f (r i)).2
 | 0,hn=>M_ hn (z_ _)
 | n+1,hn=>by
   unfold jM;by_cases e:i=n
   ·subst e; rw[d_ h]
   ·rw[Ak h a n (by omega),b_ a]
theorem FN : ∀ {n:Nat},jM f r n=0 -> ∀ i,i<n->(f (r i)).2=0
 | 0,_,i,hi=>M_ hi (z_ _)
 | n+1,h,i,hi=>by
   unfold jM at h;by_cases a:jM f r n=0
   ·rw[d_ a]at h;by_cases e:i=n
    ·rw[e]; exact h
    ·exact FN a i (by omega)
   ·rw[b_ a]at h; exact M_ h a
end
def DV(m:dN)(k:Int):Nat->Int:=m.R (m.idx k)
def dw(m:dN)(f:(Nat->Int)->(Nat->Int) × Int)(l:List Int):Int:=jM f (fun i=>DV m (l.getD i 0)) l.length
open Classical in
noncomputable def qP(m:dN)(f:(Nat->Int)->(Nat->Int) × Int)(l:List Int):dN := { m with R:=fun i=>if m.T.x i∈l then(f (m.R i)).1 else m.R i }
def Dl(l:List Int)(S:Nat->Bool)(v:Int):Nat->Bool
 | 0=>false
 | n+1=>Dl l S v n || (S n&&decide (l.getD n 0=v))
theorem rW{l:List Int}{S:Nat->Bool}{v:Int} : ∀ {n:Nat},Dl l S v n=true <-> ∃ q,q<n/\S q=true/\l.getD q 0=v
 | 0=>⟨fun h=>(nomatch h),fun⟨q,h,_⟩=>M_ h (z_ _)⟩
 | n+1=>by
   unfold Dl;rw[Bool.or_eq_true,rW,S_,P_];constructor
   ·rintro (⟨q,c,a,b⟩|⟨c,a⟩)
    ·exact⟨q,by omega,a,b⟩
    ·exact⟨n,by omega,c,a⟩
   ·rintro ⟨q,c,a,b⟩;by_cases e:q=n
    ·subst e; exact .inr ⟨a,b⟩
    ·exact .inl ⟨q,by omega,a,b⟩
def yA(m:dN)(f:(Nat->Int)->(Nat->Int) × Int)(l:List Int)(S:Nat->Bool):Nat->Nat->Int:=fun i=>if Dl l S (m.T.x i) l.length=true then(f (m.R i)).1 else m.R i
theorem NC(m:dN)(f:(Nat->Int)->(Nat->Int) × Int)(l:List Int):yA m f l (fun _=>false)=m.R:=by
 funext i
 unfold yA;rw[b_];rw[rW];rintro ⟨q,_,h,_⟩; cases h
theorem QM{m:dN}(o:m.T.ok){f:(Nat->Int)->(Nat->Int) × Int}{l:List Int}{S:Nat->Bool}{q j:Nat}(t:q<l.length)(s:j<m.T.n)(g:m.T.x j=l.getD q 0) : ∀ i,i<m.T.n->Fx.aO (yA m f l S) j (f (m.R j)).1 i=yA m f l (Fx.aO S q true) i:=fun i p=>by
 unfold Fx.aO;by_cases e:i=j
 ·subst e;rw[d_ rfl];unfold yA;rw[d_];rw[rW];exact⟨q,t,by show(if q=q then true else S q)=true; rw[d_ rfl],g.symm⟩
 ·rw[b_ e];unfold yA;have:Dl l S (m.T.x i) l.length=true<->Dl l (fun i=>if i=q then true else S i) (m.T.x i) l.length=true:=by
   rw[rW,rW];constructor
   ·rintro ⟨r,d,a,b⟩;exact⟨r,d,by show(if r=q then true else S r)=true; split <;> first|rfl|exact a,b⟩
   ·rintro ⟨r,d,a,b⟩;by_cases k:r=q
    ·subst k;exact M_ (o.inj i j p s (by rw[g,<- b])) e
    ·exact⟨r,d,by have a:(if r=q then true else S r)=true:=a; rw[b_ k]at a; exact a,b⟩
  by_cases c:Dl l S (m.T.x i) l.length=true
  ·rw[d_ c,d_ (this.1 c)]
  ·rw[b_ c,b_ (fun h=>c (this.2 h))]
theorem Vl{m:dN}{f:(Nat->Int)->(Nat->Int) × Int}{l:List Int}{S:Nat->Bool}(h : ∀ q,q<l.length->S q=true):yA m f l S=(qP m f l).R:=by
 funext i
 show _=if m.T.x i∈l then(f (m.R i)).1 else m.R i;unfold yA;have:Dl l S (m.T.x i) l.length=true<->m.T.x i∈l:=by
  rw[rW];constructor
  ·rintro ⟨q,b,_,d⟩;rw[<- d,r_,o_ b]; exact Q_ b
  ·intro g;obtain⟨q,a,e⟩:=List.getElem_of_mem g;exact⟨q,a,h q a,by rw[r_,o_ a]; exact e⟩
 by_cases c:m.T.x i∈l
 ·rw[d_ (this.2 c),d_ c]
 rw[b_ (fun h=>c (this.1 h)),b_ c]
def sV(m:dN)(f:(Nat->Int)->(Nat->Int) × Int)(l:List Int):Nat->Value:=fun q => .agg (Fx.aA 54 (Fx.rv .i64 (f (DV m (l.getD q 0))).1))
theorem Il{m:dN}{f:(Nat->Int)->(Nat->Int) × Int}{l:List Int}{w:World}{b i:Nat}{r:Nat->Int}(h:Fx.Mp w b (i+1) (Fx.aO (fun q=>l.getD q 0) i (l.getD i 0)) (Fx.aO (sV m f l) i (.agg (Fx.aA 54 (Fx.rv .i64 r)))))(e:r=(f (DV m (l.getD i 0))).1):Fx.Mp w b (i+1) (fun q=>l.getD q 0) (sV m f l):=h.uT fun q a=>by
 unfold Fx.aO;by_cases c:q=i
 ·subst c; rw[d_ rfl,d_ rfl,e]; exact⟨rfl,rfl⟩
 ·rw[b_ c,b_ c]; exact⟨rfl,rfl⟩
end Rt
end Go.Proofs.YtcbedgfikejkoaaGreatDoor
namespace Go.Proofs.YtcbedgfikejkoaaGreatDoor
open Go.RowKit Rt
open Fx (bf dX fZ Lv sN Ln Ws Wl Rp Wr Sb Wk rV sR Rs Rn Rd Wb Wx Wo Dx Gx Ao BH Dv gQ tX uM rv aA aR bC aO ev Stp aP dA Mp aT iB iM aZ iN jV bF cells_one bE unseen jH dD bK bP bW bX gP iq pK fO)
theorem Vm(x:Nat->Int)(v:EvM)(a:Nat)(w:World)(F:1<=v.o/\v.o<=6)(b:aR w a 14 (bM v) 37) :
 Calls Tryz.prog 220 #[.agg (aA 54 (rv .i64 x)),(pt a)] w fun e C=>e = .returned (.tuple #[.agg (aA 54 (rv .i64 (bH x v.o v.aQ).1)),au (bH x v.o v.aQ).2])/\Below w.heap.size w C:=by
 have I:=b.lt;refine Kent Tryz.func220 13 ?_;refine ay<|oL fun E Q i c A T => ?_;have⟨k,g⟩:=eO A.old b (Below.refl w.heap.size w);have G:=gH i;have L:=bY i b.lt;have O:=c.lt;refine rD 54 (rv .i64 (fun _=>0)) fun q R j l B U => ?_;have⟨d,m,n⟩:=iy B.old k c g;have H:=iI j g.size;have⟨M,N⟩:=uw j k.lt c.lt;have P:=l.lt;refine av (au 0)<|aD<|ay<|Lv (.agg (aA 54 (rv .i64 x))) (fC m.aH 0)<|av (pt a)<|Lv (au v.o) (aL d.aH 0)<|av (pf a 11)<|Lv (au v.aQ) (aL d.aH 11)<|dK (ada (x) v.o v.aQ _ (by omega)) _ rfl ?_;intro S r;have⟨t,u,y,h⟩:=jP r d m l n;refine av (.agg (aA 54 (rv .i64 ((bH (x) v.o v.aQ).1))))<|av (au ((bH (x) v.o v.aQ).2))<|eB y 0 fun D z f V => ?_;have s:aR D q 54 (rv .i64 ((bH (x) v.o v.aQ).1)) 82:=aP z;have J:=t.cB f (by omega);have K:=u.cB f (by omega);have p:=f.below h h.size (by omega);refine av (au ((bH (x) v.o v.aQ).2)) (aD (Wr (⟨.tuple #[.agg (aA 54 (rv .i64 ((bH (x) v.o v.aQ).1))),au ((bH (x) v.o v.aQ).2)],fO Tryz.results220 ⟨_,rfl,aT s.aH (by kernel_rfl) (by kernel_rfl)⟩ (by exact rfl),?_⟩)));exact⟨rfl,p⟩
theorem Vn(x:Nat->Int)(v:EvM)(g:Nat->Int)(b c:Nat)(w:World)(L:1<=v.o/\v.o<=6)(d:aR w b 14 (bM v) 37)(f:aR w c 5 (ji g) 106) :
 Calls Tryz.prog 223 #[.agg (aA 54 (rv .i64 x)),(pt b),(pt c)] w fun e I=>e = .returned (.tuple #[.agg (aA 54 (rv .i64 (bI x v.o (g 3)).1)),au (bI x v.o (g 3)).2])/\Below w.heap.size w I:=by
 have O:=d.lt;have P:=f.lt;refine Kent Tryz.func223 14 ?_;refine ay<|oL fun K w1 k h G z1 => ?_;have⟨m,n,i⟩:=iy G.old d f (Below.refl w.heap.size w);have M:=gH k;have⟨T,U⟩:=uw k d.lt f.lt;have Y:=h.lt;refine rD 54 (rv .i64 (fun _=>0)) fun y w2 l p H z2 => ?_;have⟨q,r,s,t⟩:=jP H.old m n h i;have N:=iI l i.size;have⟨V,W,X⟩:=EF l m.lt n.lt h.lt;have Z:=p.lt;refine av (au 0)<|aD<|ay<|Lv (.agg (aA 54 (rv .i64 x))) (fC s.aH 0)<|av (pt b)<|Lv (au v.o) (aL q.aH 0)<|av (pf c 3)<|Lv (au (g 3)) (aL r.aH 3)<|dK (adb (x) v.o (g 3) _ (by omega)) _ rfl ?_;intro w3 z;have⟨E,F,A,B,j⟩:=oQ z q r s p t;refine av (.agg (aA 54 (rv .i64 ((bI (x) v.o (g 3)).1))))<|av (au ((bI (x) v.o (g 3)).2))<|eB B 0 fun J C a z3 => ?_;have D:aR J y 54 (rv .i64 ((bI (x) v.o (g 3)).1)) 82:=aP C;have Q:=E.cB a (by omega);have R:=F.cB a (by omega);have S:=A.cB a (by omega);have u:=a.below j j.size (by omega);refine av (au ((bI (x) v.o (g 3)).2)) (aD (Wr (⟨.tuple #[.agg (aA 54 (rv .i64 ((bI (x) v.o (g 3)).1))),au ((bI (x) v.o (g 3)).2)],fO Tryz.results223 ⟨_,rfl,aT D.aH (by kernel_rfl) (by kernel_rfl)⟩ (by exact rfl),?_⟩)));exact⟨rfl,u⟩
theorem Lx(m:dN)(j B:Nat)(w:World)(h:lN w B j m)(o:(Nat->Int)->(Nat->Int) × Int)(l:List Int)(s:Nat)(hgM:m.rb≠s/\m.mb≠s/\m.pb≠s/\m.gb≠s/\m.ab≠s)(hlh : ∀ k,k∈l->m.T.has k=true)(I:Mp w s l.length (fun q=>l.getD q 0) (sV m o l))(z:Nat)(A:Nat)(H:aR w z 1 (fun _ => .map (some s)) 109)(Z:aR w A 1 (fun _=>(pt j)) 28) :
 Calls Tryz.prog 232 #[(pt z),(pt A)] w fun e w'=>e = .returned (.tuple #[])/\lN w' B j (qP m o l)/\jV (FH m j) w w':=by
 have hC:=h.c;have hT:=h.t;have hP:=h.p;have hR:=h.r;have hG:=h.g;have hA:=h.a;have b:=h.ne;have lC:=h.c.lt;have lT:=h.t.lt;have lP:=h.p.lt;have lR:=h.r.lt;have lG:=h.g.lt;have lA:=h.a.lt;have lg8:=H.lt;have ZO:=Z.lt;have lF:=I.lt;obtain⟨hg1,hg2,hg3,hg4,hg5⟩:=hgM;refine Kent Tryz.func232 17 ?_;refine ay<|Lv (.map (some s)) (aL H.aH 0)<|Fx.L.range (by rfl) rfl rfl rfl I Tryz.underlying109 fun F w1 lY m1 s1 z1 => ?_;have⟨m2,m3,m4,m5,m6,m7,m8,m9,m10⟩:=BL s1.old hC hT hP hR hG hA I H Z;have b1:=(uM (FH m j) w).then s1 (.inr (uM (FH m j) w).size);have su:w.heap.size<=F:=by rw[lY]; exact(uM (FH m j) w).size
 have ug:=m1.lt;refine aD<|Wb ?_;have m11:Mp w1 m.rb m.T.n m.T.x (wQ (yA m o l (fun _=>false))):=by rw[NC]; exact m5
 refine Dx (fun kE f v => ∃ S:Nat->Bool,∃ K:Nat,K=unseen S l.length/\K=kE/\f 0=(pt z)/\f 1=(pt A)/\f 5=(pt F)/\aR v j 29 (vJ m) 114/\sH v B m.tp m.mb m.T/\Mp v m.pb m.T.n m.T.x (DN m.T)/\iB v m.gb m.gn (fun i=>m.g i 0) (fun i=>m.g i 1) (uI m.g)/\iB v m.ab m.an m.ao m.ar DR/\Mp v s l.length (fun q=>l.getD q 0) (sV m o l)/\aR v z 1 (fun _ => .map (some s)) 109/\aR v A 1 (fun _=>(pt j)) 28/\Mp v m.rb m.T.n m.T.x (wQ (yA m o l S))/\Fx.It v F s l.length S/\jV (FH m j) w v) (unseen (fun _=>false) l.length) ⟨(fun _=>false),(unseen (fun _=>false) l.length),rfl,rfl,(by rfl),(by rfl),(by rfl),m2,m3,m4,m6,m7,m8,m9,m10,m11,m1,b1⟩ ?_;rintro kE f1 w2 ⟨S,K,hkk,hkE,W,X,G,m12,m13,m14,m15,m16,m17,m18,m19,m20,M,Q⟩;refine ay<|Fx.L.next (by rfl) rfl rfl G m17 M (fun sG => ?_)<|fun d w3 C hS1 m22 mc1 s2 z2 => ?_
 ·skip
  refine av aF (aD (Ws (aK (Wx (bW (gP (bX (⟨.tuple #[],iN Tryz.results232,?_⟩))))))));have m23:Mp w2 m.rb m.T.n m.T.x (wQ (qP m o l).R):=by rw[<- Vl sG]; exact m20
  exact⟨rfl,{ c:=m12,t:=m13,p:=m14,r:=m23,g:=m15,a:=m16,ne:=⟨b.mp,b.mr,b.mg,b.ma,b.pr,b.pg,b.pa,b.rg,b.ra,b.ga⟩,lB:=h.lB,pB:=h.pB,rB:=h.rB,gB:=h.gB,aB:=h.aB },Q⟩
 skip
 have y:=M.BN s2;have m24:=m12.dY y;have mV:=m13.dY y (by omega);have nO:=m14.dY y (by omega);have ow:=m15.dY y (by omega);have oD:=m16.dY y (by omega);have N:=m17.dY y (M.rb.symm);have oz:=m18.dY y;have lZ:=m19.dY y;have m32:=m20.dY y (by omega);have D:=Q.then s2 (.inr su);refine av aG<|aD<|Ws<|aM<|Wk<|sN<|Wb<|ay<|Lv (.tuple #[aC (l.getD d 0),.agg (aA 54 (rv .i64 ((o (DV m (l.getD d 0))).1)))]) (Fx.Og (key:=fun q=>l.getD q 0) (val:=sV m o l) (i:=d) rfl G N mc1 C)<|av (aC (l.getD d 0))<|av (.agg (aA 54 (rv .i64 ((o (DV m (l.getD d 0))).1))))<|rD 54 (rv .i64 (fun _=>0)) fun g2 w4 V O s3 z3 => ?_;have⟨nG,oF,nV,rQ,qG,qH,tN,mW,mK,mX,qI⟩:=ED s3.old m24 mV nO ow oD N oz lZ m32 mc1 m22;have b4:=D.then s3 (.inr D.size);have qK:=iI V D.size;have⟨aoF,aoG,aoH,aoI,aoJ,aoK,aoL,aoM⟩:=Xm V m24.lt nO.lt ow.lt oD.lt N.lt oz.lt lZ.lt m32.lt;have yK:=O.lt;refine av (aC (l.getD d 0))<|eB O 0 fun P qy s4 z4 => ?_;have oG:aR P g2 54 (rv .i64 ((o (DV m (l.getD d 0))).1)) 82:=aP qy;have gY:=gQ s4 O.ty;have⟨rG,uW,tO,tJ,vN,uN,uj,uX,xC,sw,sD⟩:=ZL gY nG oF nV rQ qG qH tN mW mK mX qI;have U:=b4.then s4 (.inr qK);refine aD ?_;obtain⟨jz,J,E⟩:=gX (hlh _ (uV C rfl));have ejx:DV m (l.getD d 0)=m.R jz:=by unfold DV dN.idx; rw[mZ h.t.inv.inj J E]
 refine jW [4,0,1,2,3,5,6] [4,0,0,4,0,4,3] [(6,0,[0]),(6,3,[3]),(6,5,[5])] fun qE Y iC => ?_;have s5:Stp P.heap.size P qE:=Sb Y;have⟨tK,xD,qJ,uz,nW,tL,m64,xE,xg,vO,wz,sF⟩:=Oc Y rG uW tO tJ vN uN uj uX xC sw sD oG;have b6:=U.then s5 (.inr U.size);refine aY (aC (l.getD d 0))<|Rs (pt j) (aL xE.aH 0 (ha:=X)) ?_;refine aY (pt j)<|aY (pf j 20)<|Rs (.map (some m.rb)) (aL tK.aH 20) ?_;refine Rs (.agg (aA 54 (rv .i64 ((o (DV m (l.getD d 0))).1)))) (fC sF.aH 0) ?_;refine gW<|Fx.L.abe (by rfl) rfl rfl rfl rfl rfl xg Tryz.underlying109 Tryz.underlying23 J E fun w6 uO s6 z5 => ?_;have u:=xg.BN s6;have uY:=tK.dY u;have vP:=xD.dY u (b.mr);have vQ:=qJ.dY u (b.pr);have zG:=uz.dY u (Ne.symm b.rg);have xk:=nW.dY u (Ne.symm b.ra);have zm:=tL.dY u (by omega);have zn:=m64.dY u;have yJ:=xE.dY u;have xq:=vO.dY u (by omega) (by omega);have wB:=wz.dY u (by omega) (by omega);have wC:=sF.dY u;have b7:=b6.then s6 (.inl (.inr (.inr (.inr (.inl rfl)))));have xW:Mp w6 m.rb m.T.n m.T.x (wQ (yA m o l (aO S d true))):=by have q9:=Ej _ _ _ _ uO; rw[ejx]at q9; exact q9.uT fun i hi=>⟨rfl,by unfold wQ; rw[QM h.t.inv C J E i hi]⟩
 refine Ln (Rn (bP (iq ⟨unseen (aO S d true) l.length,(by have W:=Fx.oU hS1 l.length C; omega),(aO S d true),(unseen (aO S d true) l.length),rfl,rfl,W,X,G,uY,vP,vQ,zG,xk,zm,zn,yJ,xW,wB,b7⟩ (by decide))))
theorem Vo(m:dN)(j B:Nat)(w:World)(h:lN w B j m)(C:Int)(v:EvM)(ho:1<=v.o/\v.o<=6)(E:Nat)(u:aR w E 14 (bM v) 37) :
 Calls Tryz.prog 219 #[(pt j),aC C,.func (.func 220) #[] #[(pt E)]] w fun e w'=>Rf w B j m (qP m (fun x=>bH x v.o v.aQ) (m.T.path C)) (dw m (fun x=>bH x v.o v.aQ) (m.T.path C)) e w':=by
 have hC:=h.c;have hT:=h.t;have hP:=h.p;have hR:=h.r;have hG:=h.g;have hA:=h.a;have hN:=h.ne;have lC:=h.c.lt;have lT:=h.t.lt;have lP:=h.p.lt;have lR:=h.r.lt;have lG:=h.g.lt;have lA:=h.a.lt;have lge:=u.lt;refine Kent Tryz.func219 44 ?_;refine ay<|xS (pt j) fun A w1 lY Y s1 z1 => ?_;have⟨m2,m3,m4,m5,m6,m7,m8,b1⟩:=nD s1.old hC hT hP hR hG hA u (Below.refl w.heap.size w);have su:=gH lY;have⟨mJ,yw,xw,Bp,zI,KP⟩:=I6 lY hC.lt hP.lt hR.lt hG.lt hA.lt u.lt;have ug:=Y.lt;refine av (.nilFunc)<|av (au 0)<|aD<|ay<|Fx.L.Ki (by rfl) rfl rfl fun d w2 zo m9 s2 z2 => ?_;have⟨m10,m11,m12,m13,m14,m15,m16,m17,b2⟩:=BL s2.old m2 m3 m4 m5 m6 m7 m8 Y b1;have qK:=iI zo b1.size;have⟨FP,FI,Ai,FJ,BS,Tm,Tn⟩:=MR zo m2.lt m4.lt m5.lt m6.lt m7.lt m8.lt Y.lt;have yK:=m9.lt;refine rD 1 (fun _ => .map none) fun y w3 yL Z s3 z3 => ?_;have⟨m19,m20,m21,m22,m23,m24,mV,nO,ow,b3⟩:=uS s3.old m10 m11 m12 m13 m14 m15 m16 m17 m9 b2;have BQ:=iI yL b2.size;have⟨adG,Vp,adH,Vq,Vr,JD,adI,Nu⟩:=Xm yL m10.lt m12.lt m13.lt m14.lt m15.lt m16.lt m17.lt m9.lt;have G9:=Z.lt;refine jd Z 0 (.map (some d)) fun O oD s4 z4 => ?_;have nU:aR O y 1 (fun _ => .map (some d)) 109:=dD oD;have gY:=gQ s4 Z.ty;have⟨oz,lZ,m32,pR,nG,oF,nV,rQ,qG⟩:=abd gY m19 m20 m21 m22 m23 m24 mV nO ow;have b4:=s4.below b3 b3.size (by omega);refine aD<|Ws<|ay<|Lv (pt j) (aL rQ.aH 0)<|av (pt j)<|av (pf j 18)<|Lv (pt m.tp) (aL oz.aH 18)<|av (aC C)<|kV (Je C lZ) ?_;rintro e9 w5 ⟨ZP,D,u,qH,hb1⟩;refine⟨_,u,?_⟩;clear u;have⟨tN,mW,mK,mX,qI,qy,oG,rG,uW,tO,b5⟩:=ED hb1 oz lZ m32 pR nG oF nV rQ qG nU b4;obtain⟨l,H⟩ : ∃ q,q=dM.path m.T C:=⟨_,rfl⟩;rw[<- H]at qH ⊢;have hl4:l.length<=4:=by rw[H]; exact dM.yR
 refine av (au l.length)<|av (au 0)<|aD<|Wb ?_;have tJ:Mp w5 d 0 (fun q=>l.getD q 0) (sV m (fun x=>bH x v.o v.aQ) l):=uW.uT fun i hi=>M_ hi (z_ _);refine Wo (fun f k => ∃ i:Nat,i<=l.length/\jM (fun x=>bH x v.o v.aQ) (fun i=>DV m (l.getD i 0)) i=0/\f 2 = .func (.func 220) #[] #[(pt E)]/\f 3=(pt A)/\f 8=(pt y)/\f 19 = .slice ZP (l.length) (D)/\f 20=au (l.length:Int)/\f 21=au (i:Int)/\aR k j 29 (vJ m) 114/\sH k B m.tp m.mb m.T/\Mp k m.pb m.T.n m.T.x (DN m.T)/\Mp k m.rb m.T.n m.T.x (wQ m.R)/\iB k m.gb m.gn (fun i=>m.g i 0) (fun i=>m.g i 1) (uI m.g)/\iB k m.ab m.an m.ao m.ar DR/\aR k E 14 (bM v) 37/\aR k A 1 (fun _=>(pt j)) 28/\aR k y 1 (fun _ => .map (some d)) 109/\Fx.Own k O.heap.size 23 1 (.slice ZP (l.length) (D)) l.length (xI l)/\Mp k d i (fun q=>l.getD q 0) (sV m (fun x=>bH x v.o v.aQ) l)/\Below w.heap.size w k) (fun f _=>((l.length:Int)-intOf (f 21)).toNat) ⟨0,(by omega),rfl,(by rfl),(by rfl),(by rfl),(by rfl),Fx.ic,Fx.ic,tN,mW,mK,mX,qI,qy,oG,rG,tO,qH,tJ,b5⟩ ?_;rintro f1 w6 ⟨i,hi,K,h1,U,V,h4,W,G,vN,uN,uj,uX,xC,sw,sD,N,aa,qJ,ac,P⟩;refine ay ?_;by_cases c22:(i:Int)<(l.length:Int)
 ·refine Lv aG (gJ c22 (hx:=G) (hy:=W))<|aD<|Ws<|aM<|Wk<|sN<|Ws<|Wb<|ay ?_;obtain⟨Gg,S⟩:=qJ.addr (by omega);have nW:Fx.Own w6 O.heap.size 23 1 (bL Gg l.length D) l.length (xI l):=qJ.fB (L_ (fun q=>Value.slice q l.length D) S);refine Lv (pf Gg i) (cO 1 (hx:=(h4.trans (L_ (fun q=>Value.slice q (l.length) (D)) S))) (hi:=G))<|Lv (aC (l.getD i 0)) (aL nW.aH i)<|av (aC (l.getD i 0))<|aD<|Ws ?_;obtain⟨b,hjz,ejz⟩:=gX (dM.oo h.t.inv H _ (uV (show i<l.length by omega) rfl));have J:DV m (l.getD i 0)=m.R b:=by unfold DV dN.idx; rw[mZ h.t.inv.inj hjz ejz]
  refine Wl<|aX h1<|Lv (pt j) (aL N.aH 0 (ha:=U))<|av (pt j)<|av (pf j 20)<|Lv (.map (some m.rb)) (aL vN.aH 20)<|av (aC (l.getD i 0))<|Lv (.agg (aA 54 (rv .i64 (m.R b)))) (Fx.vZ (z := .agg (aA 54 (rv .i64 (fun _=>0)))) rfl rfl rfl uX Tryz.underlying109 Tryz.underlying23 (by kernel_rfl) hjz ejz rfl)<|Ao (by rfl) (Fx.Ez (args := [.agg (aA 54 (rv .i64 (m.R b)))]) rfl rfl rfl (all := #[.agg (aA 54 (rv .i64 (m.R b))),(pt E)]) rfl Tryz.func220 rfl rfl) rfl<|(Vm (m.R b) v E _ ho sD).mono ?_;rintro e w7 ⟨u,F⟩;refine⟨.tuple #[.agg (aA 54 (rv .i64 ((bH (m.R b) v.o v.aQ).1))),au ((bH (m.R b) v.o v.aQ).2)],by rw[u],?_⟩;clear u;have⟨tL,m64,xE,xg,vO,wz,sF,uO,uY,vP,vQ,b7⟩:=Oc F vN uN uj uX xC sw sD N aa ac nW P;refine av (.tuple #[.agg (aA 54 (rv .i64 ((bH (m.R b) v.o v.aQ).1))),au ((bH (m.R b) v.o v.aQ).2)])<|av (.agg (aA 54 (rv .i64 ((bH (m.R b) v.o v.aQ).1))))<|av (au ((bH (m.R b) v.o v.aQ).2))<|rD 54 (rv .i64 (fun _=>0)) fun g4 w8 JU ad s7 z5 => ?_;have⟨xk,zm,zn,yJ,xq,wB,wC,xW,zT,xX,AU,b8⟩:=Oc s7.old tL m64 xE xg vO wz sF uO uY vP vQ b7;have Qw:=iI JU b7.size;have⟨adn,ado,adp,adq,aoO,aoP,adJ,aoQ,adK,adL⟩:=ZM JU tL.lt xE.lt xg.lt vO.lt wz.lt sF.lt uO.lt uY.lt vP.lt vQ.lt;have OI:=ad.lt;refine eB ad 0 fun w9 Au s8 z6 => ?_;have Av:aR w9 g4 54 (rv .i64 ((bH (m.R b) v.o v.aQ).1)) 82:=aP Au;have jQ:=gQ s8 ad.ty;have⟨zU,zV,AV,EN,DJ,Cb,C9,zZ,Gd,Ec,Gf⟩:=ZL jQ xk zm zn yJ xq wB wC xW zT xX AU;have Q:=s8.below b8 b8.size (by omega);refine av (au ((bH (m.R b) v.o v.aQ).2))<|aD<|Ws<|ay<|av (au ((bH (m.R b) v.o v.aQ).2)) ?_;by_cases I:((bH (m.R b) v.o v.aQ).2)=0
  ·refine Lv aF (jJ I)<|aD<|aK<|Wk<|sN ?_;have hnd:l.Nodup:=(by rw[H]; exact dM.Aj h.t.inv C);have hny : ∀ q,q<i->(fun q=>l.getD q 0) q≠l.getD i 0:=fun q hq e=>by have:=CB hnd (show q<l.length by omega) (show i<l.length by omega) e; omega
   refine Wl<|Lv (.map (some d)) (aL Gd.aH 0 (ha:=V))<|av (aC (l.getD i 0))<|Lv (.agg (aA 54 (rv .i64 ((bH (m.R b) v.o v.aQ).1)))) (fC Av.aH 0)<|Fx.L.PN (by rfl) rfl rfl rfl rfl rfl Ec Tryz.underlying109 Tryz.underlying23 hny fun tH Gr s9 z7 => ?_;have s:=Ec.BN s9;have wK:=zU.dY s;have xZ:=zV.dY s (by omega);have wM:=AV.dY s (by omega);have uD:=EN.dY s (by omega);have qb:=DJ.dY s (by omega);have pG:=Cb.dY s (by omega);have qM:=C9.dY s;have qc:=zZ.dY s;have rJ:=Gd.dY s;have sQ:=Gf.dY s;have vB:=Av.dY s;have b10:=s9.below Q Q.size (by omega);have rM:Mp tH d (i+1) (fun q=>l.getD q 0) (sV m (fun x=>bH x v.o v.aQ) l):=Il Gr (by rw[J]);refine Ln<|bP<|sN<|Wl<|Lv (au ((i:Int)+1)) (fF (hx:=G))<|av (au ((i:Int)+1))<|Ln ?_;have uE:Fx.Own tH O.heap.size 23 1 (.slice ZP (l.length) (D)) l.length (xI l):=sQ.fB (L_ (fun q=>Value.slice q l.length D) S.symm);refine iq ⟨i+1,(by omega),(CF K (by rw[J]; exact I)),h1,U,V,h4,(W.trans Fx.ic),Fx.ic,wK,xZ,wM,uD,qb,pG,qM,qc,rJ,uE,rM,b10⟩ ?_;show((l.length:Int)-intOf (au ((i:Int)+1))).toNat<_;simp only[G,intOf]; omega
  refine Lv aG (nC I)<|aD<|aM<|ay<|av (au ((bH (m.R b) v.o v.aQ).2))<|av (.nilFunc)<|av (au ((bH (m.R b) v.o v.aQ).2))<|aD<|Wr<|sR<|bK<|sR<|pK<|bK<|sR<|aJ (.tuple #[.nilFunc,au ((bH (m.R b) v.o v.aQ).2)]) ?_;have M:dw m (fun x=>bH x v.o v.aQ) l=(bH (m.R b) v.o v.aQ).2:=by unfold dw; rw[Ak K (by rw[J]; exact I) _ (by omega),J]
  exact⟨⟨.nilFunc,0,#[],by rw[M],rfl,fun e0=>M_ (M.symm.trans e0) (by first|decide|omega|assumption)⟩,Q⟩
 refine Lv aF (gK c22 (hx:=G) (hy:=W))<|aD<|Ws<|aK<|Wx<|bW<|gP<|bX<|sN<|ay<|Lv (.func (.func 232) #[] #[(pt y),(pt A)]) (Fx.nu (us := []) (vs := [(pt y),(pt A)]) rfl rfl (Fx.args2 V U))<|av (.func (.func 232) #[] #[(pt y),(pt A)])<|av (au 0)<|aD<|Wr<|aJ (.tuple #[.func (.func 232) #[] #[(pt y),(pt A)],au 0]) ?_;have hil:i=l.length:=by omega
 rw[hil]at ac K;have hgm:m.rb≠d/\m.mb≠d/\m.pb≠d/\m.gb≠d/\m.ab≠d:=⟨by omega,by omega,by omega,by omega,by omega⟩;have M:dw m (fun x=>bH x v.o v.aQ) l=0:=K;exact⟨⟨_,232,#[(pt y),(pt A)],by rw[M],rfl,fun _=>⟨rfl,⟨_,_,Tryz.func232,rfl,rfl⟩,fun w2 F=>(Lx m j B w2 ((h.up P).up F) (fun x=>bH x v.o v.aQ) l d hgm (dM.oo h.t.inv H) (ac.up F) _ _ (aa.cB (Sb F) (u_ aa.lt)) (N.cB (Sb F) (u_ N.lt))).mono fun _ _ X=>⟨X.1,X.2.1,X.2.2.mono fun _ hk => .inl hk⟩⟩⟩,P⟩
theorem Vs(m:dN)(j B:Nat)(w:World)(h:lN w B j m)(C:Int)(v:EvM)(g:Nat->Int)(ho:1<=v.o/\v.o<=6)(E F:Nat)(u:aR w E 14 (bM v) 37)(Z:aR w F 5 (ji g) 106) :
 Calls Tryz.prog 219 #[(pt j),aC C,.func (.func 223) #[] #[(pt E),(pt F)]] w fun e w'=>Rf w B j m (qP m (fun x=>bI x v.o (g 3)) (m.T.path C)) (dw m (fun x=>bI x v.o (g 3)) (m.T.path C)) e w':=by
 have hC:=h.c;have hT:=h.t;have hP:=h.p;have hR:=h.r;have hG:=h.g;have hA:=h.a;have hN:=h.ne;have lC:=h.c.lt;have lT:=h.t.lt;have lP:=h.p.lt;have lR:=h.r.lt;have lG:=h.g.lt;have lA:=h.a.lt;have lge:=u.lt;have lgg:=Z.lt;refine Kent Tryz.func219 44 ?_;refine ay<|xS (pt j) fun A w1 lY m1 s1 z1 => ?_;have⟨m2,m3,m4,m5,m6,m7,m8,m9,b1⟩:=BL s1.old hC hT hP hR hG hA u Z (Below.refl w.heap.size w);have su:=gH lY;have⟨mJ,yw,xw,Bp,zI,KP,ags⟩:=MR lY hC.lt hP.lt hR.lt hG.lt hA.lt u.lt Z.lt;have ug:=m1.lt;refine av (.nilFunc)<|av (au 0)<|aD<|ay<|Fx.L.Ki (by rfl) rfl rfl fun d w2 zo m10 s2 z2 => ?_;have⟨m11,m12,m13,m14,m15,m16,m17,m18,m19,b2⟩:=uS s2.old m2 m3 m4 m5 m6 m7 m8 m9 m1 b1;have qK:=iI zo b1.size;have⟨Cv,Ai,FJ,BS,Tm,Tn,adD,aoR⟩:=Xm zo m2.lt m4.lt m5.lt m6.lt m7.lt m8.lt m9.lt m1.lt;have yK:=m10.lt;refine rD 1 (fun _ => .map none) fun y w3 yL m20 s3 z3 => ?_;have⟨m21,m22,m23,m24,mV,nO,ow,oD,nU,oz,b3⟩:=ED s3.old m11 m12 m13 m14 m15 m16 m17 m18 m19 m10 b2;have BQ:=iI yL b2.size;have⟨Vp,Vq,Vr,JD,adI,Nu,U4,U5,U6⟩:=Xn yL m11.lt m13.lt m14.lt m15.lt m16.lt m17.lt m18.lt m19.lt m10.lt;have G9:=m20.lt;refine jd m20 0 (.map (some d)) fun P lZ s4 z4 => ?_;have m32:aR P y 1 (fun _ => .map (some d)) 109:=dD lZ;have gY:=gQ s4 m20.ty;have⟨pR,nG,oF,nV,rQ,qG,qH,tN,mW,mK⟩:=Od gY m21 m22 m23 m24 mV nO ow oD nU oz;have b4:=s4.below b3 b3.size (by omega);refine aD<|Ws<|ay<|Lv (pt j) (aL mW.aH 0)<|av (pt j)<|av (pf j 18)<|Lv (pt m.tp) (aL pR.aH 18)<|av (aC C)<|kV (Je C nG) ?_;rintro e9 w5 ⟨ZP,D,u,mX,hb1⟩;refine⟨_,u,?_⟩;clear u;have⟨qI,qy,oG,rG,uW,tO,tJ,vN,uN,uj,uX,b5⟩:=Oc hb1 pR nG oF nV rQ qG qH tN mW mK m32 b4;obtain⟨l,I⟩ : ∃ q,q=dM.path m.T C:=⟨_,rfl⟩;rw[<- I]at mX ⊢;have hl4:l.length<=4:=by rw[I]; exact dM.yR
 refine av (au l.length)<|av (au 0)<|aD<|Wb ?_;have xC:Mp w5 d 0 (fun q=>l.getD q 0) (sV m (fun x=>bI x v.o (g 3)) l):=uj.uT fun i hi=>M_ hi (z_ _);refine Wo (fun f k => ∃ i:Nat,i<=l.length/\jM (fun x=>bI x v.o (g 3)) (fun i=>DV m (l.getD i 0)) i=0/\f 2 = .func (.func 223) #[] #[(pt E),(pt F)]/\f 3=(pt A)/\f 8=(pt y)/\f 19 = .slice ZP (l.length) (D)/\f 20=au (l.length:Int)/\f 21=au (i:Int)/\aR k j 29 (vJ m) 114/\sH k B m.tp m.mb m.T/\Mp k m.pb m.T.n m.T.x (DN m.T)/\Mp k m.rb m.T.n m.T.x (wQ m.R)/\iB k m.gb m.gn (fun i=>m.g i 0) (fun i=>m.g i 1) (uI m.g)/\iB k m.ab m.an m.ao m.ar DR/\aR k E 14 (bM v) 37/\aR k F 5 (ji g) 106/\aR k A 1 (fun _=>(pt j)) 28/\aR k y 1 (fun _ => .map (some d)) 109/\Fx.Own k P.heap.size 23 1 (.slice ZP (l.length) (D)) l.length (xI l)/\Mp k d i (fun q=>l.getD q 0) (sV m (fun x=>bI x v.o (g 3)) l)/\Below w.heap.size w k) (fun f _=>((l.length:Int)-intOf (f 21)).toNat) ⟨0,(by omega),rfl,(by rfl),(by rfl),(by rfl),(by rfl),Fx.ic,Fx.ic,qI,qy,oG,rG,uW,tO,tJ,vN,uN,uX,mX,xC,b5⟩ ?_;rintro f1 w6 ⟨i,hi,M,h1,V,W,h4,X,H,sw,sD,tK,xD,qJ,uz,nW,tL,O,xE,xg,vO,Q⟩;refine ay ?_;by_cases c22:(i:Int)<(l.length:Int)
 ·refine Lv aG (gJ c22 (hx:=H) (hy:=X))<|aD<|Ws<|aM<|Wk<|sN<|Ws<|Wb<|ay ?_;obtain⟨Gg,U⟩:=xg.addr (by omega);have wz:Fx.Own w6 P.heap.size 23 1 (bL Gg l.length D) l.length (xI l):=xg.fB (L_ (fun q=>Value.slice q l.length D) U);refine Lv (pf Gg i) (cO 1 (hx:=(h4.trans (L_ (fun q=>Value.slice q (l.length) (D)) U))) (hi:=H))<|Lv (aC (l.getD i 0)) (aL wz.aH i)<|av (aC (l.getD i 0))<|aD<|Ws ?_;obtain⟨b,hjz,ejz⟩:=gX (dM.oo h.t.inv I _ (uV (show i<l.length by omega) rfl));have K:DV m (l.getD i 0)=m.R b:=by unfold DV dN.idx; rw[mZ h.t.inv.inj hjz ejz]
  refine Wl<|aX h1<|Lv (pt j) (aL O.aH 0 (ha:=V))<|av (pt j)<|av (pf j 20)<|Lv (.map (some m.rb)) (aL sw.aH 20)<|av (aC (l.getD i 0))<|Lv (.agg (aA 54 (rv .i64 (m.R b)))) (Fx.vZ (z := .agg (aA 54 (rv .i64 (fun _=>0)))) rfl rfl rfl xD Tryz.underlying109 Tryz.underlying23 (by kernel_rfl) hjz ejz rfl)<|Ao (by rfl) (Fx.Ez (args := [.agg (aA 54 (rv .i64 (m.R b)))]) rfl rfl rfl (all := #[.agg (aA 54 (rv .i64 (m.R b))),(pt E),(pt F)]) rfl Tryz.func223 rfl rfl) rfl<|(Vn (m.R b) v g E F _ ho nW tL).mono ?_;rintro e w7 ⟨u,G⟩;refine⟨.tuple #[.agg (aA 54 (rv .i64 ((bI (m.R b) v.o (g 3)).1))),au ((bI (m.R b) v.o (g 3)).2)],by rw[u],?_⟩;clear u;have⟨sF,uO,uY,vP,vQ,zG,xk,zm,zn,yJ,xq,wB,b7⟩:=ZK G sw sD tK xD qJ uz nW tL O xE vO wz Q;refine av (.tuple #[.agg (aA 54 (rv .i64 ((bI (m.R b) v.o (g 3)).1))),au ((bI (m.R b) v.o (g 3)).2)])<|av (.agg (aA 54 (rv .i64 ((bI (m.R b) v.o (g 3)).1))))<|av (au ((bI (m.R b) v.o (g 3)).2))<|rD 54 (rv .i64 (fun _=>0)) fun g4 w8 JU wC s7 z5 => ?_;have⟨xW,zT,xX,AU,Au,Av,zU,zV,AV,EN,DJ,Cb,b8⟩:=ZK s7.old sF uO uY vP vQ zG xk zm zn yJ xq wB b7;have Qw:=iI JU b7.size;have⟨adJ,adK,adL,aoS,aoT,aoU,aoV,aoW,aoX,aoY,aoZ⟩:=afA JU sF.lt uY.lt vP.lt vQ.lt zG.lt xk.lt zm.lt zn.lt yJ.lt xq.lt wB.lt;have OI:=wC.lt;refine eB wC 0 fun w9 C9 s8 z6 => ?_;have zZ:aR w9 g4 54 (rv .i64 ((bI (m.R b) v.o (g 3)).1)) 82:=aP C9;have jQ:=gQ s8 wC.ty;have⟨Gd,Ec,Gf,Gr,wK,xZ,wM,uD,qb,pG,qM,qc⟩:=afz jQ xW zT xX AU Au Av zU zV AV EN DJ Cb;have S:=s8.below b8 b8.size (by omega);refine av (au ((bI (m.R b) v.o (g 3)).2))<|aD<|Ws<|ay<|av (au ((bI (m.R b) v.o (g 3)).2)) ?_;by_cases J:((bI (m.R b) v.o (g 3)).2)=0
  ·refine Lv aF (jJ J)<|aD<|aK<|Wk<|sN ?_;have hnd:l.Nodup:=(by rw[I]; exact dM.Aj h.t.inv C);have hny : ∀ q,q<i->(fun q=>l.getD q 0) q≠l.getD i 0:=fun q hq e=>by have:=CB hnd (show q<l.length by omega) (show i<l.length by omega) e; omega
   refine Wl<|Lv (.map (some d)) (aL pG.aH 0 (ha:=W))<|av (aC (l.getD i 0))<|Lv (.agg (aA 54 (rv .i64 ((bI (m.R b) v.o (g 3)).1)))) (fC zZ.aH 0)<|Fx.L.PN (by rfl) rfl rfl rfl rfl rfl qM Tryz.underlying109 Tryz.underlying23 hny fun tH rJ s9 z7 => ?_;have s:=qM.BN s9;have sQ:=Gd.dY s;have vB:=Ec.dY s (by omega);have rM:=Gf.dY s (by omega);have uE:=Gr.dY s (by omega);have zq:=wK.dY s (by omega);have vE:=xZ.dY s (by omega);have zu:=wM.dY s;have Cc:=uD.dY s;have xG:=qb.dY s;have uF:=pG.dY s;have qN:=qc.dY s;have yc:=zZ.dY s;have b10:=s9.below S S.size (by omega);have yg:Mp tH d (i+1) (fun q=>l.getD q 0) (sV m (fun x=>bI x v.o (g 3)) l):=Il rJ (by rw[K]);refine Ln<|bP<|sN<|Wl<|Lv (au ((i:Int)+1)) (fF (hx:=H))<|av (au ((i:Int)+1))<|Ln ?_;have uG:Fx.Own tH P.heap.size 23 1 (.slice ZP (l.length) (D)) l.length (xI l):=qN.fB (L_ (fun q=>Value.slice q l.length D) U.symm);refine iq ⟨i+1,(by omega),(CF M (by rw[K]; exact J)),h1,V,W,h4,(X.trans Fx.ic),Fx.ic,sQ,vB,rM,uE,zq,vE,zu,Cc,xG,uF,uG,yg,b10⟩ ?_;show((l.length:Int)-intOf (au ((i:Int)+1))).toNat<_;simp only[H,intOf]; omega
  refine Lv aG (nC J)<|aD<|aM<|ay<|av (au ((bI (m.R b) v.o (g 3)).2))<|av (.nilFunc)<|av (au ((bI (m.R b) v.o (g 3)).2))<|aD<|Wr<|sR<|bK<|sR<|pK<|bK<|sR<|aJ (.tuple #[.nilFunc,au ((bI (m.R b) v.o (g 3)).2)]) ?_;have N:dw m (fun x=>bI x v.o (g 3)) l=(bI (m.R b) v.o (g 3)).2:=by unfold dw; rw[Ak M (by rw[K]; exact J) _ (by omega),K]
  exact⟨⟨.nilFunc,0,#[],by rw[N],rfl,fun e0=>M_ (N.symm.trans e0) (by first|decide|omega|assumption)⟩,S⟩
 refine Lv aF (gK c22 (hx:=H) (hy:=X))<|aD<|Ws<|aK<|Wx<|bW<|gP<|bX<|sN<|ay<|Lv (.func (.func 232) #[] #[(pt y),(pt A)]) (Fx.nu (us := []) (vs := [(pt y),(pt A)]) rfl rfl (Fx.args2 W V))<|av (.func (.func 232) #[] #[(pt y),(pt A)])<|av (au 0)<|aD<|Wr<|aJ (.tuple #[.func (.func 232) #[] #[(pt y),(pt A)],au 0]) ?_;have hil:i=l.length:=by omega
 rw[hil]at vO M;have hgm:m.rb≠d/\m.mb≠d/\m.pb≠d/\m.gb≠d/\m.ab≠d:=⟨by omega,by omega,by omega,by omega,by omega⟩;have N:dw m (fun x=>bI x v.o (g 3)) l=0:=M;exact⟨⟨_,232,#[(pt y),(pt A)],by rw[N],rfl,fun _=>⟨rfl,⟨_,_,Tryz.func232,rfl,rfl⟩,fun w2 G=>(Lx m j B w2 ((h.up Q).up G) (fun x=>bI x v.o (g 3)) l d hgm (dM.oo h.t.inv I) (vO.up G) _ _ (xE.cB (Sb G) (u_ xE.lt)) (O.cB (Sb G) (u_ O.lt))).mono fun _ _ Y=>⟨Y.1,Y.2.1,Y.2.2.mono fun _ hk => .inl hk⟩⟩⟩,Q⟩
section
namespace Rt
def Br(k1 k2:Nat->Int):Nat->Int->Int->Bool
 | 0,_,_=>false
 | n+1,a,b=>(decide (k1 n=a)&&decide (k2 n=b)) || Br k1 k2 n a b
def wS(k1 k2:Nat->Int):Nat->Int->Int->Nat
 | 0,_,_=>0
 | n+1,a,b=>if k1 n=a/\k2 n=b then n else wS k1 k2 n a b
section
variable {k1 k2:Nat->Int} {a b:Int}
theorem lM : ∀ {n:Nat},Br k1 k2 n a b=true <-> ∃ j,j<n/\k1 j=a/\k2 j=b
 | 0=>⟨fun h=>(nomatch h),fun⟨j,h,_⟩=>M_ h (z_ _)⟩
 | n+1=>by
   unfold Br;rw[Bool.or_eq_true,S_,P_,P_,lM];constructor
   ·rintro (⟨f,c⟩|⟨j,f,c,d⟩)
    ·exact⟨n,by omega,f,c⟩
    ·exact⟨j,by omega,c,d⟩
   ·rintro ⟨j,f,c,d⟩;by_cases e:j=n
    ·subst e; exact .inl ⟨c,d⟩
    ·exact .inr ⟨j,by omega,c,d⟩
theorem sZ{n j:Nat}(e:j<n)(c:k1 j=a)(d:k2 j=b):Br k1 k2 n a b=true:=lM.2 ⟨j,e,c,d⟩
theorem pV{n:Nat}(h : ∀ i,i<n -> ¬ (k1 i=a/\k2 i=b)):Br k1 k2 n a b=false:=by
 cases e:Br k1 k2 n a b with
 | false=>rfl
 | true=>obtain⟨j,f,c,d⟩:=lM.1 e; exact M_ ⟨c,d⟩ (h j f)
theorem yS{j:Nat} : ∀ {n:Nat},(∀ p q,p<n->q<n->k1 p=k1 q->k2 p=k2 q->p=q)->j<n->k1 j=a->k2 j=b->wS k1 k2 n a b=j
 | 0,_,h,_,_=>M_ h (z_ _)
 | n+1,hi,hj,e1,e2=>by
   unfold wS;by_cases c:k1 n=a/\k2 n=b
   ·rw[d_ c]; exact hi n j (by omega) hj (c.1.trans e1.symm) (c.2.trans e2.symm)
   ·rw[b_ c];refine yS (fun p q d f=>hi p q (by omega) (by omega)) ?_ e1 e2;by_cases e:j=n
    ·subst e; exact M_ ⟨e1,e2⟩ c
    ·omega
end
theorem Em{v:EvM}(h:bR v=true)(a:gD v):Fx.Dy v.o v.req/\Fx.Dy v.o v.of:=by
 have d:=oh h;have b:=a.req;have c:=a.of;unfold iP at b c;exact⟨⟨by omega,by omega⟩,⟨by omega,by omega⟩⟩
theorem YG{w:World}{b k n:Nat}{g:Nat->Nat->Int}{o r:Int}{y:Nat->Value}(h:iB w b k (aO (fun i=>g i 0) n o) (aO (fun i=>g i 1) n r) (aO (uI g) n (.agg (aA 5 y))))(x:Nat->Int)(e0:x 0=o)(a:x 1=r)(d : ∀ j,j<5->y j=ji x j) :
 iB w b k (fun i=>aO g n x i 0) (fun i=>aO g n x i 1) (uI (aO g n x)):=h.uT fun i _=>by
 unfold aO uI;by_cases c:i=n
 ·subst c;refine⟨?_,?_,?_⟩
  ·show(if i=i then o else g i 0)=(if i=i then x else g i) 0;rw[d_ rfl,d_ rfl,e0]
  ·show(if i=i then r else g i 1)=(if i=i then x else g i) 1;rw[d_ rfl,d_ rfl,a]
  ·show(if i=i then Value.agg (aA 5 y)else _)=Value.agg (aA 5 (ji (if i=i then x else g i)));rw[d_ rfl,d_ rfl,Fx.dW d]
 ·refine⟨?_,?_,?_⟩
  ·show(if i=n then o else g i 0)=(if i=n then x else g i) 0;rw[b_ c,b_ c]
  ·show(if i=n then r else g i 1)=(if i=n then x else g i) 1;rw[b_ c,b_ c]
  ·show(if i=n then Value.agg (aA 5 y)else Value.agg (aA 5 (ji (g i))))=Value.agg (aA 5 (ji (if i=n then x else g i)));rw[b_ c,b_ c]
theorem YH{w:World}{b n j:Nat}{g:Nat->Nat->Int}{x:Nat->Int}(h:iB w b n (fun i=>g i 0) (fun i=>g i 1) (aO (uI g) j (.agg (aA 5 (ji x)))))(e0:x 0=g j 0)(a:x 1=g j 1) :
 iB w b n (fun i=>aO g j x i 0) (fun i=>aO g j x i 1) (uI (aO g j x)):=h.uT fun i _=>by
 unfold aO uI;show g i 0=(if i=j then x else g i) 0/\g i 1=(if i=j then x else g i) 1/\_=Value.agg (aA 5 (ji (if i=j then x else g i)));by_cases c:i=j
 ·subst c; rw[d_ rfl,d_ rfl]; exact⟨e0.symm,a.symm,rfl⟩
 ·rw[b_ c,b_ c]; exact⟨rfl,rfl,rfl⟩
theorem O6{w:World}{b k n:Nat}{o r:Nat->Int}{x y:Int}(h:iB w b k (aO o n x) (aO r n y) (aO DR n (.bool true))):iB w b k (aO o n x) (aO r n y) DR:=h.uT fun i _=>⟨rfl,rfl,by unfold aO DR; split <;> rfl⟩
theorem ahy(x:Nat->Int)(r:Int):dA (ji x) 4 (aC r)=ji (upd x 4 r):=by
 funext p
 unfold dA;by_cases c:p=4
 ·subst c; rw[d_ rfl]; rfl
 rw[b_ c]; unfold ji upd;by_cases a:p=0
 ·rw[d_ a,d_ a]; rfl
 rw[b_ a,b_ a];by_cases b:p=3
 ·rw[d_ b,d_ b]; rfl
 rw[b_ b,b_ b,b_ c]
def Gj(a b:Int):Nat->Value:=fun p=>if p=0 then au a else aC b
def Vt(m:dN)(a:Nat->Nat->Int)(v:EvM):dN := { m with R:=a,an:=m.an+1,ao:=aO m.ao m.an v.o,ar:=aO m.ar m.an v.req,gn:=m.gn+1,g:=aO m.g m.gn (pU v) }
def O7(m:dN)(a:Nat->Nat->Int)(v:EvM)(j:Nat):dN := { m with R:=a,an:=m.an+1,ao:=aO m.ao m.an v.o,ar:=aO m.ar m.an v.req,g:=aO m.g j (upd (m.g j) 4 v.req) }
structure Bw(w0 w:World):Prop where
 b:Below w0.heap.size w0 w
theorem Bw.up{a w w':World}(h:Bw a w)(c:Below w.heap.size w w'):Bw a w':=⟨Mq h.b c⟩
instance {a w w':World}:Rt.Tr w w' (Bw a w) (Bw a w'):=⟨fun b h=>h.up b⟩
end Rt
theorem adM{y:Nat->Value}{a b:Int}(c:y 0=au a)(h1:y 1=aC b){w:World}{g:Nat}(h:aR w g 2 y 117):aR w g 2 (Gj a b) 117:=h.congr fun j d=>by
 rcases(show j=0\/j=1 by omega)with rfl|rfl
 ·exact c
 ·exact h1
structure LtT(gl gq ge b:Nat):Prop where
 gl:gl<b
 gq:gq<b
 ge:ge<b
structure LtF(gl gq ge gg go b:Nat):Prop where
 gl:gl<b
 gq:gq<b
 ge:ge<b
 gg:gg<b
 go:go<b
theorem Vu(m:dN)(l B:Nat)(w:World)(h:lN w B l m)(v:EvM)(hv:bR v=true)(hwf:gD v)(I:Nat->Nat->Int)(D J G:Nat)(adN:J<=D)(cap:Array Value)(U:UM w B l m { m with R:=I } D (.func (.func G) #[] cap) G cap)(S:Nat)(K:Nat)(M:Nat)(A:Nat)(Y:aR w S 1 (fun _ => .func (.func G) #[] cap) 123)(hl:aR w K 1 (fun _=>(pt l)) 28)(hq:aR w M 2 (Gj v.o v.req) 117)(E:aR w A 14 (bM v) 37)(N:LtT K M A D)(hnz : ∀ i,i<m.an -> ¬ (m.ao i=v.o/\m.ar i=v.req))(hny : ∀ i,i<m.gn -> ¬ ((fun i=>m.g i 0) i=v.o/\(fun i=>m.g i 1) i=v.req)) :
 Calls Tryz.prog 222 #[(pt S),(pt K),(pt M),(pt A)] w fun e w'=>e = .returned (.tuple #[])/\lN w' B l (Vt m I v)/\jV (UL m l J) w w':=by
 have hC:=h.c;have hT:=h.t;have hP:=h.p;have hR:=h.r;have hG:=h.g;have hA:=h.a;have d:=h.ne;have lC:=h.c.lt;have lT:=h.t.lt;have lP:=h.p.lt;have lR:=h.r.lt;have lG:=h.g.lt;have lA:=h.a.lt;have lgd:=Y.lt;have ZO:=hl.lt;have lgq:=hq.lt;have lge:=E.lt;have Z:=Em hv hwf;refine Kent Tryz.func222 25 ?_;refine ay<|Lv (.func (.func G) #[] cap) (aL Y.aH 0)<|Ao (by rfl) (Fx.OQ (args := []) rfl rfl rfl (by simp) U.f) rfl<|(U.s _ (Below.refl _ _)).mono ?_;rintro e9 z ⟨E,C,H⟩;refine⟨_,E,?_⟩;clear E;have V:=H.mono (S':=UL m l J) fun k hk=>hk.imp id (m_ adN);have m1:aR z l 29 (vJ m) 114:=C.c;have lm1:=m1.lt;have m2:sH z B m.tp m.mb m.T:=C.t;have lm2:=m2.lt;have m3:Mp z m.pb m.T.n m.T.x (DN m.T):=C.p;have lm3:=m3.lt;have m4:Mp z m.rb m.T.n m.T.x (wQ (I)):=C.r;have lm4:=m4.lt;have m5:iB z m.gb m.gn (fun i=>m.g i 0) (fun i=>m.g i 1) (uI m.g):=C.g;have lm5:=m5.lt;have m6:iB z m.ab m.an m.ao m.ar DR:=C.a;have lm6:=m6.lt;have m7:=h.Jy hl (by decide) H N.gl;have lm7:=m7.lt;have m8:=h.Jy hq (by decide) H N.gq;have lm8:=m8.lt;have m9:=h.Jy E (by decide) H N.ge;have lm9:=m9.lt;refine aD<|Ws ?_;refine jW [0,1,2,3,4,5] [4,0,0,4,4,3] [(5,0,[0]),(5,3,[3]),(5,4,[4])] fun qE W iC => ?_;have s1:Stp z.heap.size z qE:=Sb W;have⟨m10,m11,m12,m13,m14,m15,m16,m17,m18⟩:=BL W m1 m2 m3 m4 m5 m6 m7 m8 m9;have D:=V.then s1 (.inr V.size);refine Rs (pt l) (aL m16.aH 0) ?_;refine aY (pt l)<|aY (pf l 28)<|Rs (.map (some m.ab)) (aL m10.aH 28) ?_;refine Rs (.agg (aA 2 (Gj v.o v.req))) (fC m17.aH 0) ?_;refine gW<|Fx.L.RY (by rfl) rfl rfl rfl ((show ev _ _ = .agg (aA 2 (Gj v.o v.req))from rfl).trans (Fx.zD (y:=Gj v.o v.req) (a:=v.o) (b:=v.req) rfl rfl)) Z.1 rfl m15 Tryz.underlying112 Gw hnz fun O m19 s2 z1 => ?_;have q:=m15.BN s2;have m20:=m10.dY q;have m21:=m11.dY q (d.ma);have m22:=m12.dY q (d.pa);have m23:=m13.dY q (d.ra);have m24:=m14.dY q (d.ga);have mV:=m16.dY q;have nO:=m17.dY q;have ow:=m18.dY q;have Q:=D.then s2 (.inl (.inl (.inr (.inr (.inr (.inr (.inr rfl)))))));have oD:iB O m.ab (m.an+1) (aO m.ao m.an v.o) (aO m.ar m.an v.req) DR:=O6 m19;refine Ln<|bQ ?_;refine jW [5,7,9,11,0,1,2,3,4,6,8,10,12,13,14] [4,0,0,4,4,0,4,0,4,0,4,0,4,0,3] [(14,0,[0]),(14,3,[3]),(14,4,[4]),(14,6,[6]),(14,8,[8]),(14,10,[10]),(14,12,[12])] fun CZ X nT => ?_;have s3:Stp O.heap.size O CZ:=Sb X;have⟨nU,oz,lZ,m32,pR,nG,oF,F,rQ⟩:=BL X m20 m21 m22 m23 m24 mV nO ow oD;have b3:=Q.then s3 (.inr Q.size);refine aY (pt A)<|aY (pf A 12)<|aY (pf A 9)<|aY (pf A 11)<|Rs (pt l) (aL nG.aH 0) ?_;refine aY (pt l)<|aY (pf l 27)<|Rs (.map (some m.gb)) (aL nU.aH 27) ?_;refine Rs (.agg (aA 2 (Gj v.o v.req))) (fC oF.aH 0) ?_;refine Rs (au v.o) (aL F.aH 0) ?_;refine Rs (aC v.req) (aL F.aH 12) ?_;refine Rs (aC v.node) (aL F.aH 9) ?_;refine Rs (au v.aQ) (aL F.aH 11) ?_;refine aY (.agg (aA 5 (bC (bC (bC (bC (fun P=>if P<1 then au 0 else if P<3 then aC 0 else if P<4 then au 0 else aC 0) 0 1 (fun _=>au v.o)) 1 1 (fun _=>aC v.req)) 2 1 (fun _=>aC v.node)) 3 1 (fun _=>au v.aQ))))<|gW<|Fx.L.RY (by rfl) rfl rfl rfl ((show ev _ _ = .agg (aA 2 (Gj v.o v.req))from rfl).trans (Fx.zD (y:=Gj v.o v.req) (a:=v.o) (b:=v.req) rfl rfl)) Z.1 rfl pR Tryz.underlying111 Gw hny fun w3 qG s4 z2 => ?_;have u:=pR.BN s4;have qH:=nU.dY u;have tN:=oz.dY u (d.mg);have mW:=lZ.dY u (d.pg);have mK:=m32.dY u (d.rg);have mX:=nG.dY u;have qI:=oF.dY u;have qy:=F.dY u;have oG:=rQ.dY u (Ne.symm d.ga);have b4:=b3.then s4 (.inl (.inl (.inr (.inr (.inr (.inr (.inl rfl)))))));have rG:iB w3 m.gb (m.gn+1) (fun i=>aO m.g m.gn (pU v) i 0) (fun i=>aO m.g m.gn (pU v) i 1) (uI (aO m.g m.gn (pU v))):=YG qG (pU v) rfl rfl (by intro j hj; rcases(show j=0\/j=1\/j=2\/j=3\/j=4 by omega)with rfl|rfl|rfl|rfl|rfl <;> rfl)
 refine Ln (Rn (⟨.tuple #[],iN Tryz.results222,?_⟩));unfold Vt;exact⟨rfl,{ c:=qH,t:=tN,p:=mW,r:=mK,g:=rG,a:=oG,ne:=⟨d.mp,d.mr,d.mg,d.ma,d.pr,d.pg,d.pa,d.rg,d.ra,d.ga⟩,lB:=h.lB,pB:=h.pB,rB:=h.rB,gB:=h.gB,aB:=h.aB },b4⟩
theorem Vv(m:dN)(l B:Nat)(w:World)(h:lN w B l m)(v:EvM)(hv:bR v=true)(hwf:gD v)(K:Nat->Nat->Int)(E H I:Nat)(adN:H<=E)(cap:Array Value)(S:UM w B l m { m with R:=K } E (.func (.func I) #[] cap) I cap)(j:Nat)(Q:Nat)(M:Nat)(N:Nat)(J:Nat)(A:Nat)(go:Nat)(X:aR w Q 1 (fun _ => .func (.func I) #[] cap) 123)(hl:aR w M 1 (fun _=>(pt l)) 28)(hq:aR w N 2 (Gj v.o v.req) 117)(F:aR w J 14 (bM v) 37)(Y:aR w A 5 (ji (m.g j)) 106)(hof:aR w go 2 (Gj v.o v.of) 117)(hgg:H<=A)(G:LtF M N J A go E)(hnz : ∀ i,i<m.an -> ¬ (m.ao i=v.o/\m.ar i=v.req))(Z:j<m.gn)(ejy:(fun i=>m.g i 0) j=v.o)(fjy:(fun i=>m.g i 1) j=v.of) :
 Calls Tryz.prog 225 #[(pt Q),(pt M),(pt N),(pt J),(pt A),(pt go)] w fun e w'=>e = .returned (.tuple #[])/\lN w' B l (O7 m K v j)/\jV (UL m l H) w w':=by
 have hC:=h.c;have hT:=h.t;have hP:=h.p;have hR:=h.r;have hG:=h.g;have hA:=h.a;have d:=h.ne;have lC:=h.c.lt;have lT:=h.t.lt;have lP:=h.p.lt;have lR:=h.r.lt;have lG:=h.g.lt;have lA:=h.a.lt;have lgd:=X.lt;have ZO:=hl.lt;have lgq:=hq.lt;have lge:=F.lt;have lgg:=Y.lt;have lgo:=hof.lt;have aa:=Em hv hwf;have awh:=Z;refine Kent Tryz.func225 22 ?_;refine ay<|Lv (.func (.func I) #[] cap) (aL X.aH 0)<|Ao (by rfl) (Fx.OQ (args := []) rfl rfl rfl (by simp) S.f) rfl<|(S.s _ (Below.refl _ _)).mono ?_;rintro e9 z ⟨F,D,C⟩;refine⟨_,F,?_⟩;clear F;have U:=C.mono (S':=UL m l H) fun k hk=>hk.imp id (m_ adN);have m1:aR z l 29 (vJ m) 114:=D.c;have lm1:=m1.lt;have m2:sH z B m.tp m.mb m.T:=D.t;have lm2:=m2.lt;have m3:Mp z m.pb m.T.n m.T.x (DN m.T):=D.p;have lm3:=m3.lt;have m4:Mp z m.rb m.T.n m.T.x (wQ (K)):=D.r;have lm4:=m4.lt;have m5:iB z m.gb m.gn (fun i=>m.g i 0) (fun i=>m.g i 1) (uI m.g):=D.g;have lm5:=m5.lt;have m6:iB z m.ab m.an m.ao m.ar DR:=D.a;have lm6:=m6.lt;have m7:=h.Jy hl (by decide) C G.gl;have lm7:=m7.lt;have m8:=h.Jy hq (by decide) C G.gq;have lm8:=m8.lt;have m9:=h.Jy F (by decide) C G.ge;have lm9:=m9.lt;have m10:=h.Jy Y (by decide) C G.gg;have awi:=m10.lt;have m11:=h.Jy hof (by decide) C G.go;have awj:=m11.lt;refine aD<|Ws ?_;refine jW [0,1,2,3,4,5] [4,0,0,4,4,3] [(5,0,[0]),(5,3,[3]),(5,4,[4])] fun qE V iC => ?_;have s1:Stp z.heap.size z qE:=Sb V;have⟨m12,m13,m14,m15,m16,m17,m18,m19,m20,m21,m22⟩:=ED V m1 m2 m3 m4 m5 m6 m7 m8 m9 m10 m11;have E:=U.then s1 (.inr U.size);refine Rs (pt l) (aL m18.aH 0) ?_;refine aY (pt l)<|aY (pf l 28)<|Rs (.map (some m.ab)) (aL m12.aH 28) ?_;refine Rs (.agg (aA 2 (Gj v.o v.req))) (fC m19.aH 0) ?_;refine gW<|Fx.L.RY (by rfl) rfl rfl rfl ((show ev _ _ = .agg (aA 2 (Gj v.o v.req))from rfl).trans (Fx.zD (y:=Gj v.o v.req) (a:=v.o) (b:=v.req) rfl rfl)) aa.1 rfl m17 Tryz.underlying112 Gw hnz fun w2 m23 s2 z1 => ?_;have q:=m17.BN s2;have m24:=m12.dY q;have mV:=m13.dY q (d.ma);have nO:=m14.dY q (d.pa);have ow:=m15.dY q (d.ra);have oD:=m16.dY q (d.ga);have nU:=m18.dY q;have oz:=m19.dY q;have lZ:=m20.dY q;have m32:=m21.dY q;have pR:=m22.dY q;have b2:=E.then s2 (.inl (.inl (.inr (.inr (.inr (.inr (.inr rfl)))))));have nG:iB w2 m.ab (m.an+1) (aO m.ao m.an v.o) (aO m.ar m.an v.req) DR:=O6 m23;refine Ln<|bQ<|ay<|av (pf J 12)<|Lv (aC v.req) (aL lZ.aH 12)<|av (pf A 4)<|jd m32 4 (aC v.req) fun O oF s3 z2 => ?_;have nV:aR O A 5 (ji (upd (m.g j) 4 v.req)) 106:=oF.to (ahy _ _);have gY:=gQ s3 m32.ty;have⟨rQ,qG,qH,tN,mW,mK,mX,qI,qy,oG⟩:=Od gY m24 mV nO ow oD nU oz lZ pR nG;have P:=b2.then s3 (.inl (.inr hgg));refine aD ?_;refine jW [0,1,2,3,4,5,6] [4,0,0,4,4,4,3] [(6,0,[0]),(6,3,[3]),(6,4,[4]),(6,5,[5])] fun CZ W nT => ?_;have s4:Stp O.heap.size O CZ:=Sb W;have⟨rG,uW,tO,tJ,vN,uN,uj,uX,xC,sw,sD⟩:=ED W rQ qG qH tN mW mK mX qI qy oG nV;have b4:=P.then s4 (.inr P.size);refine Rs (pt l) (aL uN.aH 0) ?_;refine aY (pt l)<|aY (pf l 27)<|Rs (.map (some m.gb)) (aL rG.aH 27) ?_;refine Rs (.agg (aA 2 (Gj v.o v.of))) (fC xC.aH 0) ?_;refine Rs (.agg (aA 5 (ji (upd (m.g j) 4 v.req)))) (fC sD.aH 0) ?_;refine gW<|Fx.L.afB (by rfl) rfl rfl rfl ((show ev _ _ = .agg (aA 2 (Gj v.o v.of))from rfl).trans (Fx.zD (y:=Gj v.o v.of) (a:=v.o) (b:=v.of) rfl rfl)) aa.2 rfl vN Tryz.underlying111 Gw Z ejy fjy fun w4 tK s5 z3 => ?_;have u:=vN.BN s5;have xD:=rG.dY u;have qJ:=uW.dY u (d.mg);have uz:=tO.dY u (d.pg);have nW:=tJ.dY u (d.rg);have tL:=uN.dY u;have m64:=uj.dY u;have xE:=uX.dY u;have xg:=xC.dY u;have vO:=sw.dY u (Ne.symm d.ga);have wz:=sD.dY u;have b5:=b4.then s5 (.inl (.inl (.inr (.inr (.inr (.inr (.inl rfl)))))));have sF:iB w4 m.gb m.gn (fun i=>aO m.g j (upd (m.g j) 4 v.req) i 0) (fun i=>aO m.g j (upd (m.g j) 4 v.req) i 1) (uI (aO m.g j (upd (m.g j) 4 v.req))):=YH tK rfl rfl;refine Ln (Rn (⟨.tuple #[],iN Tryz.results225,?_⟩));unfold O7;exact⟨rfl,{ c:=xD,t:=qJ,p:=uz,r:=nW,g:=sF,a:=vO,ne:=⟨d.mp,d.mr,d.mg,d.ma,d.pr,d.pg,d.pa,d.rg,d.ra,d.ga⟩,lB:=h.lB,pB:=h.pB,rB:=h.rB,gB:=h.gB,aB:=h.aB },b5⟩
end
namespace Rt
def gZ(m:dN)(o r:Int):Bool:=Br m.ao m.ar m.an o r
def iL(m:dN)(o r:Int):Bool:=Br (fun i=>m.g i 0) (fun i=>m.g i 1) m.gn o r
def fD(m:dN)(o r:Int):Nat:=wS (fun i=>m.g i 0) (fun i=>m.g i 1) m.gn o r
noncomputable def Vw(m:dN)(v:EvM):dN:=qP m (fun x=>bH x v.o v.aQ) (m.T.path v.node)
def jU(m:dN)(v:EvM):Int:=if gZ m v.o v.req=true then 14 else if m.T.has v.node=false then 9 else dw m (fun x=>bH x v.o v.aQ) (m.T.path v.node)
noncomputable def kJ(m:dN)(v:EvM):dN:=Vt m (Vw m v).R v
noncomputable def Vx(m:dN)(v:EvM):dN:=qP m (fun x=>bI x v.o (m.g (fD m v.o v.of) 3)) (m.T.path (m.g (fD m v.o v.of) 2))
def jv(m:dN)(v:EvM):Int:=if gZ m v.o v.req=true then 14 else if iL m v.o v.of=false\/m.g (fD m v.o v.of) 4≠0 then 12 else dw m (fun x=>bI x v.o (m.g (fD m v.o v.of) 3)) (m.T.path (m.g (fD m v.o v.of) 2))
noncomputable def iH(m:dN)(v:EvM):dN:=O7 m (Vx m v).R v (fD m v.o v.of)
def QN(m:dN):Prop := ∀ i,i<m.gn->gZ m (m.g i 0) (m.g i 1)=true
end Rt
theorem Fx.ahz{f:Nat->Value}{x1 x2 e g h i:Operand}{v1 v2 a b c d:Value}(h1:ev f x1=v1)(j:ev f x2=v2)(k:ev f e=a)(l:ev f g=b)(m:ev f h=c)(n:ev f i=d) : [x1,x2,e,g,h,i].map (ev f) = [v1,v2,a,b,c,d]:=by rw[List.map_cons,h1,Fx.aft j k l m n]
theorem UM.up{w w':World}{B d a b:Nat}{m e:dN}{c:Value}{cap:Array Value}(h:UM w B d m e a c b cap)(f:Below w.heap.size w w'):UM w' B d m e a c b cap := { h with s:=fun i g=>h.s i (Mq f g) }
instance {w w':World} {B e a c:Nat} {m f:dN} {d:Value} {cap:Array Value}:Rt.Tr w w' (UM w B e m f a d c cap) (UM w' B e m f a d c cap):=⟨fun b h=>h.up b⟩
theorem YI(m:dN)(d B:Nat)(w:World)(h:lN w B d m)(v:EvM)(M:bR v=true)(hwf:gD v)(hga:QN m) :
 Calls Tryz.prog 209 #[(pt d),.agg (aA 14 (bM v))] w fun e w'=>Rf w B d m (kJ m v) (jU m v) e w':=by
 have hC:=h.c;have hT:=h.t;have hP:=h.p;have hR:=h.r;have hG:=h.g;have hA:=h.a;have hN:=h.ne;have lC:=h.c.lt;have lT:=h.t.lt;have lP:=h.p.lt;have lR:=h.r.lt;have lG:=h.g.lt;have lA:=h.a.lt;obtain⟨a,ha,ho⟩ : ∃ a:Nat,a<6/\v.o=(a:Int)+1:=eX (iU M);have hra:aN v=a:=by unfold aN; omega
 have hko:=Em M hwf;have hvo:1<=v.o/\v.o<=6:=by omega
 refine Kent Tryz.func209 40 ?_;refine ay<|xS (pt d) fun C w1 lY N s1 z1 => ?_;have⟨m2,m3,m4,m5,m6,m7,V⟩:=jK s1.old hC hT hP hR hG hA (Below.refl w.heap.size w);have su:=gH lY;have⟨mJ,yw,xw,Bp,zI⟩:=zQ lY hC.lt hP.lt hR.lt hG.lt hA.lt;have ug:=N.lt;refine oL fun f w2 zo D s2 z2 => ?_;have⟨m9,m10,m11,m12,m13,m14,m15,W⟩:=nD s2.old m2 m3 m4 m5 m6 m7 N V;have qK:=iI zo V.size;have⟨Lj,Cv,FI,Ai,FJ,BS⟩:=I6 zo m2.lt m4.lt m5.lt m6.lt m7.lt N.lt;have yK:=D.lt;refine av (.nilFunc)<|av (au 0)<|aD<|ay<|av (pt f)<|Lv (au v.o) (aL D.aH 0)<|av (pf f 12)<|Lv (aC v.req) (aL D.aH 12)<|av (.agg (aA 2 (bC (bC (fun q=>if q<1 then au 0 else aC 0) 0 1 (fun _=>au v.o)) 1 1 (fun _=>aC v.req))))<|rD 2 (fun q=>if q<1 then au 0 else aC 0) fun l w3 yL O s3 z3 => ?_;have⟨m17,m18,m19,m20,m21,m22,m23,m24,X⟩:=BL s3.old m9 m10 m11 m12 m13 m14 m15 D W;have BQ:=iI yL W.size;have⟨adO,adG,apb,Vp,adH,Vq,Vr⟩:=MR yL m9.lt m11.lt m12.lt m13.lt m14.lt m15.lt D.lt;have G9:=O.lt;refine eB O 0 (h1:=(bE (bE (fun jq _=>by show((fun q=>if q<1 then au 0 else aC 0:Nat->Value) jq).oneCell'=true; simp only[]; repeat (first|rfl|split)) (fun _ _=>rfl)) (fun _ _=>rfl))) fun w4 mV s4 z4 => ?_
 have nO:aR w4 l 2 (bC (bC (fun q=>if q<1 then au 0 else aC 0) 0 1 (fun _=>au v.o)) 1 1 (fun _=>aC v.req)) 117:=aP mV;have ow:aR w4 l 2 (Gj v.o v.req) 117:=adM (Fx.Az (by omega) (Fx.qA (j:=0) (by omega) (by omega) rfl)) (Fx.qA (j:=0) (by omega) (by omega) rfl) nO;have gY:=gQ s4 O.ty;have⟨oD,nU,oz,lZ,m32,pR,nG,oF⟩:=abb gY m17 m18 m19 m20 m21 m22 m23 m24;have b4:=s4.below X X.size (by omega);refine aD<|Ws<|Ws ?_;refine jW [0,1,2,3,4,5] [4,0,0,4,4,4] [] fun qE dP iC => ?_;have⟨nV,rQ,qG,qH,tN,P,mK,mX,qI,Y⟩:=uS dP oD nU oz lZ m32 pR nG oF ow b4;refine Rs (pt d) (aL mK.aH 0) ?_;refine aY (pt d)<|aY (pf d 28)<|Rs (.map (some m.ab)) (aL nV.aH 28) ?_;refine Rs (.agg (aA 2 (Gj v.o v.req))) (fC qI.aH 0) ?_
 rcases Fx.xU m.ao m.ar m.an v.o v.req with ⟨Vg,Di,Dj,LA⟩|jC
 ·refine Rs aG (Fx.Km (z := .bool false) rfl rfl ((show ev _ _ = .agg (aA 2 (Gj v.o v.req))from rfl).trans (Fx.zD (y:=Gj v.o v.req) (a:=v.o) (b:=v.req) rfl rfl)) hko.1 P Tryz.underlying112 Gw (by rfl) Di Dj LA rfl) ?_;refine bQ<|aM<|ay<|av (.nilFunc)<|av (au 14)<|aD<|Wr<|sR<|aJ (.tuple #[.nilFunc,au 14]) ?_;have k:jU m v=14:=by unfold jU; exact d_ (sZ Di Dj LA)
  exact⟨⟨.nilFunc,0,#[],by rw[k],rfl,fun A=>M_ (k.symm.trans A) (by first|decide|omega|assumption)⟩,Y⟩
 refine Rs aF (Fx.Kl (z := .bool false) rfl rfl ((show ev _ _ = .agg (aA 2 (Gj v.o v.req))from rfl).trans (Fx.zD (y:=Gj v.o v.req) (a:=v.o) (b:=v.req) rfl rfl)) hko.1 P Tryz.underlying112 Gw (by rfl) jC) ?_;refine bQ<|aK<|Wk<|sN<|Ws<|Ws ?_;refine jW [4,0,1,2,3,5,6,7] [4,0,0,4,0,4,3,0] [(6,0,[3,2,1,0]),(6,3,[3]),(6,5,[5]),(7,6,[6])] fun CZ gL nT => ?_;have⟨qy,oG,rG,uW,tO,tJ,Q,G,uj,I⟩:=uS gL nV rQ qG qH tN P mK mX qI Y;refine aY (pf f 9)<|Rs (pt d) (aL Q.aH 0) ?_;refine aY (pt d)<|aY (pf d 18)<|Rs (pt m.tp) (aL qy.aH 18) ?_;refine Rs (aC v.node) (aL G.aH 9) ?_;refine gW ?_;by_cases s:(dM.has m.T v.node)=true
 ·refine kQ (Z5 v.node oG) aG (by rw[s])<|Ln<|aY aF<|bQ<|aK<|Wk<|sN<|ay<|Lv (pt d) (aL Q.aH 0)<|av (pf f 9)<|Lv (aC v.node) (aL G.aH 9)<|Lv (.func (.func 220) #[] #[(pt f)]) (Fx.nu (us := []) (vs := [(pt f)]) rfl rfl rfl)<|kV (Vo m d B _ (h.up I) v.node v hvo f G) ?_;rintro e9 H ⟨⟨F,fi1,PX,he,ho1,hD1⟩,hb1⟩;refine⟨_,he,?_⟩;clear he;have⟨uX,sw,sD,tK,xD,qJ,uz,nW,Z⟩:=BL hb1 qy rG uW tO tJ Q G uj I;have bw1:Bw H H:=⟨Below.refl _ _⟩;refine av (.tuple #[F,au (dw m (fun x=>bH x v.o v.aQ) (m.T.path (v.node)))])<|av (F)<|av (au (dw m (fun x=>bH x v.o v.aQ) (m.T.path (v.node))))<|rD 1 (fun _ => .nilFunc) fun n w6 K S s8 z5 => ?_;have⟨uO,uY,vP,vQ,b8⟩:=oQ s8.old qJ uz nW bw1 Z;have Qw:=iI K Z.size;have⟨apc,adg,adh,adi,adj,adk,apd,adl⟩:=Xm K uX.lt sw.lt sD.lt tK.lt xD.lt qJ.lt uz.lt nW.lt;have OI:=S.lt;have kg4:H.heap.size<=n:=by rw[K]; exact bw1.b.size
  refine jd S 0 F (h1:=ho1) fun w7 zG U z6 => ?_;have xk:aR w7 n 1 (fun _=>F) 123:=dD zG;have jQ:=gQ U S.ty;have⟨xW,zT,xX⟩:=AB jQ uO uY vP;have AU:=(⟨U.below vQ.b vQ.b.size kg4⟩:Bw H _);have J:=U.below b8 b8.size (by omega);refine av (au (dw m (fun x=>bH x v.o v.aQ) (m.T.path (v.node))))<|aD<|Ws<|ay<|av (au (dw m (fun x=>bH x v.o v.aQ) (m.T.path (v.node)))) ?_;by_cases E:(dw m (fun x=>bH x v.o v.aQ) (m.T.path (v.node)))=0
  ·refine Lv aF (jJ E)<|aD<|aK<|Wk<|sN<|ay<|Lv (.func (.func 222) #[] #[(pt n),(pt C),(pt l),(pt f)]) (Fx.nu (us := []) (vs := [(pt n),(pt C),(pt l),(pt f)]) rfl rfl rfl)<|av (.func (.func 222) #[] #[(pt n),(pt C),(pt l),(pt f)])<|av (au 0)<|aD<|Wr<|aJ (.tuple #[.func (.func 222) #[] #[(pt n),(pt C),(pt l),(pt f)],au 0]) ?_;have hD0:=hD1 E;have hfe:=hD0.e;subst hfe;have b01:w.heap.size<=CZ.heap.size:=(by omega);have k:jU m v=0:=(by unfold jU; rw[b_ (show ¬ gZ m v.o v.req=true by unfold gZ; rw[pV jC]; decide)]; rw[b_ (by rw[s]; decide)]; exact E);exact⟨⟨_,222,#[(pt n),(pt C),(pt l),(pt f)],by rw[k],rfl,fun _=>⟨rfl,⟨_,_,Tryz.func222,rfl,rfl⟩,fun w2 u=>(Vu m d B w2 ((h.up J).up u) v M hwf (Vw m v).R CZ.heap.size w.heap.size _ (by omega) _ (hD0.up (Mq AU.b u)) _ _ _ _ (xk.cB (Sb u) (u_ xk.lt)) (xW.cB (Sb u) (u_ xW.lt)) (xX.cB (Sb u) (u_ xX.lt)) (zT.cB (Sb u) (u_ zT.lt)) ⟨by omega,by omega,by omega⟩ jC (fun i hi e=>by have q9:=hga i hi; obtain⟨j9,hj9,e9,f9⟩:=lM.1 q9; exact jC j9 hj9 ⟨e9.trans e.1,f9.trans e.2⟩)).mono fun _ _ L=>⟨L.1,L.2.1,L.2.2.mono fun _ hk=>hk⟩⟩⟩,J⟩
  refine Lv aG (nC E)<|aD<|aM<|ay<|av (au (dw m (fun x=>bH x v.o v.aQ) (m.T.path (v.node))))<|av (.nilFunc)<|av (au (dw m (fun x=>bH x v.o v.aQ) (m.T.path (v.node))))<|aD<|Wr<|sR<|aJ (.tuple #[.nilFunc,au (dw m (fun x=>bH x v.o v.aQ) (m.T.path (v.node)))]) ?_;have k:jU m v=dw m (fun x=>bH x v.o v.aQ) (m.T.path (v.node)):=by unfold jU; rw[b_ (show ¬ gZ m v.o v.req=true by unfold gZ; rw[pV jC]; decide)]; rw[b_ (by rw[s]; decide)]
  exact⟨⟨.nilFunc,0,#[],by rw[k],rfl,fun A=>M_ (k.symm.trans A) (by first|decide|omega|assumption)⟩,J⟩
 rw[T_]at s;refine kQ (Z5 v.node oG) aF (by rw[s])<|Ln<|aY aG<|bQ<|aM<|ay<|av (.nilFunc)<|av (au 9)<|aD<|Wr<|sR<|aJ (.tuple #[.nilFunc,au 9]) ?_;have k:jU m v=9:=by unfold jU; rw[b_ (show ¬ gZ m v.o v.req=true by unfold gZ; rw[pV jC]; decide)]; exact d_ s
 exact⟨⟨.nilFunc,0,#[],by rw[k],rfl,fun A=>M_ (k.symm.trans A) (by first|decide|omega|assumption)⟩,I⟩
theorem YJ(m:dN)(A B:Nat)(w:World)(h:lN w B A m)(v:EvM)(hv:bR v=true)(hwf:gD v) :
 Calls Tryz.prog 210 #[(pt A),.agg (aA 14 (bM v))] w fun e w'=>Rf w B A m (iH m v) (jv m v) e w':=by
 have hC:=h.c;have hT:=h.t;have hP:=h.p;have hR:=h.r;have hG:=h.g;have hA:=h.a;have hN:=h.ne;have lC:=h.c.lt;have lT:=h.t.lt;have lP:=h.p.lt;have lR:=h.r.lt;have lG:=h.g.lt;have lA:=h.a.lt;obtain⟨a,ha,ho⟩ : ∃ a:Nat,a<6/\v.o=(a:Int)+1:=eX (iU hv);have hra:aN v=a:=by unfold aN; omega
 have ac:=Em hv hwf;have hvo:1<=v.o/\v.o<=6:=by omega
 refine Kent Tryz.func210 56 ?_;refine ay<|xS (pt A) fun K w1 lY m1 s1 z1 => ?_;have⟨m2,m4,m5,m6,m7,b1⟩:=qD s1.old hC hP hR hG hA (Below.refl w.heap.size w);have su:=gH lY;have⟨mJ,yw,xw,Bp,zI⟩:=zQ lY hC.lt hP.lt hR.lt hG.lt hA.lt;have ug:=m1.lt;refine oL fun n w2 zo E s2 z2 => ?_;have⟨m9,m11,m12,m13,m14,m15,b2⟩:=jK s2.old m2 m4 m5 m6 m7 m1 b1;have qK:=iI zo b1.size;have⟨Lj,Cv,FI,Ai,FJ,BS⟩:=I6 zo m2.lt m4.lt m5.lt m6.lt m7.lt m1.lt;have yK:=E.lt;refine av (.nilFunc)<|av (au 0)<|aD<|Ws ?_;refine Gx (T1:=117) (T2:=117) (T1':=117) (T2':=117) (a1 := .tmp 6) (v1 := .tmp 16) (a2 := .tmp 7) (v2 := .tmp 21) (m1:=2) (m2:=2) (z1:=fun d=>if d<1 then au 0 else aC 0) (y1:=bC (bC (fun d=>if d<1 then au 0 else aC 0) 0 1 (fun _=>au v.o)) 1 1 (fun _=>aC v.req)) (z2:=fun d=>if d<1 then au 0 else aC 0) (y2:=bC (bC (fun d=>if d<1 then au 0 else aC 0) 0 1 (fun _=>au v.o)) 1 1 (fun _=>aC v.of)) (u1 := .agg (aA 2 (bC (bC (fun d=>if d<1 then au 0 else aC 0) 0 1 (fun _=>au v.o)) 1 1 (fun _=>aC v.req)))) (u2 := .agg (aA 2 (bC (bC (fun d=>if d<1 then au 0 else aC 0) 0 1 (fun _=>au v.o)) 1 1 (fun _=>aC v.of)))) 10 11 12 13 [[],[],[],[],[],[],[],[],[],[],[],[],[(0,[10]),(1,[11])],[(0,[10]),(1,[11]),(2,[12])]] [[(2,[0]),(3,[0])],[(2,[1]),(3,[1])],[(2,[2]),(3,[2])],[(2,[3]),(3,[3])],[(2,[4]),(3,[4])],[(3,[5])],[(3,[6])],[(3,[7])],[(3,[8])],[(3,[9])],[(2,[10]),(3,[10])],[(2,[11]),(3,[11])],[(3,[12])],[]] #[(pt n),au v.o,(pf n 12),aC v.req,.agg (aA 2 (bC (bC (fun d=>if d<1 then au 0 else aC 0) 0 1 (fun _=>au v.o)) 1 1 (fun _=>aC v.req))),(pt n),au v.o,(pf n 13),aC v.of,.agg (aA 2 (bC (bC (fun d=>if d<1 then au 0 else aC 0) 0 1 (fun _=>au v.o)) 1 1 (fun _=>aC v.of))),undef,undef,undef,undef] (by kernel_rfl) (by kernel_rfl) (by kernel_rfl) (by kernel_rfl) (by kernel_rfl) (by kernel_rfl) (by kernel_rfl) (by kernel_rfl) (by kernel_rfl) (by kernel_rfl) rfl rfl (by kernel_rfl) (by kernel_rfl) rfl rfl rfl rfl (by kernel_rfl) (by kernel_rfl) (fun k l=>(show ev _ (.tmp 6)=(pt k)from by kernel_rfl)) (fun k l=>(show ev _ (.tmp 7)=(pt l)from by kernel_rfl)) (fun k l=>(show ev _ (.tmp 16) = .agg (aA 2 (bC (bC (fun d=>if d<1 then au 0 else aC 0) 0 1 (fun _=>au v.o)) 1 1 (fun _=>aC v.req)))from by kernel_rfl)) (fun k l=>(show ev _ (.tmp 21) = .agg (aA 2 (bC (bC (fun d=>if d<1 then au 0 else aC 0) 0 1 (fun _=>au v.o)) 1 1 (fun _=>aC v.of)))from by kernel_rfl)) (bF _ _) (bF _ _) (bE (bE (fun jq _=>by show((fun d=>if d<1 then au 0 else aC 0:Nat->Value) jq).oneCell'=true; simp only[]; repeat (first|rfl|split)) (fun _ _=>rfl)) (fun _ _=>rfl)) (bE (bE (fun jq _=>by show((fun d=>if d<1 then au 0 else aC 0:Nat->Value) jq).oneCell'=true; simp only[]; repeat (first|rfl|split)) (fun _ _=>rfl)) (fun _ _=>rfl)) (fun k l => ?_) ?_
 ·refine⟨?_,?_,?_,?_,?_,?_,?_,?_,?_,?_,?_,?_,?_,?_,trivial⟩
  ·exact .inr lV
  ·exact .inr (oC (au v.o) fun G u=>bf (x:=bM v) rfl (show ev _ (.tmp 12)=(pt n)from by kernel_rfl) (by kernel_rfl) (E.aH.below u (by have:=E.lt; omega)) (i:=0) (by omega) (by omega) rfl)
  ·exact .inr lV
  ·exact .inr (oC (aC v.req) fun G u=>bf (x:=bM v) rfl (show ev _ (.tmp 14)=(pf n 12)from by kernel_rfl) (by kernel_rfl) (E.aH.below u (by have:=E.lt; omega)) (i:=12) (by omega) (by omega) rfl)
  ·exact .inr (oC (.agg (aA 2 (bC (bC (fun d=>if d<1 then au 0 else aC 0) 0 1 (fun _=>au v.o)) 1 1 (fun _=>aC v.req)))) fun G u=>fZ (vs := [(0,au v.o),(1,aC v.req)]) (places := #[(0,1),(1,1)]) (m:=2) (x:=fun d=>if d<1 then au 0 else aC 0) rfl (Fx.ML (show ev _ (.tmp 13)=au v.o from by kernel_rfl) (show ev _ (.tmp 15)=aC v.req from by kernel_rfl)) Tryz.underlying117 (by kernel_rfl) (by kernel_rfl) (by rw[aZ (off:=0) (s:=1) (y:=fun _=>au v.o) (by kernel_rfl) (cells_one (by rfl)) (by rfl)]; rw[aZ (off:=1) (s:=1) (y:=fun _=>aC v.req) (by kernel_rfl) (cells_one (by rfl)) (by rfl)]; rfl))
  ·exact .inr lV
  ·exact .inr (oC (au v.o) fun G u=>bf (x:=bM v) rfl (show ev _ (.tmp 17)=(pt n)from by kernel_rfl) (by kernel_rfl) (E.aH.below u (by have:=E.lt; omega)) (i:=0) (by omega) (by omega) rfl)
  ·exact .inr lV
  ·exact .inr (oC (aC v.of) fun G u=>bf (x:=bM v) rfl (show ev _ (.tmp 19)=(pf n 13)from by kernel_rfl) (by kernel_rfl) (E.aH.below u (by have:=E.lt; omega)) (i:=13) (by omega) (by omega) rfl)
  ·exact .inr (oC (.agg (aA 2 (bC (bC (fun d=>if d<1 then au 0 else aC 0) 0 1 (fun _=>au v.o)) 1 1 (fun _=>aC v.of)))) fun G u=>fZ (vs := [(0,au v.o),(1,aC v.of)]) (places := #[(0,1),(1,1)]) (m:=2) (x:=fun d=>if d<1 then au 0 else aC 0) rfl (Fx.ML (show ev _ (.tmp 18)=au v.o from by kernel_rfl) (show ev _ (.tmp 20)=aC v.of from by kernel_rfl)) Tryz.underlying117 (by kernel_rfl) (by kernel_rfl) (by rw[aZ (off:=0) (s:=1) (y:=fun _=>au v.o) (by kernel_rfl) (cells_one (by rfl)) (by rfl)]; rw[aZ (off:=1) (s:=1) (y:=fun _=>aC v.of) (by kernel_rfl) (cells_one (by rfl)) (by rfl)]; rfl))
  ·exact .inl rfl
  ·exact .inl rfl
  ·exact .inl rfl
  exact .inl rfl
 rintro k l w3 Z Q H I ne1 m16 m17 hb1;have UY:A≠k:=u_ (n_ (m9.lt) H);have Vy:m.pb≠k:=u_ (n_ (m11.lt) H);have Vz:m.rb≠k:=u_ (n_ (m12.lt) H);have adP:m.gb≠k:=u_ (n_ (m13.lt) H);have VA:m.ab≠k:=u_ (n_ (m14.lt) H);have adQ:K≠k:=u_ (n_ (m15.lt) H);have UW:n≠k:=u_ (n_ (E.lt) H);have asN:A≠l:=u_ (n_ (m9.lt) I);have ape:m.pb≠l:=u_ (n_ (m11.lt) I);have apf:m.rb≠l:=u_ (n_ (m12.lt) I);have apg:m.gb≠l:=u_ (n_ (m13.lt) I);have adR:m.ab≠l:=u_ (n_ (m14.lt) I);have adS:K≠l:=u_ (n_ (m15.lt) I);have asO:n≠l:=u_ (n_ (E.lt) I);have⟨m18,m20,m21,m22,m23,m24,mV,b3⟩:=nD hb1 m9 m11 m12 m13 m14 m15 E b2;have H:w.heap.size<=k:=m_ b2.size H;have G9:=m16.lt;have I:w.heap.size<=l:=m_ b2.size I;have OI:=m17.lt;have q1:Z 2=(pt K):=by rw[Q]; kernel_rfl
 have q2:Z 3=(pt n):=by rw[Q]; kernel_rfl
 have q5:Z 6=(pt k):=by rw[Q]; kernel_rfl
 have q6:Z 7=(pt l):=by rw[Q]; kernel_rfl
 clear Q;refine sN<|Ws<|Ws ?_;refine jW [0,1,2,3,4,5] [4,0,0,4,4,4] [] fun qE dP iC => ?_;have⟨nO,oD,nU,oz,lZ,m32,pR,nG,oF,b4⟩:=uS dP m18 m20 m21 m22 m23 m24 mV m16 m17 b3;refine Rs (pt A) (aL m32.aH 0 (ha:=q1)) ?_;refine aY (pt A)<|aY (pf A 28)<|Rs (.map (some m.ab)) (aL nO.aH 28) ?_;refine Rs (.agg (aA 2 (bC (bC (fun d=>if d<1 then au 0 else aC 0) 0 1 (fun _=>au v.o)) 1 1 (fun _=>aC v.req)))) (fC nG.aH 0 (ha:=q5)) ?_
 rcases Fx.xU m.ao m.ar m.an v.o v.req with ⟨Vg,Di,Dj,LA⟩|jC
 ·refine Rs aG (Fx.Km (z := .bool false) rfl rfl ((show ev _ _ = .agg (aA 2 (bC (bC (fun d=>if d<1 then au 0 else aC 0) 0 1 (fun _=>au v.o)) 1 1 (fun _=>aC v.req)))from rfl).trans (Fx.zD (y:=bC (bC (fun d=>if d<1 then au 0 else aC 0) 0 1 (fun _=>au v.o)) 1 1 (fun _=>aC v.req)) (a:=v.o) (b:=v.req) (Fx.Az (by omega) (Fx.qA (j:=0) (by omega) (by omega) rfl)) (Fx.qA (j:=0) (by omega) (by omega) rfl))) ac.1 lZ Tryz.underlying112 Gw (by rfl) Di Dj LA rfl) ?_;refine bQ<|aM<|ay<|av (.nilFunc)<|av (au 14)<|aD<|Wr<|sR<|aJ (.tuple #[.nilFunc,au 14]) ?_;have C:jv m v=14:=by unfold jv; exact d_ (sZ Di Dj LA)
  exact⟨⟨.nilFunc,0,#[],by rw[C],rfl,fun L=>M_ (C.symm.trans L) (by first|decide|omega|assumption)⟩,b4⟩
 refine Rs aF (Fx.Kl (z := .bool false) rfl rfl ((show ev _ _ = .agg (aA 2 (bC (bC (fun d=>if d<1 then au 0 else aC 0) 0 1 (fun _=>au v.o)) 1 1 (fun _=>aC v.req)))from rfl).trans (Fx.zD (y:=bC (bC (fun d=>if d<1 then au 0 else aC 0) 0 1 (fun _=>au v.o)) 1 1 (fun _=>aC v.req)) (a:=v.o) (b:=v.req) (Fx.Az (by omega) (Fx.qA (j:=0) (by omega) (by omega) rfl)) (Fx.qA (j:=0) (by omega) (by omega) rfl))) ac.1 lZ Tryz.underlying112 Gw (by rfl) jC) ?_;refine bQ<|aK<|Wk<|sN<|Ws ?_;refine jW [0,1,2,3,4,5,6,7,8,9,10,11] [1,0,0,1,1,1,0,0,0,2,3,0] [(10,0,[0]),(10,3,[3]),(10,4,[4]),(10,5,[5]),(10,9,[9]),(11,9,[9]),(11,10,[10])] fun CZ gL nT => ?_;have⟨S,qG,qH,U,mW,V,mX,qI,W,X⟩:=uS gL nO oD nU oz lZ m32 pR nG oF b4;refine Rd (v:=(pt A)) (by rfl) (by rfl) (tX _) (fun G u=>bf (x:=fun _=>(pt A)) rfl q1 (by kernel_rfl) (V.aH.below u (by have:=V.lt; omega)) (i:=0) (by omega) (by omega) rfl) ?_;refine aY (pt A)<|aY (pf A 27)<|Rd (v := .map (some m.gb)) (by rfl) (by rfl) (tX _) (fun G u=>bf (x:=vJ m) rfl rfl (by kernel_rfl) (S.aH.below u (by have:=S.lt; omega)) (i:=27) (by omega) (by omega) rfl) ?_;refine Rd (v := .agg (aA 2 (bC (bC (fun d=>if d<1 then au 0 else aC 0) 0 1 (fun _=>au v.o)) 1 1 (fun _=>aC v.of)))) (by rfl) (by rfl) (tX _) (fun G u=>dX (x:=bC (bC (fun d=>if d<1 then au 0 else aC 0) 0 1 (fun _=>au v.o)) 1 1 (fun _=>aC v.of)) (y:=bC (bC (fun d=>if d<1 then au 0 else aC 0) 0 1 (fun _=>au v.o)) 1 1 (fun _=>aC v.of)) rfl q6 (by kernel_rfl) (by kernel_rfl) (W.aH.below u (by have:=W.lt; omega)) (i:=0) (by omega) (by omega) (fun j _=>by rw[G_])) ?_
 rcases Fx.xU (fun i=>m.g i 0) (fun i=>m.g i 1) m.gn v.o v.of with ⟨f,P,M,N⟩|aap
 ·refine Rd (v := .tuple #[.agg (aA 5 (ji (m.g f))),.bool true]) (by rfl) (by rfl) (tX _) (fun G u=>Fx.PU (z := .agg (aA 5 (fun d=>if d<1 then au 0 else if d<3 then aC 0 else if d<4 then au 0 else aC 0))) rfl rfl ((show ev _ _ = .agg (aA 2 (bC (bC (fun d=>if d<1 then au 0 else aC 0) 0 1 (fun _=>au v.o)) 1 1 (fun _=>aC v.of)))from rfl).trans (Fx.zD (y:=bC (bC (fun d=>if d<1 then au 0 else aC 0) 0 1 (fun _=>au v.o)) 1 1 (fun _=>aC v.of)) (a:=v.o) (b:=v.of) (Fx.Az (by omega) (Fx.qA (j:=0) (by omega) (by omega) rfl)) (Fx.qA (j:=0) (by omega) (by omega) rfl))) ac.2 (U.up u) Tryz.underlying111 Gw (by kernel_rfl) P M N rfl) ?_;refine aY (.tuple #[.agg (aA 5 (ji (m.g f))),.bool true])<|aY (.agg (aA 5 (ji (m.g f))))<|aY aG<|zi<|rD 5 (fun d=>if d<1 then au 0 else if d<3 then aC 0 else if d<4 then au 0 else aC 0) fun D w4 eg5 oG s6 z3 => ?_;have⟨rG,tO,tJ,vN,uN,uj,uX,xC,sw,b6⟩:=uS s6.old S qG qH U mW V mX qI W X;have lg5:=iI eg5 X.size;have⟨aph,apj,apk,apl,apm,apn,apo,apq,apr⟩:=Xn eg5 S.lt qG.lt qH.lt U.lt mW.lt V.lt mX.lt qI.lt W.lt;have tg5:=oG.lt;refine Ln ⟨s6.old,?_⟩;refine gW<|eB oG 0 (h1:=(fun j hj=>by rcases j with _|_|_|_|_|_|_|_|_|_|_|_|_|_|j <;> first|rfl|omega)) fun w5 sD s7 z4 => ?_
  have tK:aR w5 D 5 (ji (m.g f)) 106:=aP sD;have ad:aR w5 D 5 (ji (m.g f)) 106:=tK;have gY:=gQ s7 oG.ty;have⟨qJ,nW,tL,m64,xE,xg,vO,wz,sF⟩:=abd gY rG tO tJ vN uN uj uX xC sw;have b7:=s7.below b6 b6.size (by omega);refine Ln<|aY aG<|bQ<|Ws<|ay<|av aG<|av aF<|av aF<|av (pf D 4)<|Lv (aC ((m.g f) 4)) (aL ad.aH 4) ?_;by_cases Sw:((m.g f) 4)=0
  ·refine Lv aF (jJ Sw)<|av aF<|aD<|aK<|Wk<|sN<|ay<|Lv (pt A) (aL xg.aH 0 (ha:=q1))<|av (pf D 2)<|Lv (aC ((m.g f) 2)) (aL ad.aH 2)<|Lv (.func (.func 223) #[] #[(pt n),(pt D)]) (Fx.nu (us := []) (vs := [(pt n),(pt D)]) rfl rfl (Fx.args2 q2 rfl))<|kV (Vs m A B _ (h.up b7) ((m.g f) 2) v (m.g f) hvo n D vO ad) ?_;rintro e9 w6 ⟨⟨aa,fi1,PX,he,ho1,hD1⟩,F⟩;refine⟨_,he,?_⟩;clear he;have⟨uO,vP,vQ,zG,xk,zm,zn,yJ,xq,wB,b8⟩:=ED F qJ nW tL m64 xE xg vO wz sF ad b7;have bw1:Bw w6 w6:=⟨Below.refl _ _⟩;refine av (.tuple #[aa,au (dw m (fun x=>bI x v.o (m.g f 3)) (m.T.path ((m.g f) 2)))])<|av (aa)<|av (au (dw m (fun x=>bI x v.o (m.g f 3)) (m.T.path ((m.g f) 2))))<|rD 1 (fun _ => .nilFunc) fun O w7 eg6 wC s9 z5 => ?_;have⟨zU,zV,AV,EN,DJ,Cb,b9⟩:=jK s9.old zm zn yJ xq wB bw1 b8;have lg6:=iI eg6 b8.size;have⟨aps,apt,apu,apv,apw,apx,apy,apz,apA,apB⟩:=ZM eg6 uO.lt vP.lt vQ.lt zG.lt xk.lt zm.lt zn.lt yJ.lt xq.lt wB.lt;have tg6:=wC.lt;have kg6:w6.heap.size<=O:=(by rw[eg6]; exact bw1.b.size);refine jd wC 0 aa (h1:=ho1) fun w8 C9 s10 z6 => ?_;have zZ:aR w8 O 1 (fun _=>aa) 123:=dD C9;have jQ:=gQ s10 wC.ty;have⟨wM,uD,qb,pG,qM⟩:=rE jQ zU zV AV EN DJ;have qc:=(⟨s10.below Cb.b Cb.b.size kg6⟩:Bw w6 _);have b10:=s10.below b9 b9.size (by omega);refine av (au (dw m (fun x=>bI x v.o (m.g f 3)) (m.T.path ((m.g f) 2))))<|aD<|Ws<|ay<|av (au (dw m (fun x=>bI x v.o (m.g f 3)) (m.T.path ((m.g f) 2)))) ?_;by_cases Y:(dw m (fun x=>bI x v.o (m.g f 3)) (m.T.path ((m.g f) 2)))=0
   ·refine Lv aF (jJ Y)<|aD<|aK<|Wk<|sN<|ay<|Lv (.func (.func 225) #[] #[(pt O),(pt K),(pt k),(pt n),(pt D),(pt l)]) (Fx.nu (us := []) (vs := [(pt O),(pt K),(pt k),(pt n),(pt D),(pt l)]) rfl rfl (Fx.ahz rfl q1 q5 q2 rfl q6))<|av (.func (.func 225) #[] #[(pt O),(pt K),(pt k),(pt n),(pt D),(pt l)])<|av (au 0)<|aD<|Wr<|aJ (.tuple #[.func (.func 225) #[] #[(pt O),(pt K),(pt k),(pt n),(pt D),(pt l)],au 0]) ?_;have J:fD m v.o v.of=f:=yS h.g.inj P M N;have hD0:=hD1 Y;have hfe:=hD0.e;subst hfe;have em:iH m v=O7 m (qP m (fun x=>bI x v.o (m.g f 3)) (m.T.path (m.g f 2))).R v f:=(by unfold iH Vx; rw[J]);rw[em];have C:jv m v=0:=by unfold jv; rw[b_ (show ¬ gZ m v.o v.req=true by unfold gZ; rw[pV jC]; decide)]; rw[b_ (show ¬ (iL m v.o v.of=false\/m.g (fD m v.o v.of) 4≠0) by rw[J,show iL m v.o v.of=true from sZ P M N]; rintro (q|q) <;> first|(exact M_ q (by decide))|omega),J]; exact Y
    exact⟨⟨_,225,#[(pt O),(pt K),(pt k),(pt n),(pt D),(pt l)],by rw[C],rfl,fun _=>⟨rfl,⟨_,_,Tryz.func225,rfl,rfl⟩,fun w2 F=>(Vv m A B w2 ((h.up b10).up F) v hv hwf _ w5.heap.size w.heap.size _ (by omega) _ (hD0.up (Mq qc.b F)) f _ _ _ _ _ _ (zZ.cB (Sb F) (u_ zZ.lt)) (wM.cB (Sb F) (u_ wM.lt)) (qb.cB (Sb F) (u_ qb.lt)) (uD.cB (Sb F) (u_ uD.lt)) (qM.cB (Sb F) (u_ qM.lt)) (pG.cB (Sb F) (u_ pG.lt)) lg5 ⟨by omega,by omega,by omega,by omega,by omega⟩ jC P M N).mono fun _ _ hc=>⟨hc.1,hc.2.1,hc.2.2.mono fun _ hk=>hk⟩⟩⟩,b10⟩
   refine Lv aG (nC Y)<|aD<|aM<|ay<|av (au (dw m (fun x=>bI x v.o (m.g f 3)) (m.T.path ((m.g f) 2))))<|av (.nilFunc)<|av (au (dw m (fun x=>bI x v.o (m.g f 3)) (m.T.path ((m.g f) 2))))<|aD<|Wr<|sR<|aJ (.tuple #[.nilFunc,au (dw m (fun x=>bI x v.o (m.g f 3)) (m.T.path ((m.g f) 2)))]) ?_;have J:fD m v.o v.of=f:=yS h.g.inj P M N;have C:jv m v=dw m (fun x=>bI x v.o (m.g f 3)) (m.T.path ((m.g f) 2)):=by unfold jv; rw[b_ (show ¬ gZ m v.o v.req=true by unfold gZ; rw[pV jC]; decide)]; rw[b_ (show ¬ (iL m v.o v.of=false\/m.g (fD m v.o v.of) 4≠0) by rw[J,show iL m v.o v.of=true from sZ P M N]; rintro (q|q) <;> first|(exact M_ q (by decide))|omega),J]
   exact⟨⟨.nilFunc,0,#[],by rw[C],rfl,fun L=>M_ (C.symm.trans L) (by first|decide|omega|assumption)⟩,b10⟩
  refine Lv aG (nC Sw)<|av aG<|aD<|aM<|ay<|av (.nilFunc)<|av (au 12)<|aD<|Wr<|sR<|aJ (.tuple #[.nilFunc,au 12]) ?_;have J:fD m v.o v.of=f:=yS h.g.inj P M N;have C:jv m v=12:=by unfold jv; rw[b_ (show ¬ gZ m v.o v.req=true by unfold gZ; rw[pV jC]; decide)]; exact d_ (.inr (by rw[J]; omega))
  exact⟨⟨.nilFunc,0,#[],by rw[C],rfl,fun L=>M_ (C.symm.trans L) (by first|decide|omega|assumption)⟩,b7⟩
 refine Rd (v := .tuple #[.agg (aA 5 (fun d=>if d<1 then au 0 else if d<3 then aC 0 else if d<4 then au 0 else aC 0)),.bool false]) (by rfl) (by rfl) (tX _) (fun G u=>Fx.PS (z := .agg (aA 5 (fun d=>if d<1 then au 0 else if d<3 then aC 0 else if d<4 then au 0 else aC 0))) rfl rfl ((show ev _ _ = .agg (aA 2 (bC (bC (fun d=>if d<1 then au 0 else aC 0) 0 1 (fun _=>au v.o)) 1 1 (fun _=>aC v.of)))from rfl).trans (Fx.zD (y:=bC (bC (fun d=>if d<1 then au 0 else aC 0) 0 1 (fun _=>au v.o)) 1 1 (fun _=>aC v.of)) (a:=v.o) (b:=v.of) (Fx.Az (by omega) (Fx.qA (j:=0) (by omega) (by omega) rfl)) (Fx.qA (j:=0) (by omega) (by omega) rfl))) ac.2 (U.up u) Tryz.underlying111 Gw (by kernel_rfl) aap) ?_;refine aY (.tuple #[.agg (aA 5 (fun d=>if d<1 then au 0 else if d<3 then aC 0 else if d<4 then au 0 else aC 0)),.bool false])<|aY (.agg (aA 5 (fun d=>if d<1 then au 0 else if d<3 then aC 0 else if d<4 then au 0 else aC 0)))<|aY aF<|zi<|rD 5 (fun d=>if d<1 then au 0 else if d<3 then aC 0 else if d<4 then au 0 else aC 0) fun g7 w9 eg7 rJ s11 z7 => ?_;have b11:=bB s11.old X;have lg7:=iI eg7 X.size;have⟨ajK,ajL,ajM,ajN,ajO,ajP,ajQ,ajR,ajS⟩:=Xn eg7 S.lt qG.lt qH.lt U.lt mW.lt V.lt mX.lt qI.lt W.lt;have tg7:=rJ.lt;refine Ln ⟨s11.old,?_⟩;refine gW<|eB rJ 0 (h1:=(fun j hj=>by rcases j with _|_|_|_|_|_|_|_|_|_|_|_|_|_|j <;> first|rfl|omega)) fun tH qN s12 z8 => ?_
 have yc:aR tH g7 5 (fun d=>if d<1 then au 0 else if d<3 then aC 0 else if d<4 then au 0 else aC 0) 106:=aP qN;have b12:=s12.below b11 b11.size (by omega);refine Ln<|aY aF<|bQ<|Ws<|ay<|av aF<|av aG<|av aG<|dB<|dB<|dB<|av aG<|aD<|aM<|ay<|av (.nilFunc)<|av (au 12)<|aD<|Wr<|sR<|aJ (.tuple #[.nilFunc,au 12]) ?_;have C:jv m v=12:=by unfold jv; rw[b_ (show ¬ gZ m v.o v.req=true by unfold gZ; rw[pV jC]; decide)]; exact d_ (.inl (pV aap))
 exact⟨⟨.nilFunc,0,#[],by rw[C],rfl,fun L=>M_ (C.symm.trans L) (by first|decide|omega|assumption)⟩,b12⟩
namespace Rt
noncomputable def iR(m:dN)(v:EvM):dN:=if v.kind=1 then Dk m v else if v.kind=2 then uK m v else if v.kind=3 then kJ m v else if v.kind=4 then iH m v else if v.kind=5 then Dh m v else if v.kind=6 then Ig m v else Cu m v
def fJ(m:dN)(v:EvM):Int:=if v.kind=1 then jc m v else if v.kind=2 then jG m v else if v.kind=3 then jU m v else if v.kind=4 then jv m v else if v.kind=5 then kI m v else if v.kind=6 then 0 else 0
def bZ(m:dN)(v:EvM):Int:=if bR v=false then 1 else if kY m.known v=true then 14 else if dH m.known v=false then 13 else if m.inn (aN v)=false\/m.left (aN v)=true then 10 else fJ m v
structure QlK(m:dN):Prop where
 own : ∀ a,a<6->0<=m.own a/\m.own a<=1000
 row : ∀ i,i<m.T.n -> ∀ p,p<54->0<=m.R i p/\m.R i p<=1125899906842624
 ga:QN m
 kn:AY m.known
def kfn(k:Nat):Nat:=if k=1 then 207 else if k=2 then 208 else if k=3 then 209 else if k=4 then 210 else if k=5 then 211 else if k=6 then 212 else 213
def Bt:Nat->Value:=fun p=>if p=0 then .nilFunc else .func (.func (kfn p)) #[] #[]
theorem YK{p:Nat}(h:1<=p):Bt p = .func (.func (kfn p)) #[] #[]:=b_ (by omega)
end Rt
theorem ahD {k : Nat} (h1 : 1 ≤ k) (b : k ≤ 7) : ∃ a c, Tryz.prog.funcs[kfn k]? = some a ∧ (a.name == "runtime.NumGoroutine") = false ∧ a.body = some c := by
 rcases(show k=1\/k=2\/k=3\/k=4\/k=5\/k=6\/k=7 by omega)with rfl|rfl|rfl|rfl|rfl|rfl|rfl
 ·exact⟨_,_,Tryz.func207,rfl,rfl⟩
 ·exact⟨_,_,Tryz.func208,rfl,rfl⟩
 ·exact⟨_,_,Tryz.func209,rfl,rfl⟩
 ·exact⟨_,_,Tryz.func210,rfl,rfl⟩
 ·exact⟨_,_,Tryz.func211,rfl,rfl⟩
 ·exact⟨_,_,Tryz.func212,rfl,rfl⟩
 exact⟨_,_,Tryz.func213,rfl,rfl⟩
theorem UM.low{w:World}{B f b c d:Nat}{m g:dN}{e:Value}{cap:Array Value}(h:UM w B f m g b e d cap)(i:c<=b):UM w B f m g c e d cap := { h with s:=fun n j=>(h.s n j).mono fun _ _ a=>⟨a.1,a.2.1,a.2.2.mono fun k l=>l.imp id (m_ i)⟩ }
theorem YL(m:dN)(a B:Nat)(w:World)(h:lN w B a m)(v:EvM)(d:bR v=true)(f:gD v)(e:QlK m)(k:Nat)(l:v.kind=(k:Int))(j:1<=k/\k<=7) :
 Calls Tryz.prog (kfn k) #[(pt a),.agg (aA 14 (bM v))] w (Rf w B a m (iR m v) (fJ m v)):=by
 rcases(show k=1\/k=2\/k=3\/k=4\/k=5\/k=6\/k=7 by omega)with rfl|rfl|rfl|rfl|rfl|rfl|rfl
 ·have c:v.kind=1:=by omega
  rw[show iR m v=Dk m v by unfold iR; rw[d_ (by omega)],show fJ m v=jc m v by unfold fJ; rw[d_ (by omega)]];exact YF m a B w h v d e.own
 ·have c:v.kind=2:=by omega
  rw[show iR m v=uK m v by unfold iR; rw[b_ (by omega),d_ (by omega)],show fJ m v=jG m v by unfold fJ; rw[b_ (by omega),d_ (by omega)]];exact U3 m a B w h v d c e.row
 ·have c:v.kind=3:=by omega
  rw[show iR m v=kJ m v by unfold iR; rw[b_ (by omega),b_ (by omega),d_ (by omega)],show fJ m v=jU m v by unfold fJ; rw[b_ (by omega),b_ (by omega),d_ (by omega)]];exact YI m a B w h v d f e.ga
 ·have c:v.kind=4:=by omega
  rw[show iR m v=iH m v by unfold iR; rw[b_ (by omega),b_ (by omega),b_ (by omega),d_ (by omega)],show fJ m v=jv m v by unfold fJ; rw[b_ (by omega),b_ (by omega),b_ (by omega),d_ (by omega)]];exact YJ m a B w h v d f
 ·have c:v.kind=5:=by omega
  rw[show iR m v=Dh m v by unfold iR; rw[b_ (by omega),b_ (by omega),b_ (by omega),b_ (by omega),d_ (by omega)],show fJ m v=kI m v by unfold fJ; rw[b_ (by omega),b_ (by omega),b_ (by omega),b_ (by omega),d_ (by omega)]];exact Yu m a B w h v d c
 ·have c:v.kind=6:=by omega
  rw[show iR m v=Ig m v by unfold iR; rw[b_ (by omega),b_ (by omega),b_ (by omega),b_ (by omega),b_ (by omega),d_ (by omega)],show fJ m v=0 by unfold fJ; rw[b_ (by omega),b_ (by omega),b_ (by omega),b_ (by omega),b_ (by omega),d_ (by omega)]];obtain⟨b,g,i⟩:=Hy d c;exact Yv m a B w h v d b g i
 have c:v.kind=7:=by omega
 rw[show iR m v=Cu m v by unfold iR; rw[b_ (by omega),b_ (by omega),b_ (by omega),b_ (by omega),b_ (by omega),b_ (by omega)],show fJ m v=0 by unfold fJ; rw[b_ (by omega),b_ (by omega),b_ (by omega),b_ (by omega),b_ (by omega),b_ (by omega)]];exact U7 m a B w h v d
theorem O8(m:dN)(b B:Nat)(w:World)(h:lN w B b m)(v:EvM)(n:gD v)(R:QlK m)(hB:1<=B)(N:iM w 0 0 8 Bt) :
 Calls Tryz.prog 52 #[(pt b),.agg (aA 14 (bM v))] w fun e w'=>Rf w B b m (iR m v) (bZ m v) e w':=by
 have M:=h.c;have hT:=h.t;have hP:=h.p;have hR:=h.r;have hG:=h.g;have hA:=h.a;have hN:=h.ne;have lC:=h.c.lt;have lT:=h.t.lt;have lP:=h.p.lt;have lR:=h.r.lt;have lG:=h.g.lt;have lA:=h.a.lt;obtain⟨s,Q⟩ : ∃ s:Nat,v.kind=(s:Int):=⟨v.kind.toNat,by have:=n.kind; omega⟩;have O:Kr m.known:=fun i hi=>by have:=R.kn i hi; exact⟨by omega,by omega⟩
 refine Kent Tryz.func52 55 ?_;refine ay<|oL fun y w1 A F s1 z1 => ?_;have⟨m2,m8,H⟩:=iy s1.old M N (Below.refl w.heap.size w);have su:=gH A;have⟨mJ,yw,xw,Bp,zI⟩:=zQ A M.lt hP.lt hR.lt hG.lt hA.lt;have KP:0≠y:=by rw[A]; exact u_ (N.lt (by omega))
 have ug:=F.lt;refine av (.nilFunc)<|av (au 0)<|aD<|Ws<|Wb<|ay<|av (pt b)<|Lv aF (Fx.mU rfl rfl rfl (by kernel_rfl))<|av aF<|aD<|aK<|ay<|Lv (.agg (aA 14 (bM v))) (fC F.aH 0) ?_;by_cases k:(bR v)=true
 ·have D:bR v=true:=k;obtain⟨a,ha,ho⟩ : ∃ a:Nat,a<6/\v.o=(a:Int)+1:=eX (iU D);have E:aN v=a:=by unfold aN; omega
  have hkr:=jg D;refine dK (Ic v _ n) aG (by rw[k]) ?_;intro w2 hb1;have⟨m9,m15,m16,b2⟩:=jP hb1 m2 m8 F H;refine av aF<|av aF<|aD<|aK<|Ws ?_;refine jW [0,1,2,3,4,5,6] [0,0,0,4,4,3,0] [(5,3,[3]),(5,4,[4]),(6,5,[5])] fun qE dP iC => ?_;have⟨S,m23,T,I⟩:=jP dP m9 m15 m16 b2;refine aY (pt b)<|aY (pt b)<|aY (pf b 12)<|Rs (.agg (aA 6 (rv .u64 m.known))) (fC S.aH 12 (fun j hj=>rT (p:=j) (by omega) (by omega))) ?_;refine Rs (.agg (aA 14 (bM v))) (fC T.aH 0) ?_;refine gW ?_;by_cases l:(kY m.known v)=true
  ·refine dK (U0 m.known v _ n) aG (by rw[l]) ?_;intro w3 hb2;have b4:=bB hb2 I;refine Ln<|aY aG<|bQ<|aM<|ay<|av (.nilFunc)<|av (au 14)<|aD<|Wr<|bK<|sR<|aJ (.tuple #[.nilFunc,au 14]) ?_;have d:bZ m v=14:=(by unfold bZ; rw[b_ (by rw[k]; decide)]; exact d_ l);exact⟨⟨.nilFunc,0,#[],by rw[d],rfl,fun f=>M_ (d.symm.trans f) (by first|decide|omega|assumption)⟩,b4⟩
  rw[T_]at l;refine dK (U0 m.known v _ n) aF (by rw[l]) ?_;intro w4 hb3;have⟨pR,qH,tN,b5⟩:=jP hb3 S m23 T I;refine Ln<|aY aF<|bQ<|aK<|Ws ?_;refine jW [0,1,2,3,4,5,6,7] [0,0,0,4,4,3,0,0] [(5,3,[3]),(5,4,[4]),(6,5,[5]),(7,5,[5])] fun CZ gL nT => ?_;have⟨U,rG,V,J⟩:=jP gL pR qH tN b5;refine aY (pt b)<|aY (pt b)<|aY (pf b 12)<|Rs (.agg (aA 6 (rv .u64 m.known))) (fC U.aH 12 (fun j hj=>rT (p:=j) (by omega) (by omega))) ?_;refine Rs (.agg (aA 14 (bM v))) (fC V.aH 0) ?_;refine gW ?_;by_cases q:(dH m.known v)=true
  ·refine dK (OW m.known v _ n O) aG (by rw[q]) ?_;intro w5 hb4;have⟨tO,xC,sw,b7⟩:=jP hb4 U rG V J;refine Ln<|aY aF<|aY aF<|bQ<|aK<|Ws<|Ws ?_;refine jW [0,1,4,5,2,3,6,7,8,9] [0,0,4,0,0,0,0,4,0,0] [] fun Rb lW AP => ?_;have⟨G,tL,W,K⟩:=jP lW tO xC sw b7;refine aY (pt b)<|aY (pt y)<|aY (pt b)<|aY (pt b)<|Rs (au v.o) (aL W.aH 0) ?_;refine Rp (au a) (fun _=>gF)<|Rp (pf b a) (fun _=>jI 6 1) ?_;by_cases u:(m.inn a)=true
   ·refine Rs aG (aL G.aH a ((Cr (by omega)).trans (L_ Value.bool u))) ?_;refine aY aF<|aY aF<|bQ<|aK ?_;refine jW [0,1,4,5,2,3,6,7,8] [0,0,4,0,0,0,0,4,0] [] fun wt4 qV G8 => ?_;have⟨X,uY,Y,L⟩:=jP qV G tL W K;refine aY (pt b)<|aY (pt y)<|aY (pt b)<|aY (pf b 6)<|Rs (au v.o) (aL Y.aH 0) ?_;refine Rp (au a) (fun _=>gF)<|Rp (pf b (a+6)) (fun _=>jI 6 1) ?_;by_cases x:(m.left a)=true
    ·refine Rs aG (aL X.aH (a+6) ((Bn (p:=a) (by omega) (by omega)).trans (L_ Value.bool x))) ?_;refine aY aG<|bQ<|aM<|ay<|av (.nilFunc)<|av (au 10)<|aD<|Wr<|bK<|sR<|aJ (.tuple #[.nilFunc,au 10]) ?_;have d:bZ m v=10:=(by unfold bZ; rw[b_ (by rw[k]; decide)]; rw[b_ (by rw[l]; decide)]; rw[b_ (by rw[q]; decide)]; exact d_ (.inr (by rw[E]; exact x)));exact⟨⟨.nilFunc,0,#[],by rw[d],rfl,fun f=>M_ (d.symm.trans f) (by first|decide|omega|assumption)⟩,L⟩
    rw[T_]at x;refine Rs aF (aL X.aH (a+6) ((Bn (p:=a) (by omega) (by omega)).trans (L_ Value.bool x))) ?_;refine aY aF<|bQ<|aK<|Wk<|bP<|sN<|Ws ?_;refine jW [0,4,1,2,3,5,6,7,8,9,10] [0,4,0,4,0,4,3,0,0,0,0] [(6,1,[3,2,1]),(6,3,[3]),(6,5,[5]),(7,6,[6]),(8,6,[6]),(9,6,[6]),(10,6,[6])] fun wt5 zF SA => ?_;have⟨xq,Z,z⟩:=iy zF uY Y L;refine aY (pf y 8)<|aY (pt b)<|Rs (.int .u8 (s:Int)) (aL Z.aH 8 (L_ (Value.int IntKind.u8) Q)) ?_;refine Rp (pf 0 s) (fun _=>jI 8 1)<|Rs (.func (.func (kfn s)) #[] #[]) (aL xq s (YK (by omega))) ?_;refine Rs (.agg (aA 14 (bM v))) (fC Z.aH 0) ?_;refine gW<|Ao (by rfl) (Fx.OQ (args := [(pt b),.agg (aA 14 (bM v))]) rfl rfl rfl (by rfl) (ahD (by omega) (by omega))) rfl<|(YL m b B _ (h.up z) v D n R s Q (by omega)).mono ?_;rintro e9 w6 ⟨⟨C,fi1,PX,P,ho1,hD1⟩,hb5⟩;refine⟨_,P,?_⟩;clear P;have aa:=bB hb5 z;refine Ln<|aY (C)<|aY (au (fJ m v))<|aY (C)<|aY (au (fJ m v))<|bQ<|Wr<|aJ (.tuple #[C,au (fJ m v)]) ?_;have d:bZ m v=fJ m v:=(by unfold bZ; rw[b_ (by rw[k]; decide)]; rw[b_ (by rw[l]; decide)]; rw[b_ (by rw[q]; decide)]; exact b_ (by rw[E,u,x]; decide));exact⟨⟨_,_,_,by rw[d],ho1,fun f=>(hD1 (d.symm.trans f)).low z.size⟩,aa⟩
   rw[T_]at u;refine Rs aF (aL G.aH a ((Cr (by omega)).trans (L_ Value.bool u))) ?_;refine aY aG<|aY aG<|bQ<|aM<|Wk<|sN<|aM<|ay<|av (.nilFunc)<|av (au 10)<|aD<|Wr<|bK<|sR<|aJ (.tuple #[.nilFunc,au 10]) ?_;have d:bZ m v=10:=(by unfold bZ; rw[b_ (by rw[k]; decide)]; rw[b_ (by rw[l]; decide)]; rw[b_ (by rw[q]; decide)]; exact d_ (.inl (by rw[E]; exact u)));exact⟨⟨.nilFunc,0,#[],by rw[d],rfl,fun f=>M_ (d.symm.trans f) (by first|decide|omega|assumption)⟩,K⟩
  rw[T_]at q;refine dK (OW m.known v _ n O) aF (by rw[q]) ?_;intro w7 hb6;have ab:=bB hb6 J;refine Ln<|aY aG<|aY aG<|bQ<|aM<|ay<|av (.nilFunc)<|av (au 13)<|aD<|Wr<|bK<|sR<|aJ (.tuple #[.nilFunc,au 13]) ?_;have d:bZ m v=13:=by unfold bZ; rw[b_ (by rw[k]; decide)]; rw[b_ (by rw[l]; decide)]; exact d_ q
  exact⟨⟨.nilFunc,0,#[],by rw[d],rfl,fun f=>M_ (d.symm.trans f) (by first|decide|omega|assumption)⟩,ab⟩
 rw[T_]at k;refine dK (Ic v _ n) aF (by rw[k]) ?_;intro w8 hb7;have ac:=bB hb7 H;refine av aG<|av aG<|aD<|aM<|ay<|av (.nilFunc)<|av (au 1)<|aD<|Wr<|bK<|sR<|aJ (.tuple #[.nilFunc,au 1]) ?_;have d:bZ m v=1:=by unfold bZ; exact d_ k
 exact⟨⟨.nilFunc,0,#[],by rw[d],rfl,fun f=>M_ (d.symm.trans f) (by first|decide|omega|assumption)⟩,ac⟩
namespace Rt
noncomputable def jw(m:dN)(v:EvM):dN:=if bZ m v=0 then { iR m v with known:=aI (iR m v).known (aN v) ((iR m v).known (aN v)+1) } else m
theorem LB(m:dN)(v:EvM):(iR m v).known=m.known:=by
 unfold iR
 repeat (first|rfl|split)
def FQ:Nat->Int:=fun _=>0
def bA(m:dN)(k:Int):Nat->Int:=if m.T.has k=true then DV m k else FQ
end Rt
theorem lN.known{w w':World}{B d:Nat}{m:dN}{K:Nat->Int}(h:lN w B d m)(f:Stp d w w')(e:aR w' d 29 (vJ { m with known:=K }) 114):lN w' B d { m with known:=K }:=by
 have b:=gQ f h.c.ty;exact { c:=e,t:=h.t.kL b (by decide),p:=h.p.kL b trivial,r:=h.r.kL b trivial,g:=h.g.kL b trivial,a:=h.a.kL b trivial,ne:=⟨h.ne.mp,h.ne.mr,h.ne.mg,h.ne.ma,h.ne.pr,h.ne.pg,h.ne.pa,h.ne.rg,h.ne.ra,h.ne.ga⟩,lB:=h.lB,pB:=h.pB,rB:=h.rB,gB:=h.gB,aB:=h.aB }
theorem ql{m:dN}{v:EvM}(h:bZ m v=0):bR v=true:=by
 cases hc:bR v with
 | true=>rfl
 | false=>unfold bZ at h; rw[d_ hc]at h; cases h
theorem qm{m:dN}{v:EvM}(h:bZ m v=0):v.seq=m.known (aN v)+1/\fJ m v=0/\m.inn (aN v)=true/\m.left (aN v)=false:=by
 have d:=ql h;unfold bZ at h;rw[b_ (by rw[d]; decide)]at h;by_cases c:kY m.known v=true
 ·rw[d_ c]at h; cases h
 rw[b_ c]at h;by_cases a:dH m.known v=false
 ·rw[d_ a]at h; cases h
 rw[b_ a]at h;by_cases b:m.inn (aN v)=false\/m.left (aN v)=true
 ·rw[d_ b]at h; cases h
 rw[b_ b]at h;refine⟨?_,h,?_,?_⟩
 ·have a:dH m.known v=true:=by cases e:dH m.known v with|true=>rfl|false=>exact M_ e a
  unfold dH at a;simp only[S_,P_]at a;exact a.1.2
 ·cases e:m.inn (aN v)with|true=>rfl|false=>exact M_ (.inl e) b
 cases e:m.left (aN v)with|false=>rfl|true=>exact M_ (.inr e) b
theorem apC(m:dN)(b B:Nat)(w:World)(h:lN w B b m)(v:EvM)(D:gD v)(C:QlK m)(s:1<=B)(j:iM w 0 0 8 Bt) :
 Calls Tryz.prog 19 #[(pt b),.agg (aA 14 (bM v))] w fun e G=>e = .returned (au (bZ m v))/\Below w.heap.size w G:=by
 have u:=h.c;have M:=h.t;have y:=h.p;have z:=h.r;have x:=h.g;have q:=h.a;have L:=h.ne;have P:=h.c.lt;have T:=h.t.lt;have R:=h.p.lt;have S:=h.r.lt;have Q:=h.g.lt;have O:=h.a.lt;refine Kent Tryz.func19 14 ?_;refine ay<|oL fun o w1 d l F z1 => ?_;have⟨E,i⟩:=eO F.old j (Below.refl w.heap.size w);have U:=gH d;have⟨V,W,X,Y,Z⟩:=zQ d u.lt y.lt z.lt x.lt q.lt;have aa:0≠o:=by rw[d]; exact u_ (j.lt (by omega))
 have ab:=l.lt;refine av (au 0)<|aD<|ay<|av (pt b)<|Lv (.agg (aA 14 (bM v))) (fC l.aH 0)<|kV (O8 m b B _ (h.up i) v D C s E) ?_;rintro I w2 ⟨⟨f,J,H,k,N,K⟩,A⟩;refine⟨_,k,?_⟩;clear k;have n:=bB A i;refine av (.tuple #[f,au (bZ m v)])<|av (f)<|av (au (bZ m v))<|av (f)<|av (au (bZ m v))<|aD<|ay<|av (au (bZ m v))<|av (au (bZ m v))<|aD<|Wr<|aJ (au (bZ m v)) ?_;exact⟨rfl,n⟩
theorem YM(m:dN)(b B:Nat)(w:World)(h:lN w B b m)(v:EvM)(hwf:gD v)(M:QlK m)(hB:1<=B)(I:iM w 0 0 8 Bt) :
 Calls Tryz.prog 20 #[(pt b),.agg (aA 14 (bM v))] w fun e S=>e = .returned (au (bZ m v))/\lN S B b (jw m v)/\jV (UL m b w.heap.size) w S:=by
 have F:=h.c;have hT:=h.t;have hP:=h.p;have hR:=h.r;have hG:=h.g;have Z:=h.a;have hN:=h.ne;have lC:=h.c.lt;have lT:=h.t.lt;have lP:=h.p.lt;have lR:=h.r.lt;have lG:=h.g.lt;have lA:=h.a.lt;refine Kent Tryz.func20 30 ?_;refine ay<|oL fun E w1 x D s1 z1 => ?_;have⟨d,m8,l⟩:=iy s1.old F I (Below.refl w.heap.size w);have su:=gH x;have⟨mJ,yw,xw,Bp,zI⟩:=zQ x F.lt hP.lt hR.lt hG.lt Z.lt;have KP:0≠E:=by rw[x]; exact u_ (I.lt (by omega))
 have ug:=D.lt;refine av (au 0)<|aD<|ay<|av (pt b)<|Lv (.agg (aA 14 (bM v))) (fC D.aH 0)<|kV (O8 m b B _ (h.up l) v hwf M hB m8) ?_;rintro W w2 ⟨⟨z,Y,V,j,ho1,hD1⟩,hb1⟩;refine⟨_,j,?_⟩;clear j;have⟨O,n⟩:=eO hb1 D l;refine av (.tuple #[z,au (bZ m v)])<|av (z)<|av (au (bZ m v))<|av (z)<|av (au (bZ m v))<|aD<|Ws<|ay<|av (au (bZ m v)) ?_;by_cases i:(bZ m v)=0
 ·refine Lv aF (jJ i)<|aD<|aK<|Wk<|sN<|Ws ?_;have A:=hD1 i;have hfe:=A.e;subst hfe;refine Wl<|av (.func (.func Y) #[] V)<|Ao (by rfl) (Fx.OQ (args := []) rfl rfl rfl (by simp) A.f) rfl<|(A.s _ (Below.refl _ _)).mono ?_;rintro W u ⟨j,C,G⟩;refine⟨_,j,?_⟩;clear j;have J:jV (UL m b w.heap.size) w u:=(Fx.jV.of_below n) |> fun q=>Fx.jV.trans _ _ _ q (G.mono fun k hk=>hk.imp id (m_ l.size));obtain⟨d,y⟩ : ∃ q,q=iR m v:=⟨_,rfl⟩;rw[<- y]at C;have X:d.known=m.known:=by rw[y,LB]
  have H:=C.c;have lC2:=H.lt;have hkb:=(qm i).1;have N:=ql i;obtain⟨a,K,ho⟩ : ∃ a:Nat,a<6/\v.o=(a:Int)+1:=eX (iU N);have hra:aN v=a:=by unfold aN; omega
  have hbd:=oh N;have hka:=M.kn a K;have P:=(h.up n).Jy (w':=u) (O) (by decide) G (by have:=O.lt; have:=l.size; omega);have awn:=P.lt;refine aD<|Ws ?_;refine jW [0,1,4,5,9,10,2,3,6,7,8,11,12] [0,0,4,0,0,0,0,4,0,0,0,0,3] [(12,2,[2]),(12,7,[7])] fun qE L iC => ?_;have s3:Stp u.heap.size u qE:=Sb L;have⟨Q,m19,m20⟩:=iy L H C P;have T:=J.then s3 (.inr J.size);refine aY (pt b)<|aY (pt E)<|aY (pt b)<|aY (pf b 12)<|aY (pt b)<|aY (pf b 12)<|Rs (au v.o) (aL m20.aH 0) ?_;refine Rp (au a) (fun _=>gF)<|Rp (pf b (a+12)) (fun _=>jI 6 1)<|Rs (aC (d.known a)) (aL Q.aH (a+12) (rT (p:=a) (by omega) (by omega))) ?_;refine Rp (aC (d.known a+1)) (fun v1=>Fx.GD rfl rfl rfl (jH (by rw[X]; omega) rfl))<|Rp (pf b (a+12)) (fun _=>jI 6 1)<|gW<|jd Q (a+12) (aC (d.known a+1)) fun w4 m21 R z2 => ?_;have m22:aR w4 b 29 (vJ { d with known:=aI d.known a (d.known a+1) }) 114:=m21.to (QG K (by omega) _);have U:=T.then R (.inl (.inl (.inl rfl)));refine Ln (bQ (ay (av (au 0) (aD (Wr (aJ (au 0) (⟨by rw[i],?_,U⟩)))))));rw[show jw m v = { d with known:=aI d.known a (d.known a+1) } by unfold jw; rw[d_ i,<- y,hra]];exact m19.known R m22
 refine Lv aG (nC i) (aD (aM (ay (av (au (bZ m v)) (av (au (bZ m v)) (aD (Wr (sR (aJ (au (bZ m v)) (⟨rfl,?_,Fx.jV.of_below n⟩))))))))));rw[show jw m v=m by unfold jw; exact b_ i]; exact h.up n
namespace Rt
def yB(k f c d e b a:Nat):dN := { inn:=fun i=>decide (i<k),left:=fun _=>false,known:=fun _=>0,own:=fun _=>0,T:=dM.zero,R:=fun _ _=>0,gn:=0,g:=fun _ _=>0,an:=0,ao:=fun _=>0,ar:=fun _=>0,tp:=f,mb:=c,pb:=d,rb:=e,gb:=b,ab:=a }
end Rt
theorem VB(k g c d f b a:Nat)(h:k<6):dA (vJ (yB k g c d f b a)) k (.bool true)=vJ (yB (k+1) g c d f b a):=by
 rw[UJ h];have:aI (yB k g c d f b a).inn k true=(yB (k+1) g c d f b a).inn:=by
  funext i
  show(if i=k then true else decide (i<k))=decide (i<k+1);by_cases e:i=k
  ·subst e; rw[d_ rfl]; exact(f_ (by omega)).symm
  ·rw[b_ e]; exact decide_eq_decide.2 (by omega)
 show vJ { yB k g c d f b a with inn:=_ }=_;rw[this]; rfl
theorem YN(m:dN)(b B:Nat)(w:World)(h:lN w B b m) :
 Calls Tryz.prog 21 #[(pt b)] w fun e D=>e = .returned (.agg (aA 6 (rv .u64 m.known)))/\Below w.heap.size w D:=by
 have i:=h.c;have G:=h.t;have s:=h.p;have u:=h.r;have q:=h.g;have o:=h.a;have F:=h.ne;have J:=h.c.lt;have N:=h.t.lt;have L:=h.p.lt;have M:=h.r.lt;have K:=h.g.lt;have I:=h.a.lt;refine Kent Tryz.func21 10 ?_;refine ay<|BH (m:=6) (y:=rv .u64 (fun _=>0)) (by rfl) rfl (by kernel_rfl) rfl fun n V f k A W => ?_;have⟨v,d⟩:=eO A.old i (Below.refl w.heap.size w);have O:=gH f;have⟨P,Q,R,S,T⟩:=zQ f i.lt s.lt u.lt q.lt o.lt;have U:=k.lt;refine aD<|Ws<|ay<|av (pt b)<|Lv aF (Fx.mU rfl rfl rfl (by kernel_rfl))<|aD<|aK<|Wk<|sN<|ay<|av (pt b)<|av (pt b)<|av (pf b 12)<|Lv (.agg (aA 6 (rv .u64 m.known))) (fC v.aH 12 (fun j H=>rT (p:=j) (by omega) (by omega)))<|eB k 0 fun E x C X => ?_;have z:aR E n 6 (rv .u64 m.known) 35:=aP x;have l:=C.below d d.size (by omega);refine aD (Wr (⟨.agg (aA 6 (rv .u64 m.known)),rV Tryz.results21 ⟨_,rfl,aT z.aH (by kernel_rfl) (by kernel_rfl)⟩,?_⟩));exact⟨rfl,l⟩
theorem YO(m:dN)(f B:Nat)(w:World)(h:lN w B f m)(i b:Int)(hi : -9223372036854775808<=i/\i<=9223372036854775807) :
 Calls Tryz.prog 31 #[(pt f),au i,aC b] w fun e C=>e = .returned (au (eF (bA m b) i))/\Below w.heap.size w C:=by
 have v:=h.c;have H:=h.t;have G:=h.p;have o:=h.r;have E:=h.g;have D:=h.a;have F:=h.ne;have J:=h.c.lt;have N:=h.t.lt;have L:=h.p.lt;have M:=h.r.lt;have K:=h.g.lt;have I:=h.a.lt;refine Kent Tryz.func31 17 ?_;refine ay<|av (au 0)<|aD<|Ws<|ay<|av (pt f)<|Lv aF (Fx.mU rfl rfl rfl (by kernel_rfl))<|aD<|aK<|Wk<|sN<|ay<|av (pt f)<|av (pt f)<|av (pf f 20)<|Lv (.map (some m.rb)) (aL v.aH 20)<|av (aC b) ?_
 rcases Fx.sj m.T.x m.T.n b with ⟨d,l,j⟩|jC
 ·refine Lv (.agg (aA 54 (rv .i64 (m.R d)))) (Fx.vZ (z := .agg (aA 54 (rv .i64 (fun _=>0)))) rfl rfl rfl o Tryz.underlying109 Tryz.underlying23 (by kernel_rfl) l j rfl)<|av (au i)<|dK (wF (m.R d) i _ hi) _ rfl ?_;intro O y;have s:=bB y (Below.refl w.heap.size w);refine av (au (eF (m.R d) i))<|aD<|Wr<|aJ (au (eF (m.R d) i)) ?_;have k:bA m b=m.R d:=by unfold bA DV; rw[d_ (show m.T.has b=true from jL l j),show m.idx b=d from mZ h.t.inv.inj l j]
  exact⟨L_ (fun q=>Ending.returned (Value.int .i64 (eF q i))) k.symm,s⟩
 refine Lv (.agg (aA 54 (rv .i64 (fun _=>0)))) (Fx.Oe (z := .agg (aA 54 (rv .i64 (fun _=>0)))) rfl rfl rfl o Tryz.underlying109 Tryz.underlying23 (by kernel_rfl) jC)<|av (au i)<|dK (wF (fun _=>0) i _ hi) _ rfl ?_;intro P A;have u:=bB A (Below.refl w.heap.size w);refine av (au (eF (fun _=>0) i))<|aD<|Wr<|aJ (au (eF (fun _=>0) i)) ?_;have k:bA m b=FQ:=by unfold bA; exact b_ (by rw[show m.T.has b=false from yH jC]; decide)
 exact⟨L_ (fun q=>Ending.returned (Value.int .i64 (eF q i))) k.symm,u⟩
theorem adT(m:dN)(d B:Nat)(w:World)(h:lN w B d m)(b:Int) :
 Calls Tryz.prog 30 #[(pt d),aC b] w fun e k => ∃ a c,e = .returned (.slice a (m.T.path b).length c)/\WX k w.heap.size a c (m.T.path b)/\Below w.heap.size w k:=by
 have n:=h.c;have o:=h.t;have z:=h.p;have A:=h.r;have x:=h.g;have v:=h.a;have y:=h.ne;have D:=h.c.lt;have H:=h.t.lt;have F:=h.p.lt;have G:=h.r.lt;have E:=h.g.lt;have C:=h.a.lt;refine Kent Tryz.func30 13 ?_;refine ay<|av (.slice none 0 0)<|aD<|Ws<|ay<|av (pt d)<|Lv aF (Fx.mU rfl rfl rfl (by kernel_rfl))<|aD<|aK<|Wk<|sN<|ay<|av (pt d)<|av (pt d)<|av (pf d 18)<|Lv (pt m.tp) (aL n.aH 18)<|av (aC b)<|kV (Je b o) ?_;rintro u I ⟨i,j,f,s,q⟩;refine⟨_,f,?_⟩;clear f;have l:=bB q (Below.refl w.heap.size w);refine av (.slice i ((dM.path m.T b).length) (j))<|aD<|Wr<|aJ (.slice i ((dM.path m.T b).length) (j)) ?_;exact⟨_,_,rfl,s,l⟩
theorem ahE(k:Nat)(hk:1<=k/\k<=6)(w:World) :
 Calls Tryz.prog 29 #[au (k:Int)] w fun e w' => ∃ W m,e = .returned (.tuple #[(pt W),au 0])/\(∃ tp mb pb rb gb ab,m=yB k tp mb pb rb gb ab)/\lN w' w.heap.size W m/\Below w.heap.size w w':=by
 refine Kent Tryz.func29 30 ?_;refine ay<|av (.pointer none)<|av (au 0)<|aD<|Ws<|ay<|av (au k)<|Lv aF GQ<|av aF<|av (au k)<|Lv aF xR<|av aF<|aD<|aK<|Wk<|sN<|ay<|kV (Z4 _) ?_;rintro e9 w1 ⟨n,x,V,hg1,X,hb1⟩;refine⟨_,V,?_⟩;clear V;have J:=bB hb1 (Below.refl w.heap.size w);have m2:sH w1 (w.heap.size) n x dM.zero:=X.weak (Below.refl w.heap.size w).size;clear X hg1;refine Fx.L.Ki (by rfl) rfl rfl fun o w2 Q G s2 z1 => ?_;have⟨m4,K⟩:=eO s2.old m2 J;have su:=iI Q J.size;have adU:=bY Q m2.lt;have ug:=G.lt;refine Fx.L.Ki (by rfl) rfl rfl fun q w3 R H s3 z2 => ?_;have⟨m6,m7,M⟩:=iy s3.old m4 G K;have qK:=iI R K.size;have⟨adV,KU⟩:=uw R m4.lt G.lt;have yK:=H.lt;refine Fx.L.RZ (by rfl) rfl rfl fun s w4 S I s4 z3 => ?_;have⟨m9,Y,Z,N⟩:=jP s4.old m6 m7 H M;have BQ:=iI S M.size;have⟨adW,apD,Vy⟩:=EF S m6.lt m7.lt H.lt;have G9:=I.lt;refine Fx.L.RZ (by rfl) rfl rfl fun u w5 T E s5 z4 => ?_;have⟨m13,aa,ac,ad,O⟩:=oQ s5.old m9 Y Z I N;have Qw:=iI T N.size;have⟨adX,adR,adS,VD⟩:=PL T m9.lt Y.lt Z.lt I.lt;have OI:=E.lt;refine av (.agg (aA 29 (bC (bC (bC (bC (bC (fun d=>if d<12 then .bool false else if d<18 then aC 0 else if d<19 then .pointer none else if d<21 then .map none else if d<27 then au 0 else .map none) 18 1 (fun _=>(pt n))) 19 1 (fun _ => .map (some o))) 20 1 (fun _ => .map (some q))) 27 1 (fun _ => .map (some s))) 28 1 (fun _ => .map (some u)))))<|Dv (m:=29) (y:=bC (bC (bC (bC (bC (fun d=>if d<12 then .bool false else if d<18 then aC 0 else if d<19 then .pointer none else if d<21 then .map none else if d<27 then au 0 else .map none) 18 1 (fun _=>(pt n))) 19 1 (fun _ => .map (some o))) 20 1 (fun _ => .map (some q))) 27 1 (fun _ => .map (some s))) 28 1 (fun _ => .map (some u))) (by rfl) rfl rfl (bF _ _) rfl fun b w6 U ae s6 z5 => ?_;have⟨m18,m19,m20,m21,m22,b6⟩:=qD s6.old m13 aa ac ad E O;have lg5:=iI U O.size;have⟨apE,apF,apG,apH⟩:=PL U aa.lt ac.lt ad.lt E.lt;have tg5:=ae.lt;have l:QlN (yB 0 n x o q s u):=⟨adU,adV,adW,adX,by assumption,by assumption,by assumption,by assumption,by assumption,by assumption⟩;have m23:aR w6 b 29 (vJ (yB 0 n x o q s u)) 114:=ae.congr (fun j hj=>match j,hj with|0,_=>rfl|1,_=>rfl|2,_=>rfl|3,_=>rfl|4,_=>rfl|5,_=>rfl|6,_=>rfl|7,_=>rfl|8,_=>rfl|9,_=>rfl|10,_=>rfl|11,_=>rfl|12,_=>rfl|13,_=>rfl|14,_=>rfl|15,_=>rfl|16,_=>rfl|17,_=>rfl|18,_=>rfl|19,_=>rfl|20,_=>rfl|21,_=>rfl|22,_=>rfl|23,_=>rfl|24,_=>rfl|25,_=>rfl|26,_=>rfl|27,_=>rfl|28,_=>rfl|j+29,h=>M_ h (by omega))
 refine av (pt b)<|aD<|Ws<|ay<|av (au k)<|av (au 0)<|aD<|Wb<|Wo (fun f z => ∃ i:Nat,i<=k/\f 4=(pt b)/\f 19=au (k:Int)/\f 20=au (i:Int)/\sH z (w.heap.size) n x dM.zero/\Mp z o 0 (fun _=>0) (fun _ => .pointer none)/\Mp z q 0 (fun _=>0) (fun _ => .pointer none)/\iB z s 0 (fun _=>0) (fun _=>0) (fun _ => .pointer none)/\iB z u 0 (fun _=>0) (fun _=>0) (fun _ => .pointer none)/\aR z b 29 (vJ (yB i n x o q s u)) 114/\Below w.heap.size w z) (fun f _=>((k:Int)-intOf (f 20)).toNat) ⟨0,(by omega),(by rfl),Fx.ic,Fx.ic,m18,m19,m20,m21,m22,m23,b6⟩ ?_;rintro f1 w7 ⟨i,v,C,D,A,m24,mV,nO,ow,oD,F,B⟩;refine ay ?_;by_cases P:(i:Int)<(k:Int)
 ·refine Lv aG (gJ P (hx:=A) (hy:=D))<|aD<|Ws<|aM<|Wk<|sN<|Ws<|Wb<|ay<|aX A<|av (au i)<|aD<|Wl<|aX C<|av (au i)<|av (pt b)<|av (pt b)<|Lv (pf b i) (jI 6 1)<|jd F i aG fun w8 oz s7 z6 => ?_;have lZ:aR w8 b 29 (vJ (yB (i+1) n x o q s u)) 114:=oz.to (VB i _ _ _ _ _ _ (by omega));have gY:=gQ s7 F.ty;have⟨m32,pR,nG,oF,nV⟩:=rE gY m24 mV nO ow oD;have b8:=s7.below B B.size (by omega);refine Ln<|bP<|sN<|Wl<|Lv (au ((i:Int)+1)) (fF (hx:=A))<|av (au ((i:Int)+1))<|Ln<|iq ⟨i+1,(by omega),C,(D.trans Fx.ic),Fx.ic,m32,pR,nG,oF,nV,lZ,b8⟩ ?_;show((k:Int)-intOf (au ((i:Int)+1))).toNat<_;simp only[A,intOf]; omega
 refine Lv aF (gK P (hx:=A) (hy:=D))<|aD<|Ws<|aK<|Wx<|bW<|gP<|bX<|sN<|ay<|aX C<|av (pt b)<|av (au 0)<|aD<|Wr<|aJ (.tuple #[(pt b),au 0]) ?_;have eik:i=k:=by omega
 subst eik;exact⟨b,yB i n x o q s u,rfl,⟨_,_,_,_,_,_,rfl⟩,{ c:=F,t:=m24,p:=mV.uT fun i v=>M_ v (z_ _),r:=nO.uT fun i v=>M_ v (z_ _),g:=ow.uT fun i v=>M_ v (z_ _),a:=oD.uT fun i v=>M_ v (z_ _),ne:=⟨l.mp,l.mr,l.mg,l.ma,l.pr,l.pg,l.pa,l.rg,l.ra,l.ga⟩,lB:=lg5,pB:=su,rB:=qK,gB:=BQ,aB:=Qw },B⟩
end Go.Proofs.YtcbedgfikejkoaaGreatDoor
namespace Go.Proofs.YtcbedgfikejkoaaGreatDoor.Fx
open Go.RowKit Go.Shelf Go.Sort Go.Lib
def kK(a b:Int):Int:=if a<b then -1 else if b<a then 1 else 0
theorem O9(a b:Int):kK a b<0<->a<b:=by
 unfold kK;split
 ·simp_all
 split <;> simp_all
theorem YP{c:Type}(ky:c->Int):SWO (ltOf fun x y=>kK (ky x) (ky y)):=by
 have e : ∀ x y,(ltOf fun x y=>kK (ky x) (ky y)) x y=decide (ky x<ky y):=fun x y=>by
  unfold ltOf;exact decide_eq_decide.2 (O9 _ _)
 refine⟨fun x => ?_,fun x y z a b => ?_,fun x y z a b => ?_⟩ <;> simp only[e,decide_eq_true_eq,decide_eq_false_iff_not]at * <;> omega
end Go.Proofs.YtcbedgfikejkoaaGreatDoor.Fx
namespace Go.Proofs.YtcbedgfikejkoaaGreatDoor.Fx
open Go.RowKit Go.Shelf Go.Sort Go.Lib
theorem LC{w:World}{B g cap m N s:Nat}{E:TypeId}(a:Array Value)(os:Array Obj){x:Nat->Value}(h:Own w B E s (.slice (some ⟨g,0,none⟩) m cap) m x)(f:a.size=m*s) :
 Own (sortWorld id w g 0 N a os) B E s (.slice (some ⟨g,0,none⟩) m cap) m (fun q=>a[q]!)/\Stp g w (sortWorld id w g 0 N a os):=by
 rcases h.2 with ⟨b,_⟩|⟨g',cap',cur,b,hB,hg,hn,hm,hs,ht⟩
 ·cases b
 simp only[Value.slice.injEq,Option.some.injEq,Addr.mk.injEq]at b;obtain⟨⟨rfl,_⟩,_,rfl⟩:=b;have n:g<w.heap.size:=(t_.1 hg).1;have d:(sortWorld id w g 0 N a os).heap=(w.heap.modify g (onCells (putCells id 0 a)))++os:=rfl;have e : ∀ k,k<w.heap.size->(sortWorld id w g 0 N a os).heap[k]? = (w.heap.modify g (onCells (putCells id 0 a)))[k]? := fun k c=>by
  rw[d,Array.getElem?_append_left (by simpa using c)]
 have p:m*s<=cap*s:=Nat.mul_le_mul_right s hn;refine⟨⟨by simp,.inr ⟨g,cap,putCells id 0 a cur,rfl,hB,?_,hn,hm,?_,?_⟩⟩,⟨rfl,rfl,rfl,by rw[d]; simp,fun k c o => ?_⟩⟩
 ·rw[e g n,Array.getElem?_modify,d_ rfl,hg]; rfl
 ·simp[putCells,hs]
 ·apply List.ext_getElem?;intro i;by_cases j:i<m*s
  ·have l:i<cur.size:=(by omega);rw[List.getElem?_take_of_lt (by omega),Array.getElem?_toList];unfold putCells;rw[Array.getElem?_mapIdx,Array.getElem?_eq_getElem l];simp[j,f]
  rw[List.getElem?_eq_none (by simp; omega),List.getElem?_eq_none (by simp; omega)]
 rw[e k c,Array.getElem?_modify,b_ (Ne.symm o)]
theorem ND{w:World}{B g cap m s:Nat}{E:TypeId}(d:Array Value){x:Nat->Value}(h:Own w B E s (.slice (some ⟨g,0,none⟩) m cap) m x)(n:d.size=m*s)(hx : ∀ q,q<m*s->x q=d[q]!)(i:0<m) :
 Holds id w g 0 d/\g<w.heap.size:=by
 obtain⟨l,k,e,_,f,_,c⟩:=h.form i
 rcases h.2 with ⟨a,_⟩|⟨g2,cap2,cur,a,hB,hg,hn,hm,hs,ht⟩
 ·cases a
 simp only[Value.slice.injEq,Option.some.injEq,Addr.mk.injEq]at a e;obtain⟨⟨rfl,_⟩,_,rfl⟩:=a;obtain⟨⟨rfl,_⟩,_,rfl⟩:=e;refine⟨fun j o=>⟨?_,?_⟩,f⟩
 ·have b:=c j (by omega);rw[b,hx j (by omega)]; rfl
 simp[World.frozen?,hg]
theorem Im{a:Type} [Inhabited a]{s:Nat}{enc:a->Nat->Value}{e0:a}{l:List a}(f:0<s) : ∀ q,q<l.length*s->flat s (fun k=>enc (l.getD k e0)) q=(Go.Sort.flatK (fun x=>(List.range s).map (enc x)) s l.toArray)[q]! := fun q b=>by
 have d:q / s<l.length:=Nat.div_lt_of_lt_mul (by rw[Nat.mul_comm]; exact b);have e:q % s<s:=J_ _ f;rw[Go.Sort.get_flatK _ _ _ q (by simpa using b)];unfold flat;have c:l.toArray[q / s]! = l.getD (q / s) e0:=by simp[d]
 rw[c];simp[e]
theorem VE{P:Program}{ρ:Ren}(I:SlLaysF0.n6 P ρ){p:Nat}(U : ∀ J w,(callFunc p J).run P w = .ok (.enter p J) w){w:World}{B cap s:Nat}{a:Option Addr}{E:TypeId}(L:0<s)
 (S : ∀ w,(isAgg (ρ.t 24)).run P w = .ok true w) (zE : ∀ w,(Go.sizeOf (ρ.t 24)).run P w = .ok s w) {o:Type} [Inhabited o] {enc:o->Nat->Value} {e0:o} (h1 : ∀ x j,j<s->(enc x j).oneCell'=true) {ky:o->Int} {l:List o}
 (h:Own w B E s (.slice a l.length cap) l.length (flat s fun q=>enc (l.getD q e0)))
 (Y : ∀ O x y,Calls P p #[.agg (aA s (enc x)),.agg (aA s (enc y))] O fun e c=>e = .returned (.int .i64 (kK (ky x) (ky y))) /\ ∃ q os',c=grow (O.drewN q) os') (hm:l.length<4611686018427387904) :
 Calls P (ρ.f 6) #[.slice a l.length cap,.func (.func p) #[] #[]] w fun e c=>e = .returned (.tuple #[]) /\ ∃ H:List o,H.Perm l/\H.Pairwise (fun x y=>ky x<=ky y)/\Own c B E s (.slice a l.length cap) l.length (flat s fun q=>enc (H.getD q e0))/\(∀ k,k<w.heap.size->(Value.slice a l.length cap).ownBlock≠some k->c.heap[k]? = w.heap[k]?)/\iW [E] w c/\Below B w c:=by
 by_cases V:l.length=0
 ·have F:l = []:=List.length_eq_zero_iff.1 V;subst F;refine(AnyF.slices_SortFunc_none I a cap _ w).mono ?_;rintro e c ⟨D,rfl⟩;exact⟨D,[],List.Perm.refl _,List.Pairwise.nil,h,fun _ _ _=>rfl,vM _,Below.refl _ _⟩
 obtain⟨g,c2,u,hB,hg,hmc,_⟩:=h.form (by omega);simp only[Value.slice.injEq]at u;obtain⟨rfl,_,rfl⟩:=u;have A : ∀ x,((fun x=>(List.range s).map (enc x)) x).length=s:=fun x=>by simp
 have hsz:(Go.Sort.flatK (fun x=>(List.range s).map (enc x)) s l.toArray).size=l.length*s:=by simp
 obtain⟨X,F⟩:=ND _ h hsz (Im L) (by omega);have hty:Ty w g E:=h.ty rfl;have C : ∀ x,((List.range s).map (enc x)).toArray=aA s (enc x):=fun x=>by
  apply Array.ext
  ·simp[bT]
  ·intro i h1 W;have m:i<s:=(by simpa using h1);have:=gy (enc x) m;rw[Array.getElem?_eq_getElem W]at this;rw[C_ this]; simp
 have K:=AnyQ.slices_SortFunc I s S zE (fun x=>(List.range s).map (enc x)) A (fun x v C=>by
  obtain⟨j,z,rfl⟩:=List.mem_map.1 C;exact h1 x j (O_.1 z)) (fun x y=>kK (ky x) (ky y)) (YP _) p #[] g 0 cap l.toArray w U
  (fun N r dk hdk x y=>by rw[C,C]; exact Y _ x y) X F (by simpa using hm)
 rw[show l.toArray.size=l.length by simp]at K;refine K.mono ?_;rintro e c ⟨D,b,N,r,⟨n,_,M⟩,hso,rfl⟩;have n:b.size=l.length:=by simpa using n
 have hw:sortWorldK (fun x=>(List.range s).map (enc x)) s w g 0 N b r=sortWorld id w g 0 N (Go.Sort.flatK (fun x=>(List.range s).map (enc x)) s b) r:=rfl;rw[hw];obtain⟨o1,d⟩:=LC (N:=N) (Go.Sort.flatK (fun x=>(List.range s).map (enc x)) s b) r h (by simp[n]);have u:(b.extract 0 l.length).toList=b.toList:=by
  rw[<- n]; simp
 have T:(l.toArray.extract 0 l.length).toList=l:=by simp
 rw[u,T]at M;refine⟨D,b.toList,M,?_,?_,fun k A hne=>d.block k A (fun e=>hne (by rw[e]; rfl)),gQ d hty,⟨d.os,d.tape,d.output,d.size,fun k A=>d.block k (by omega) (by omega)⟩⟩
 ·rw[List.pairwise_iff_getElem];intro i j Z z aa;have m:=hso i j (K_ _) aa (by rw[<- n]; simpa using z);unfold ltOf at m;rw[decide_eq_false_iff_not,O9]at m;have Q:b[i]! = b.toList[i]:=by rw[getElem!_pos b i (by simpa using Z)]; simp
  have R:b[j]! = b.toList[j]:=by rw[getElem!_pos b j (by simpa using z)]; simp
  rw[Q,R]at m;exact Int.not_lt.1 m
 have:=fun q (G:q<l.length*s)=>Im (enc:=enc) (e0:=e0) (l:=b.toList) L q (by simpa [n] using G);have o3:Own (sortWorld id w g 0 N (Go.Sort.flatK (fun x=>(List.range s).map (enc x)) s b) r) B E s (.slice (some ⟨g,0,none⟩) l.length cap) l.length (flat s fun q=>enc (b.toList.getD q e0)):=o1.congr fun q G=>by
  have:=this q G;simp only[Array.toArray_toList]at this;exact this.symm
 exact o3
end Go.Proofs.YtcbedgfikejkoaaGreatDoor.Fx
namespace Go.Proofs.YtcbedgfikejkoaaGreatDoor
open Go.Shelf
def QO:Go.Shelf.Ren:=⟨fun|6=>47|15=>87|14=>86|28=>137|29=>138|20=>129|21=>130|22=>131|23=>132|24=>133|25=>134|26=>135|27=>136|46=>164|47=>165|48=>166|49=>167|50=>168|57=>185|n=>n,fun|22=>48|24=>106|25=>122|3=>3|39=>161|0=>0|53=>181|55=>23|4=>4|46=>208|45=>207|50=>212|5=>5|9=>9|66=>237|70=>241|76=>251|77=>252|n=>n,fun|n=>n⟩
theorem ahF:Go.Proofs.SlLaysF0.n6 Tryz.prog QO := {
 mixed:=by kernel_rfl
 f6:=⟨Tryz.f47.name,by decide,Tryz.func47.trans (L_ some (by kernel_rfl))⟩
 f14:=⟨Tryz.f86.name,by decide,Tryz.func86.trans (L_ some (by kernel_rfl))⟩
 f15:=Tryz.func87.trans (L_ some (by kernel_rfl))
 f20:=⟨Tryz.f129.name,by decide,Tryz.func129.trans (L_ some (by kernel_rfl))⟩
 f21:=⟨Tryz.f130.name,by decide,Tryz.func130.trans (L_ some (by kernel_rfl))⟩
 f22:=⟨Tryz.f131.name,by decide,Tryz.func131.trans (L_ some (by kernel_rfl))⟩
 f23:=⟨Tryz.f132.name,by decide,Tryz.func132.trans (L_ some (by kernel_rfl))⟩
 f24:=⟨Tryz.f133.name,by decide,Tryz.func133.trans (L_ some (by kernel_rfl))⟩
 f25:=⟨Tryz.f134.name,by decide,Tryz.func134.trans (L_ some (by kernel_rfl))⟩
 f26:=⟨Tryz.f135.name,by decide,Tryz.func135.trans (L_ some (by kernel_rfl))⟩
 f27:=⟨Tryz.f136.name,by decide,Tryz.func136.trans (L_ some (by kernel_rfl))⟩
 f28:=Tryz.func137.trans (L_ some (by kernel_rfl))
 f29:=Tryz.func138.trans (L_ some (by kernel_rfl))
 f46:=⟨Tryz.f164.name,by decide,Tryz.func164.trans (L_ some (by kernel_rfl))⟩
 f47:=Tryz.func165.trans (L_ some (by kernel_rfl))
 f48:=Tryz.func166.trans (L_ some (by kernel_rfl))
 f49:=⟨Tryz.f167.name,by decide,Tryz.func167.trans (L_ some (by kernel_rfl))⟩
 f50:=⟨Tryz.f168.name,by decide,Tryz.func168.trans (L_ some (by kernel_rfl))⟩
 f57:=⟨Tryz.f185.name,by decide,Tryz.func185.trans (L_ some (by kernel_rfl))⟩
 t0:=Tryz.underlying0
 a0:=Tryz.isAgg0
 z0:=Tryz.sizeOf0
 v0:=Tryz.zeroValue0
 t3:=Tryz.underlying3
 a3:=Tryz.isAgg3
 z3:=Tryz.sizeOf3
 v3:=Tryz.zeroValue3
 t4:=Tryz.underlying4
 a4:=Tryz.isAgg4
 z4:=Tryz.sizeOf4
 v4:=Tryz.zeroValue4
 t5:=Tryz.underlying5
 a5:=Tryz.isAgg5
 z5:=Tryz.sizeOf5
 v5:=Tryz.zeroValue5
 t9:=Tryz.underlying9
 a9:=Tryz.isAgg9
 z9:=Tryz.sizeOf9
 v9:=Tryz.zeroValue9
 t22:=Tryz.underlying48
 a22:=Tryz.isAgg48
 z22:=Tryz.sizeOf48
 v22:=Tryz.zeroValue48
 t25:=Tryz.underlying122
 a25:=Tryz.isAgg122
 z25:=Tryz.sizeOf122
 v25:=Tryz.zeroValue122
 t39:=Tryz.underlying161
 a39:=Tryz.isAgg161
 z39:=Tryz.sizeOf161
 v39:=Tryz.zeroValue161
 t45:=Tryz.underlying207
 a45:=Tryz.isAgg207
 z45:=Tryz.sizeOf207
 v45:=Tryz.zeroValue207
 t46:=Tryz.underlying208
 a46:=Tryz.isAgg208
 z46:=Tryz.sizeOf208
 v46:=Tryz.zeroValue208
 t50:=Tryz.underlying212
 a50:=Tryz.isAgg212
 z50:=Tryz.sizeOf212
 v50:=Tryz.zeroValue212
 t53:=Tryz.underlying181
 a53:=Tryz.isAgg181
 z53:=Tryz.sizeOf181
 v53:=Tryz.zeroValue181
 t55:=Tryz.underlying23
 a55:=Tryz.isAgg23
 z55:=Tryz.sizeOf23
 v55:=Tryz.zeroValue23
 t66:=Tryz.underlying237
 a66:=Tryz.isAgg237
 z66:=Tryz.sizeOf237
 v66:=Tryz.zeroValue237
 t70:=Tryz.underlying241
 a70:=Tryz.isAgg241
 z70:=Tryz.sizeOf241
 v70:=Tryz.zeroValue241
 t76:=Tryz.underlying251
 a76:=Tryz.isAgg251
 z76:=Tryz.sizeOf251
 v76:=Tryz.zeroValue251
 t77:=Tryz.underlying252
 a77:=Tryz.isAgg252
 z77:=Tryz.sizeOf252
 v77:=Tryz.zeroValue252 }
end Go.Proofs.YtcbedgfikejkoaaGreatDoor
namespace Go.Proofs.YtcbedgfikejkoaaGreatDoor
open Go.RowKit Go.Sort Rt
namespace Fx
def YQ(w w':World):Prop := ∃ q a,w'=grow (w.drewN q) a
theorem YQ.refl(w:World):YQ w w:=⟨0,#[],by rw[grow_empty]; rfl⟩
theorem YQ.alloc{w a b:World}(h:YQ w a)(z : ∃ o,b=a.alloc o):YQ w b:=by
 obtain⟨q,c,rfl⟩:=h;obtain⟨o,rfl⟩:=z;exact⟨q,c ++ #[o],by rw[alloc_eq_grow,grow_grow]⟩
theorem YQ.drew{w a b:World}(h:YQ w a)(z:b=a.drew):YQ w b:=by
 obtain⟨q,c,rfl⟩:=h;subst z;exact⟨q+1,c,rfl⟩
section
variable {P:Program} {n:Nat} {Q:Post} {f:Nat->Value} {w:World} {ops:Array Oper} {rest:List Oper} {o:Oper}
theorem L.ahG{T:TypeId}{x:Operand}{v:Value}{m:Nat}{y:Nat->Value}(i:Region.wanted o (yf ops f)=true)(d:o.op = .box T x)(hx:ev f x=v)(b:v.cells=aA m y)(c:inn n o.dst=true)
 (h : ∀ g a,g=w.heap.size->aR a g m y T->Stp w.heap.size w a->(∃ o,a=w.alloc o)->L P n ops Q rest (put f o.dst (.pointer (some ⟨g,0,none⟩))) a):L P n ops Q (o::rest) f w:=by
 have e:(execOp (ev f) o).run P w = .ok (.value (.pointer (some ⟨w.heap.size,0,none⟩))) (w.alloc (.cells v.cells T)):=by
  unfold execOp;simp[d,hx,Instr.box,newVar,newRow]
 refine L.val i e c (h _ _ rfl ?_ (Stp.alloc _ _) ⟨_,rfl⟩);show(w.alloc _).heap[w.heap.size]? = _;rw[alloc_at,d_ rfl,b]
theorem L.YR{T E:TypeId}{len s:Nat}{l:List (Nat × Operand)}{vs:List (Nat × Value)}{zc y:Nat->Value}(I:Region.wanted o (yf ops f)=true)(B:o.op = .buildSlice T len l.toArray)(C:l.map (fun p=>(p.1,ev f p.2))=vs)(H:P.underlying T=some (.slice E))(k:(P.info? E).map (·.size)=some s)
 (q:Nat.ble (len*s) 16777216=true) (d:Nat.beq (len*s) 0=false) (J:((P.info? E).bind (·.zero)).map (·.cells)=some (aA s zc)) (u:Instr.fill (fun i=>some (i*s,s)) (aA (len*s) (fun j=>zc (j % s))) vs=some (aA (len*s) y)) (t:inn n o.dst=true)
 (h : ∀ g a,g=w.heap.size->aR a g (len*s) y E->Stp w.heap.size w a->(∃ o,a=w.alloc o)->L P n ops Q rest (put f o.dst (.slice (some ⟨g,0,none⟩) len len)) a):L P n ops Q (o::rest) f w:=by
 obtain⟨z,K,M⟩:=Option.map_eq_some_iff.1 J;obtain⟨i,c,N⟩:=Option.bind_eq_some_iff.1 K;have G:i.size=s:=by rw[c]at k; simpa using k
 have O : ¬ len*s>2^24:=by have:=Nat.le_of_ble_eq_true q; omega
 have b:len*s≠0:=fun e=>by rw[e]at d; exact M_ d (by decide)
 have F:0<s:=Nat.pos_of_ne_zero fun e=>b (by rw[e,Nat.mul_zero]);have r:(Array.range (len*s)).map (fun j=>z.cells[j % z.cells.size]!)=aA (len*s) (fun j=>zc (j % s)):=by
  refine uP (by simp) fun j x => ?_;have A:j % s<s:=J_ _ F;have v:=gy zc A;rw[M];simp[x,bT];rw[getElem!_def,v]
 have D:(execOp (ev f) o).run P w = .ok (.value (.slice (some ⟨w.heap.size,0,none⟩) len len)) (w.alloc (.cells (aA (len*s) y) E)):=by
  unfold execOp;simp only[B,List.map_toArray,C];unfold Instr.buildSlice;have m : ¬ 16777216<len*s:=by omega
  simp[underlying,sizeOf,typeInfo,zeroValue,H,c,G,N,m];simp[b,r,u,newRow]
 refine L.val I D t (h _ _ rfl ?_ (Stp.alloc _ _) ⟨_,rfl⟩);show(w.alloc _).heap[w.heap.size]? = _;rw[alloc_at,d_ rfl]
end
section
variable {P:Program} {n:Nat} {ops:List Oper} {Q:Post}
theorem W.adY{f:Nat->Value}{w:World}{id:Nat}(l:List Nat)(cs:List Nat)(S:World->World->Prop)(j : ∀ w,S w w)(m : ∀ a b c,S a b->S b c->S a c)(fP:List (Nat × Nat × List Nat))(t:P.follows .mixedOrders=true)(u:lU n ops=true)(x:Region.noSelect ops.toArray=true)(e:zN ops l=true)(v:vW ops cs fP l=true)
 (h : ∀ g,Below w.heap.size w g->g=w.drew->R P n ops cs S Q l f g):W P n (.region id ops.toArray true) Q f w:=fun a o=>by
 refine wp_region_any t ?_;unfold zN at e;rw[S_,S_,S_,List.all_eq_true,List.all_eq_true]at e;obtain⟨⟨⟨y,z⟩,p3⟩,p4⟩:=e;have s:=B_ y;have A:l.Nodup:=h_ p3;have:=R.any (P:=P) (Q:=Q) (fP:=fP) u x j m ops.length l (Array.replicate ops.length false) a f w.drew s (by simp) (JR.start _ _ _) (fun i=>by
  have p : ∀ i,(Array.replicate ops.length false).getD i false=false:=fun i=>getD_replicate_false _ _;constructor
  ·intro d; exact⟨by simpa [Nat.blt_eq] using z i d,p i⟩
  ·intro d;obtain⟨k,q,r⟩:=List.any_eq_true.1 (p4 i (by simpa using d.1));rw[B_ r]; exact q) A (vX v) o (h w.drew (Below.refl _ _).drew rfl)
 simpa using this
end
end Fx
namespace Rt
structure JH where
 x:Nat->Int
 h:0<=x 1/\x 1<=18446744073709551615
def g0:JH:=⟨fun _=>0,by decide⟩
instance:Inhabited JH:=⟨g0⟩
def JZ(x:Nat->Int):JH:=if h:0<=x 1/\x 1<=18446744073709551615 then⟨x,h⟩else g0
def LD(x:JH):Int:=x.x 0*18446744073709551616+x.x 1
theorem aaq{x:Nat->Int}(h:0<=x 1/\x 1<=18446744073709551615):(JZ x).x=x:=by unfold JZ; rw[dif_pos h]
def Ri(a b:Int):Int:=if a=0 then b else a
def NG(a b:Int)(i:Nat):Int:=if i=0 then a else b
def orW(a b:Int):Nat->Value:=fun j => .int .i64 (NG a b j)
section
variable {a b:Int} {i:Nat}
theorem apI(d:i=0\/a=0)(c:NG a b i=0):i+1=0\/a=0:=by
 unfold NG at c
 rcases d with rfl|e
 ·exact .inr (by simpa using c)
 exact .inr e
theorem apJ(d:i=0\/a=0)(c:NG a b i=0):i+1<2\/Ri a b=0:=by
 unfold NG at c;by_cases e:i=0
 ·exact .inl (by omega)
 rw[b_ e]at c
 rcases d with h|h
 ·exact M_ h e
 exact .inr (by unfold Ri; rw[d_ h]; exact c)
theorem apK(d:i=0\/a=0)(c : ¬ NG a b i=0):Ri a b=NG a b i:=by
 unfold NG at c ⊢;unfold Ri;by_cases e:i=0
 ·rw[d_ e]at c ⊢; rw[b_ c]
 rw[b_ e]
 rcases d with h|h
 ·exact M_ h e
 rw[d_ h]
theorem apL(h:i<2\/Ri a b=0)(c : ¬ (i:Int)<2):Ri a b=0:=by
 rcases h with h|h
 ·omega
 exact h
end
theorem adZ(x y:JH):Ri (Fx.kK (x.x 0) (y.x 0)) (Fx.kK (x.x 1) (y.x 1))=Fx.kK (LD x) (LD y):=by
 have a:=x.h;have b:=y.h;unfold Ri Fx.kK LD
 repeat' split
 all_goals first|rfl|omega
structure QS(n:Nat)(S:Nat->Bool)(il:List Nat):Prop where
 nd:il.Nodup
 mem : ∀ i,i∈il<->(i<n/\S i=true)
theorem QS.start(n:Nat):QS n (fun _=>false) []:=⟨List.nodup_nil,fun i=>⟨fun h=>(nomatch h),fun h=>(nomatch h.2)⟩⟩
theorem QS.step{n i:Nat}{S:Nat->Bool}{c:List Nat}(h:QS n S c)(hi:i<n)(l:S i=false):QS n (Fx.aO S i true) (c ++ [i]):=by
 have k:i ∉ c:=fun g=>by have:=((h.mem i).1 g).2; rw[l]at this; cases this
 refine⟨List.nodup_append.2 ⟨h.nd,by simp,fun a f b d e => ?_⟩,fun j => ?_⟩
 ·rw[List.mem_singleton]at d; subst d; subst e; exact k f
 rw[List.mem_append,List.mem_singleton,h.mem];show _<->(j<n/\(if j=i then true else S j)=true);by_cases e:j=i
 ·subst e; rw[d_ rfl]; exact⟨fun _=>⟨hi,rfl⟩,fun _ => .inr rfl⟩
 rw[b_ e]; exact⟨fun h=>h.elim id fun h=>M_ h e,fun h => .inl h⟩
theorem QS.len{n:Nat}{S:Nat->Bool}{c:List Nat}(h:QS n S c):c.length<=n :=
 Cw n c.length (fun q=>c.getD q 0) (fun q d=>by
  have:c.getD q 0∈c:=by rw[r_,o_ d]; exact Q_ d
  exact((h.mem _).1 this).1) fun a b f g e=>by
  have e:c.getD a 0=c.getD b 0:=e;rw[r_,r_,o_ f,o_ g]at e;exact(List.getElem_inj h.nd).1 e
structure GrS(m:dN)(l:List JH):Prop where
 mem : ∀ x,x∈l -> ∃ i,i<m.gn/\x.x=m.g i
 all : ∀ i,i<m.gn -> ∃ x,x∈l/\x.x=m.g i
 up:l.Pairwise fun x y=>LD x<LD y
theorem GrS.of{m:dN}{w:World}{b:Nat}{t:List Nat}{l:List JH}{S:Nat->Bool}(o:Fx.iB w b m.gn (fun i=>m.g i 0) (fun i=>m.g i 1) (uI m.g))(hi:QS m.gn S t)(z : ∀ i,i<m.gn->S i=true)(r:l.Perm (t.map fun i=>JZ (m.g i)))(B:l.Pairwise fun x y=>LD x<=LD y):GrS m l:=by
 have k : ∀ i,i<m.gn->(JZ (m.g i)).x=m.g i:=fun i hi=>aaq (o.ok hi).b;have f : ∀ i,i∈t<->i<m.gn:=fun i=>by rw[hi.mem]; exact⟨fun h=>h.1,fun h=>⟨h,z i h⟩⟩
 have p : ∀ x,x∈l -> ∃ i,i<m.gn/\x=JZ (m.g i):=fun x s=>by
  obtain⟨i,c,d⟩:=List.mem_map.1 (r.mem_iff.1 s);exact⟨i,(f i).1 c,d.symm⟩
 have A:l.Nodup:=by
  rw[r.nodup_iff,List.nodup_iff_pairwise_ne,List.pairwise_map];refine(List.nodup_iff_pairwise_ne.1 hi.nd).imp_of_mem fun {a b} ha hb q e=>q ?_;have c:=L_ JH.x e;rw[k a ((f a).1 ha),k b ((f b).1 hb)]at c;exact o.inj a b ((f a).1 ha) ((f b).1 hb) (by show m.g a 0=m.g b 0; rw[c]) (by show m.g a 1=m.g b 1; rw[c])
 refine⟨fun x s => ?_,fun i c => ?_,?_⟩
 ·obtain⟨i,c,d⟩:=p x s;exact⟨i,c,by rw[d,k i c]⟩
 ·exact⟨JZ (m.g i),r.mem_iff.2 (List.mem_map.2 ⟨i,(f i).2 c,rfl⟩),k i c⟩
 refine(B.and (List.nodup_iff_pairwise_ne.1 A)).imp_of_mem fun {a b} ha hb h => ?_;obtain⟨i,c,u⟩:=p a ha;obtain⟨j,d,v⟩:=p b hb;have q:=h.2
 rcases Int.lt_or_eq_of_le h.1 with h3|h3
 ·exact h3
 exfalso;have C:=a.h;have D:=b.h;unfold LD at h3;refine q ?_;have n:a.x 0=b.x 0/\a.x 1=b.x 1:=by omega
 rw[u,v,k i c,k j d]at n;have:=o.inj i j c d n.1 n.2;rw[u,v,this]
def VF(m:dN)(l:List Int)(k:Nat):Nat->Value:=mE (l.getD k 0) (m.T.par (l.getD k 0)) (DV m (l.getD k 0))
def Xa(l:List JH)(k:Nat):Nat->Value:=ji (l.getD k g0).x
theorem LG{id par:Int}{R:Nat->Int}{z:Nat->Value} : ∀ j,j<56->Fx.bC (Fx.bC (Fx.bC z 0 1 (fun _ => .int .u64 id)) 1 1 (fun _ => .int .u64 par)) 2 54 (Fx.rv .i64 R) j=mE id par R j:=fun j a=>by
 unfold Fx.bC mE
 rcases(show j=0\/j=1\/2<=j by omega)with rfl|rfl|h
 ·rfl
 ·rfl
 ·rw[d_ (by omega),b_ (by omega),b_ (by omega)]; rfl
theorem YS{m:dN}{l:List Int}{n:Nat}{id par:Int}{R:Nat->Int}{z z2:Nat->Value}(b:l.getD n 0=id)(c:m.T.par id=par)(d:DV m id=R) : ∀ j,j<(n+1)*56->Fx.iD (Fx.flat 56 (VF m l)) (n*56) (Fx.bC z (0*56) 56 (Fx.bC (Fx.bC (Fx.bC z2 0 1 (fun _ => .int .u64 id)) 1 1 (fun _ => .int .u64 par)) 2 54 (Fx.rv .i64 R))) j=Fx.flat 56 (VF m l) j:=fun j a =>
 (Fx.xP j a).trans (Fx.bJ (fun k _ q f=>by
  unfold Fx.rA;by_cases e:k=n
  ·subst e; rw[d_ rfl,LG q f]; unfold VF; rw[b,c,d]
  ·rw[b_ e]) j a)
theorem YT{g:Nat->Nat->Int}{a:List Nat}{i:Nat}{z:Nat->Value} : ∀ j,j<(a.length+1)*5->Fx.iD (Fx.flat 5 fun k=>ji (g (a.getD k 0))) (a.length*5) (Fx.bC z (0*5) 5 (ji (g i))) j=Fx.flat 5 (fun k=>ji (g ((a ++ [i]).getD k 0))) j:=fun j b =>
 (Fx.xP j b).trans (Fx.bJ (fun k c q _=>by
  unfold Fx.rA;by_cases e:k=a.length
  ·subst e; rw[d_ rfl]; simp[r_]
  ·rw[b_ e]; show ji (g (a.getD k 0)) q=_; rw[r_,r_,List.getElem?_append_left (by omega)]) j b)
theorem YU{m:dN}{a:List Nat}{S:Nat->Bool}{w:World}{b:Nat}(d:Fx.iB w b m.gn (fun i=>m.g i 0) (fun i=>m.g i 1) (uI m.g))(hi:QS m.gn S a) : ∀ j,j<(a.map fun i=>JZ (m.g i)).length*5->Fx.flat 5 (fun k=>ji (m.g (a.getD k 0))) j=Fx.flat 5 (Xa (a.map fun i=>JZ (m.g i))) j:=fun j f =>
 Fx.bJ (n:=(a.map fun i=>JZ (m.g i)).length) (fun k c q _=>by
  rw[List.length_map]at c;unfold Xa;have h:a.getD k 0∈a:=by rw[r_,o_ c]; exact Q_ c
  have e:((a.map fun i=>JZ (m.g i)).getD k g0)=JZ (m.g (a.getD k 0)):=by
   rw[r_,r_,o_ (by rw[List.length_map]; exact c),o_ c,List.getElem_map]; rfl
  rw[e,aaq (d.ok ((hi.mem _).1 h).1).b]) j f
theorem QT(s:DI)(a:Option Addr)(n c:Nat):Fx.dA (mY s) 18 (.slice a n c)=mY { s with na:=a,nn:=n,nc:=c }:=by
 funext p
 unfold Fx.dA mY;by_cases e:p=18
 ·subst e; rw[d_ rfl,b_ (by omega),b_ (by omega),b_ (by omega),d_ rfl]
 rw[b_ e]
 repeat' split
 all_goals first|rfl|omega
theorem NH(s:DI)(a:Option Addr)(n c:Nat) : ∀ p,p<20->Fx.dA (mY s) 19 (.slice a n c) p=mY { s with ga:=a,gn:=n,gc:=c } p:=fun p b=>by
 unfold Fx.dA mY;by_cases e:p=19
 ·subst e; rw[d_ rfl,b_ (by omega),b_ (by omega),b_ (by omega),b_ (by omega)]
 ·rw[b_ e]
  repeat' split
  all_goals first|rfl|omega
def VG(m:dN)(d:Option Addr)(f e:Nat)(a:Option Addr)(c b:Nat):DI:=⟨m.inn,m.left,m.known,d,f,e,a,c,b⟩
theorem YV{id par:Int}{R:Nat->Int}{z z2:Nat->Value} : ∀ j,j<1*56->(Fx.bC z (0*56) 56 (Fx.bC (Fx.bC (Fx.bC z2 0 1 (fun _ => .int .u64 id)) 1 1 (fun _ => .int .u64 par)) 2 54 (Fx.rv .i64 R)) j).oneCell'=true:=fun j a=>by
 rw[show Fx.bC z (0*56) 56 (Fx.bC (Fx.bC (Fx.bC z2 0 1 (fun _ => .int .u64 id)) 1 1 (fun _ => .int .u64 par)) 2 54 (Fx.rv .i64 R)) j=Fx.bC (Fx.bC (Fx.bC z2 0 1 (fun _ => .int .u64 id)) 1 1 (fun _ => .int .u64 par)) 2 54 (Fx.rv .i64 R) (j-0*56) by unfold Fx.bC; rw[d_ (by omega)],LG _ (by omega)];exact vw _ _ _ _
theorem YW{x:Nat->Int}{z:Nat->Value} : ∀ j,j<1*5->(Fx.bC z (0*5) 5 (ji x) j).oneCell'=true:=fun j a=>by
 unfold Fx.bC; rw[d_ (by omega)]; exact uo x _
theorem aea{m:dN}{c:List Nat}{S:Nat->Bool}{w f:World}{b B cap d:Nat}{a:Option Addr}{T:TypeId}(l:Fx.iB w b m.gn (fun i=>m.g i 0) (fun i=>m.g i 1) (uI m.g))(hi:QS m.gn S c)(e:d=c.length)(n:Fx.Own f B T 5 (.slice a d cap) d (Fx.flat 5 fun k=>ji (m.g (c.getD k 0)))) :
 Fx.Own f B T 5 (.slice a (c.map fun i=>JZ (m.g i)).length cap) (c.map fun i=>JZ (m.g i)).length (Fx.flat 5 (Xa (c.map fun i=>JZ (m.g i)))):=by
 have h:=n.congr (y:=Fx.flat 5 (Xa (c.map fun i=>JZ (m.g i)))) (fun j o=>YU l hi j (by rw[List.length_map,<- e]; exact o));rw[List.length_map,<- e]; exact h
theorem VH(m:dN){z:Nat->Value}(e : ∀ j,18<=j->z j = .slice none 0 0){x1 x2:Nat->Value}(h1 : ∀ j,j<6->x1 j = .bool (m.inn j))(d : ∀ j,j<6->x2 j = .bool (m.left j)) : ∀ j,j<20->Fx.bC (Fx.bC (Fx.bC z 0 6 x1) 6 6 x2) 12 6 (Fx.rv .u64 m.known) j=mY (VG m none 0 0 none 0 0) j:=fun j f=>by
 unfold Fx.bC mY;by_cases a:j<6
 ·rw[b_ (by omega),b_ (by omega),d_ (by omega),d_ a]; exact h1 _ (by omega)
 ·by_cases b:j<12
  ·rw[b_ (by omega),d_ (by omega),b_ a,d_ b]; exact d _ (by omega)
  ·by_cases c:j<18
   ·rw[d_ (by omega),b_ a,b_ b,d_ c]; rfl
   ·rw[b_ (by omega),b_ (by omega),b_ (by omega),b_ a,b_ b,b_ c,e j (by omega)];split <;> rfl
end Rt
structure StQ(w:World)(B:Nat)(m:dN)(s:DI)(l:List Int)(gl:List JH):Prop where
 inn:s.inn=m.inn
 left:s.left=m.left
 known:s.known=m.known
 nn:s.nn=l.length
 gn:s.gn=gl.length
 ls:l.Pairwise (· < ·) /\ ∀ k,k∈l<->m.T.has k=true
 len:l.length<=32
 gs:GrS m gl
 glb:gl.length<=m.gn
 n:Fx.Own w B 84 56 (.slice s.na s.nn s.nc) s.nn (Fx.flat 56 (VF m l))
 g:Fx.Own w B 106 5 (.slice s.ga s.gn s.gc) s.gn (Fx.flat 5 (Xa gl))
end Go.Proofs.YtcbedgfikejkoaaGreatDoor
namespace Go.Proofs.YtcbedgfikejkoaaGreatDoor
open Go.RowKit Rt
open Fx (bf Lv sN Ln Ws Wl Rp Wr Wk rV sR Rs Rn Rd Wb Wx Wo Dx Wt xO zf BH qz gQ zh tX vM wW ze zO rv aA aR bC aO aP flat Mp aT iB iM aZ kK bF cells_one iW bE unseen bK bP bW bX gP iq pK)
theorem Pb(n:Int)(w:World) :
 Calls Tryz.prog 88 #[au n] w fun e a=>e = .returned (.bool false)/\a=w:=by
 refine Kent Tryz.func88 6 ?_;refine ay<|av aF<|aD<|ay<|av (au n)<|av (au n)<|Lv aF (jJ rfl)<|av aF<|aD<|Wr<|aJ aF ?_;exact⟨rfl,rfl⟩
theorem YX(a b:Int)(w:World) :
 Calls Tryz.prog 50 #[au a,au b] w fun e f=>e = .returned (au (kK a b))/\f=w:=by
 refine Kent Tryz.func50 20 ?_;refine ay<|av (au 0)<|aD<|ay<|av (au a)<|kQ (Pb a _) _ rfl<|av aF<|aD<|ay<|av (au b)<|kQ (Pb b _) _ rfl<|av aF<|aD<|Ws<|ay<|av aF<|aD<|aK<|Wk<|sN<|Ws<|ay<|av aF<|aD<|aK<|Wk<|sN<|Ws<|ay<|av (au a)<|av (au b) ?_;by_cases c:a<b
 ·refine Lv aG (gJ c)<|aD<|aM<|ay<|av (au (-1))<|aD<|Wr<|sR<|aJ (au (-1)) ?_;exact⟨by unfold kK; simp[c],rfl⟩
 refine Lv aF (gK c)<|aD<|aK<|Wk<|sN<|Ws<|ay<|av (au a)<|av (au b) ?_;by_cases d:b<a
 ·refine Lv aG (mG d)<|aD<|aM<|ay<|av (au 1)<|aD<|Wr<|sR<|aJ (au 1) ?_;exact⟨by unfold kK; simp[c,d],rfl⟩
 refine Lv aF (mH d)<|aD<|aK<|Wk<|sN<|ay<|av (au 0)<|aD<|Wr<|aJ (au 0) ?_;exact⟨by unfold kK; simp[c,d],rfl⟩
theorem Pf(n:Int)(w:World) :
 Calls Tryz.prog 89 #[aC n] w fun e a=>e = .returned (.bool false)/\a=w:=by
 refine Kent Tryz.func89 6 ?_;refine ay<|av aF<|aD<|ay<|av (aC n)<|av (aC n)<|Lv aF (jJ rfl)<|av aF<|aD<|Wr<|aJ aF ?_;exact⟨rfl,rfl⟩
theorem YZ(a b:Int)(w:World) :
 Calls Tryz.prog 51 #[aC a,aC b] w fun e f=>e = .returned (au (kK a b))/\f=w:=by
 refine Kent Tryz.func51 20 ?_;refine ay<|av (au 0)<|aD<|ay<|av (aC a)<|kQ (Pf a _) _ rfl<|av aF<|aD<|ay<|av (aC b)<|kQ (Pf b _) _ rfl<|av aF<|aD<|Ws<|ay<|av aF<|aD<|aK<|Wk<|sN<|Ws<|ay<|av aF<|aD<|aK<|Wk<|sN<|Ws<|ay<|av (aC a)<|av (aC b) ?_;by_cases c:a<b
 ·refine Lv aG (gJ c)<|aD<|aM<|ay<|av (au (-1))<|aD<|Wr<|sR<|aJ (au (-1)) ?_;exact⟨by unfold kK; simp[c],rfl⟩
 refine Lv aF (gK c)<|aD<|aK<|Wk<|sN<|Ws<|ay<|av (aC a)<|av (aC b) ?_;by_cases d:b<a
 ·refine Lv aG (mG d)<|aD<|aM<|ay<|av (au 1)<|aD<|Wr<|sR<|aJ (au 1) ?_;exact⟨by unfold kK; simp[c,d],rfl⟩
 refine Lv aF (mH d)<|aD<|aK<|Wk<|sN<|ay<|av (au 0)<|aD<|Wr<|aJ (au 0) ?_;exact⟨by unfold kK; simp[c,d],rfl⟩
theorem apM(a b:Int)(c:Nat)(w:World)(q:iM w c 0 2 (orW a b)) :
 Calls Tryz.prog 49 #[bL c 2 2] w fun e s=>e = .returned (au (Ri a b))/\s=w:=by
 refine Kent Tryz.func49 18 ?_;refine ay<|av (au 0)<|aD<|ay<|av (au 0)<|aD<|Ws<|ay<|av (bL c 2 2)<|av (au 2)<|av (au 0)<|aD<|Wb<|Wo (fun f p => ∃ i:Nat,i<=2/\(i=0\/a=0)/\(i<2\/Ri a b=0)/\p=w/\f 3=au 0/\f 6=bL c 2 2/\f 7=au 2/\f 8=au (i:Int)/\iM p c 0 2 (orW a b)) (fun f _=>(2-intOf (f 8)).toNat) ⟨0,(by omega),(.inl rfl),(.inl (by decide)),rfl,Fx.ic,(by rfl),Fx.ic,Fx.ic,q⟩ ?_;rintro t v ⟨i,u,m,r,l,j,n,k,g,o⟩;refine ay ?_;by_cases h:(i:Int)<2
 ·refine Lv aG (gJ h (hx:=g) (hy:=k))<|aD<|Ws<|aM<|Wk<|sN<|Ws<|Wb<|ay<|Lv (pf c i) (cO 1 (hx:=n) (hi:=g))<|Lv (au (NG a b i)) (aL o i)<|av (au (NG a b i))<|aD<|ay<|av (au (NG a b i))<|aX j ?_;by_cases d:(NG a b i)=0
  ·refine Lv aF (jJ d)<|aD<|aK<|Wk<|bP<|sN<|Wl<|Lv (au ((i:Int)+1)) (fF (hx:=g))<|av (au ((i:Int)+1))<|Ln<|iq ⟨i+1,(by omega),(apI m d),(apJ m d),l,(j.trans Fx.ic),n,(k.trans Fx.ic),Fx.ic,o⟩ ?_;show(2-intOf (au ((i:Int)+1))).toNat<_;simp only[g,intOf]; omega
  refine Lv aG (nC d)<|aD<|aM<|ay<|av (au (NG a b i))<|av (au (NG a b i))<|aD<|Wr<|bK<|sR<|pK<|bK<|sR<|aJ (au (NG a b i)) ?_;exact⟨by rw[apK m d],l⟩
 refine Lv aF (gK h (hx:=g) (hy:=k))<|aD<|Ws<|aK<|Wx<|bW<|gP<|bX<|sN<|ay<|aX j<|av (au 0)<|aD<|Wr<|aJ (au 0) ?_;exact⟨by rw[apL r h],l⟩
theorem Rt.aeb{w:World}{g:Nat}{a b:Int}{z:Nat->Value}{T:TypeId}(h:aR w g 2 (bC (bC z (0*1) 1 (fun _=>au a)) (1*1) 1 (fun _=>au b)) T):iM w g 0 2 (orW a b):=(h.congr (y:=orW a b) fun j c=>by
 rcases(show j=0\/j=1 by omega)with rfl|rfl <;> rfl).aH
theorem aec(x y:JH)(w:World) :
 Calls Tryz.prog 48 #[.agg (aA 5 (ji x.x)),.agg (aA 5 (ji y.x))] w fun e H=>e = .returned (au (kK (LD x) (LD y))) /\ ∃ q C,H=Go.Sort.grow (w.drewN q) C:=by
 refine Kent Tryz.func48 17 ?_;refine ay<|Fx.L.ahG (m:=5) (y:=ji x.x) (by rfl) rfl rfl (bF _ _) rfl fun k V t d D I => ?_;have f:=bB D.old (Below.refl w.heap.size w);have M:=gH t;have S:=d.lt;refine Fx.L.ahG (m:=5) (y:=ji y.x) (by rfl) rfl rfl (bF _ _) rfl fun l X g n E J => ?_;have⟨B,p⟩:=eO E.old d f;have N:=iI g f.size;have P:=bY g d.lt;have T:=n.lt;refine av (au 0)<|aD<|Ws ?_;refine Fx.W.adY [0,2,5,7,1,3,6,8,4,9,10,11,12] [0,4,0,4,2,0,1,0,1,2,2,3,0] Fx.Mk tX Fx.Mk.trans (fP := [(4,1,[1]),(9,1,[4,1]),(10,1,[4,1]),(11,1,[10,4,1]),(4,3,[3]),(9,3,[4,3]),(10,3,[4,3]),(11,3,[10,4,3]),(11,6,[9,6]),(11,8,[9,8]),(9,4,[4]),(10,4,[4]),(11,4,[10,4]),(12,4,[4]),(10,9,[9]),(11,9,[9]),(12,9,[9]),(11,10,[10]),(12,10,[10]),(12,11,[11])]) (by kernel_rfl) (by kernel_rfl) (by kernel_rfl) (by kernel_rfl) (by kernel_rfl) fun Z z A => ?_;have⟨a,b,r⟩:=iy z B n p;refine aY (pt k)<|aY (pt l)<|aY (pf k 1)<|aY (pf l 1)<|Rs (au (x.x 0)) (aL a.aH 0) ?_;refine Rs (au (y.x 0)) (aL b.aH 0) ?_;refine Rd (v:=aC (x.x 1)) (by rfl) (by rfl) (tX _) (fun G c=>bf (x:=ji x.x) rfl rfl (by kernel_rfl) (a.aH.below c (by have:=a.lt; omega)) (i:=1) (by omega) (by omega) rfl) ?_;refine Rd (v:=aC (y.x 1)) (by rfl) (by rfl) (tX _) (fun G c=>bf (x:=ji y.x) rfl rfl (by kernel_rfl) (b.aH.below c (by have:=b.lt; omega)) (i:=1) (by omega) (by omega) rfl) ?_;refine zi (kQ (YX (x.x 0) (y.x 0) _) _ rfl (Ln ⟨Below.refl _ _,?_⟩));refine zi (kQ (YZ (x.x 1) (y.x 1) _) _ rfl (Ln ⟨Below.refl _ _,?_⟩));refine zi<|Fx.L.YR (vs := [(0,au (kK (x.x 0) (y.x 0))),(1,au (kK (x.x 1) (y.x 1)))]) (s:=1) (zc:=rv .i64 (fun _=>0)) (y:=bC (bC (fun j=>(rv .i64 (fun _=>0)) (j % 1)) (0*1) 1 (fun _=>au (kK (x.x 0) (y.x 0)))) (1*1) 1 (fun _=>au (kK (x.x 1) (y.x 1)))) (by rfl) rfl rfl Tryz.underlying90 (by kernel_rfl) (by rfl) (by rfl) (by kernel_rfl) (by rw[aZ (off:=0*1) (s:=1) (y:=fun _=>au (kK (x.x 0) (y.x 0))) rfl (cells_one (by rfl)) (by rfl)]; rw[aZ (off:=1*1) (s:=1) (y:=fun _=>au (kK (x.x 1) (y.x 1))) rfl (cells_one (by rfl)) (by rfl)]; rfl) rfl fun u Y h o F K => ?_;have O:=iI h r.size;have⟨Q,R⟩:=uw h a.lt b.lt;have U:=o.lt;refine Ln ⟨F.old,?_⟩;refine gW<|kQ (apM (kK (x.x 0) (y.x 0)) (kK (x.x 1) (y.x 1)) u _ (aeb o)) _ rfl<|Ln<|aY (au (Ri (kK (x.x 0) (y.x 0)) (kK (x.x 1) (y.x 1))))<|bQ<|Wr<|aJ (au (Ri (kK (x.x 0) (y.x 0)) (kK (x.x 1) (y.x 1)))) ?_;exact⟨by rw[<- adZ],(((((Fx.YQ.refl w).alloc I).alloc J).drew A).alloc K)⟩
theorem aed{w:World}{B cap:Nat}{a:Option Addr}{l:List JH}(h:Fx.Own w B 106 5 (.slice a l.length cap) l.length (flat 5 (Xa l)))(i:l.length<=1000000) :
 Calls Tryz.prog 47 #[.slice a l.length cap,.func (.func 48) #[] #[]] w fun e b=>e = .returned (.tuple #[]) /\ ∃ c:List JH,c.Perm l/\c.Pairwise (fun x y=>LD x<=LD y)/\Fx.Own b B 106 5 (.slice a l.length cap) l.length (flat 5 (Xa c))/\(∀ k,k<w.heap.size->(Value.slice a l.length cap).ownBlock≠some k->b.heap[k]? = w.heap[k]?)/\iW [106] w b/\Below B w b:=by
 have f:Fx.Own w B 106 5 (.slice a l.length cap) l.length (flat 5 fun q=>(fun x:JH=>ji x.x) (l.getD q g0)):=h
 have:=Fx.VE ahF (fun d w=>enters_of Tryz.func48 (by kernel_rfl) rfl d w) (by decide) Tryz.isAgg106 Tryz.sizeOf106 (enc:=fun x:JH=>ji x.x) (e0:=g0) (ky:=LD) (fun x j _=>uo x.x j) f
  (by intro g x y; refine(aec x y g).mono fun e b h => ?_; exact h) (by omega)
 exact this
theorem Y0{m:dN}{d:List Nat}{S:Nat->Bool}{p w:World}{b B cap c:Nat}{a:Option Addr}(n:iB p b m.gn (fun i=>m.g i 0) (fun i=>m.g i 1) (uI m.g))(hi:QS m.gn S d)(e:c=d.length)(o:Fx.Own w B 106 5 (.slice a c cap) c (flat 5 fun k=>ji (m.g (d.getD k 0))))(q:c<=1000000) :
 Calls Tryz.prog 47 #[.slice a c cap,.func (.func 48) #[] #[]] w fun e f=>e = .returned (.tuple #[]) /\ ∃ h:List JH,h.Perm (d.map fun i=>JZ (m.g i))/\h.Pairwise (fun x y=>LD x<=LD y)/\Fx.Own f B 106 5 (.slice a c cap) c (flat 5 (Xa h))/\(∀ k,k<w.heap.size->(Value.slice a c cap).ownBlock≠some k->f.heap[k]? = w.heap[k]?)/\iW [106] w f/\Below B w f:=by
 have j:(d.map fun i=>JZ (m.g i)).length=c:=by rw[List.length_map]; exact e.symm
 have l:=aed (aea n hi e o) (by rw[j]; omega);rw[j]at l;exact l
set_option maxHeartbeats 1000000 in
theorem Y1(m:dN)(u B:Nat)(w:World)(h:lN w B u m)(hgn:m.gn<=900000) :
 Calls Tryz.prog 18 #[(pt u)] w fun e w' => ∃ s l gl,e = .returned (.agg (aA 20 (mY s)))/\StQ w' w.heap.size m s l gl/\Below w.heap.size w w':=by
 have hC:=h.c;have hT:=h.t;have hP:=h.p;have hR:=h.r;have hG:=h.g;have hA:=h.a;have hN:=h.ne;have lC:=h.c.lt;have lT:=h.t.lt;have lP:=h.p.lt;have lR:=h.r.lt;have lG:=h.g.lt;have lA:=h.a.lt;refine Kent Tryz.func18 72 ?_;refine ay<|BH (m:=20) (y:=fun d=>if d<12 then .bool false else if d<18 then aC 0 else .slice none 0 0) (by rfl) rfl (by kernel_rfl) rfl fun D w1 lY m1 s1 z1 => ?_;have⟨m2,m3,m4,m5,m6,m7,b1⟩:=jK s1.old hC hT hP hR hG hA (Below.refl w.heap.size w);have su:=gH lY;have⟨mJ,yw,xw,Bp,zI⟩:=zQ lY hC.lt hP.lt hR.lt hG.lt hA.lt;have ug:=m1.lt;refine aD<|Ws<|ay<|av (pt u)<|Lv aF (Fx.mU rfl rfl rfl (by kernel_rfl))<|aD<|aK<|Wk<|sN<|Ws ?_;refine Wt 13 (by kernel_rfl) (by kernel_rfl) fun qE dP iC => ?_;have⟨m8,m9,m10,m11,m12,m13,m14,b2⟩:=nD dP m2 m3 m4 m5 m6 m7 m1 b1;refine EC (pt u)<|EC (pt u)<|EC (pt u)<|qz (.agg (aA 6 (fun j => .bool (m.inn j)))) (fC m8.aH 0 (fun j J=>by rw[G_]; exact Cr J))<|EC (pt u)<|EC (pt u)<|EC (pf u 6)<|qz (.agg (aA 6 (fun j => .bool (m.left j)))) (fC m8.aH 6 (fun j J=>Bn (p:=j) J (by omega)))<|EC (pt u)<|EC (pt u)<|EC (pf u 12)<|qz (.agg (aA 6 (rv .u64 m.known))) (fC m8.aH 12 (fun j J=>rT (p:=j) (by omega) (by omega)))<|EC (.agg (aA 20 (bC (bC (bC (fun d=>if d<12 then .bool false else if d<18 then aC 0 else .slice none 0 0) 0 6 (fun j => .bool (m.inn j))) 6 6 (fun j => .bool (m.left j))) 12 6 (rv .u64 m.known))))<|Fx.St.nil ?_;refine eB m14 0 (h1:=(bE (bE (bE (fun jq _=>by show((fun d=>if d<12 then .bool false else if d<18 then aC 0 else .slice none 0 0:Nat->Value) jq).oneCell'=true; simp only[]; repeat (first|rfl|split)) (fun _ _=>rfl)) (fun _ _=>rfl)) (fun _ _=>rfl))) fun V m15 s3 z2 => ?_
 have m16:aR V D 20 (bC (bC (bC (fun d=>if d<12 then .bool false else if d<18 then aC 0 else .slice none 0 0) 0 6 (fun j => .bool (m.inn j))) 6 6 (fun j => .bool (m.left j))) 12 6 (rv .u64 m.known)) 50:=aP m15;have m17:aR V D 20 (mY (VG m none 0 0 none 0 0)) 50:=m16.congr (VH m (fun j J=>by show(if j<12 then _ else if j<18 then _ else _)=_; rw[b_ (by omega),b_ (by omega)]) (fun _ _=>rfl) (fun _ _=>rfl));have gY:=gQ s3 m14.ty;have⟨m18,m19,m20,m21,m22,m23⟩:=RQ gY m8 m9 m10 m11 m12 m13;have b3:=s3.below b2 b2.size (by omega);refine aD<|Ws<|ay<|av (pt u)<|av (pt u)<|av (pf u 18)<|Lv (pt m.tp) (aL m18.aH 18)<|kV (Tp m19) ?_;rintro e9 w3 ⟨la1,N,b,he,m24,hq1,ahs,hb1⟩;refine⟨_,he,?_⟩;clear he;have⟨mV,nO,ow,oD,nU,oz,lZ,b4⟩:=nD hb1 m18 m19 m20 m21 m22 m23 m17 b3;refine av (au b.length)<|av (au 0)<|aD<|Wb ?_;have m32:Fx.Own w3 w.heap.size 84 56 (.slice none 0 0) 0 (flat 56 (VF m b)):=wW _ _ _ _ _;have kll:=ahs;refine Wo (fun f A => ∃ i:Nat,∃ E:Option Addr,∃ F:Nat,i<=b.length/\f 0=(pt u)/\f 2=(pt D)/\f 27 = .slice la1 (b.length) (N)/\f 28=au (b.length:Int)/\f 29=au (i:Int)/\aR A u 29 (vJ m) 114/\sH A B m.tp m.mb m.T/\Mp A m.pb m.T.n m.T.x (DN m.T)/\Mp A m.rb m.T.n m.T.x (wQ m.R)/\iB A m.gb m.gn (fun i=>m.g i 0) (fun i=>m.g i 1) (uI m.g)/\iB A m.ab m.an m.ao m.ar DR/\Fx.Own A V.heap.size 23 1 (.slice la1 (b.length) (N)) b.length (xI b)/\aR A D 20 (mY (VG m E i F none 0 0)) 50/\Fx.Own A w.heap.size 84 56 (.slice E (i) (F)) i (flat 56 (VF m b))/\Below w.heap.size w A) (fun f _=>((b.length:Int)-intOf (f 29)).toNat) ⟨0,none,0,(by omega),(by rfl),(by rfl),(by rfl),Fx.ic,Fx.ic,mV,nO,ow,oD,nU,oz,m24,lZ,m32,b4⟩ ?_;rintro f1 w4 ⟨i,E,F,hi,P,h2,h3,h4,Q,pR,nG,oF,nV,rQ,qG,qH,tN,mW,b5⟩;refine ay ?_;by_cases c30:(i:Int)<(b.length:Int)
 ·refine Lv aG (gJ c30 (hx:=Q) (hy:=h4))<|aD<|Ws<|aM<|Wk<|sN<|Ws<|Wb<|ay ?_;obtain⟨Gg,eq1⟩:=qH.addr (by omega);have mK:Fx.Own w4 V.heap.size 23 1 (bL Gg b.length N) b.length (xI b):=qH.fB (L_ (fun q=>Value.slice q b.length N) eq1);refine Lv (pf Gg i) (cO 1 (hx:=(h3.trans (L_ (fun q=>Value.slice q (b.length) (N)) eq1))) (hi:=Q))<|Lv (aC (b.getD i 0)) (aL mK.aH i)<|av (aC (b.getD i 0))<|aD ?_;obtain⟨I,hjz,aa⟩:=gX ((hq1.2 _).1 (uV (show i<b.length by omega) rfl));have ejx:DV m (b.getD i 0)=m.R I:=by unfold DV dN.idx; rw[mZ h.t.inv.inj hjz aa]
  have ejp:m.T.par (b.getD i 0)=m.T.p I:=AJ h.t.inv.inj hjz aa;refine zO [0,2,3,4,5,7,9,10,11,13,1,6,8,12,14,15,16,17,18,19] [0,1,0,0,0,0,4,0,4,0,0,0,4,0,4,0,2,2,0,3] (iW [84]) vM Fx.iW.trans (fP := [(19,1,[1]),(16,6,[15,8,6]),(17,6,[16,15,8,6]),(19,6,[6]),(16,8,[15,8]),(17,8,[16,15,8]),(19,8,[8]),(16,12,[15,14,12]),(17,12,[16,15,14,12]),(19,12,[12]),(16,14,[15,14]),(17,14,[16,15,14]),(19,14,[14]),(17,16,[16]),(18,16,[16]),(19,16,[16]),(18,17,[17]),(19,17,[17])]) (by kernel_rfl) (by kernel_rfl) (by kernel_rfl) (by kernel_rfl) (by kernel_rfl) fun CZ gL nT => ?_;have⟨mX,qI,qy,oG,rG,uW,tO,tJ,vN,b6⟩:=uS gL pR nG oF nV rQ qG tN mW mK b5;refine Rp (pf D 18) (fun _=>jA h2 18)<|aY (aC (b.getD i 0))<|bU P<|aY (pt u)<|aY (pf u 19)<|aY (aC (b.getD i 0))<|bU P<|aY (pt u)<|aY (pf u 20)<|aY (aC (b.getD i 0))<|Rd (v := .slice E (i) (F)) (by rfl) (by rfl) (vM _) (fun v1 hv1=>bf (x:=mY (VG m E i F none 0 0)) rfl rfl (by kernel_rfl) (tO.kL hv1 (by decide)).aH (i:=18) (by omega) (by omega) rfl) ?_;refine Rs (.map (some m.pb)) (aL mX.aH 19) ?_;refine Rs (aC (m.T.p I)) (Fx.vZ (z:=aC 0) rfl rfl rfl qy Tryz.underlying108 Tryz.underlying23 (by rfl) hjz aa rfl) ?_;refine Rs (.map (some m.rb)) (aL mX.aH 20) ?_;refine Rs (.agg (aA 54 (rv .i64 (m.R I)))) (Fx.vZ (z := .agg (aA 54 (rv .i64 (fun _=>0)))) rfl rfl rfl oG Tryz.underlying109 Tryz.underlying23 (by kernel_rfl) hjz aa rfl) ?_;refine aY (.agg (aA 56 (bC (bC (bC (fun d=>if d<2 then aC 0 else au 0) 0 1 (fun _=>aC (b.getD i 0))) 1 1 (fun _=>aC (m.T.p I))) 2 54 (rv .i64 (m.R I)))))<|zi<|xO (vs := [(0,.agg (aA 56 (bC (bC (bC (fun d=>if d<2 then aC 0 else au 0) 0 1 (fun _=>aC (b.getD i 0))) 1 1 (fun _=>aC (m.T.p I))) 2 54 (rv .i64 (m.R I)))))]) (s:=56) (zc:=fun d=>if d<2 then aC 0 else au 0) (y:=bC (fun j=>(fun d=>if d<2 then aC 0 else au 0) (j % 56)) (0*56) 56 (bC (bC (bC (fun d=>if d<2 then aC 0 else au 0) 0 1 (fun _=>aC (b.getD i 0))) 1 1 (fun _=>aC (m.T.p I))) 2 54 (rv .i64 (m.R I)))) (by rfl) rfl rfl Tryz.underlying47 (by kernel_rfl) (by rfl) (by rfl) (by kernel_rfl) (by rw[aZ (off:=0*56) (s:=56) (y:=bC (bC (bC (fun d=>if d<2 then aC 0 else au 0) 0 1 (fun _=>aC (b.getD i 0))) 1 1 (fun _=>aC (m.T.p I))) 2 54 (rv .i64 (m.R I))) rfl (bF _ _) (by rfl)]; rfl) rfl fun g2 w5 Y uN s6 z3 => ?_;have⟨uj,uX,xC,sw,sD,tK,xD,qJ,uz,b7⟩:=uS s6.old mX qI qy oG rG uW tO tJ vN b6;have qK:=iI Y b6.size;have⟨apN,acI,acJ,apO,apP,acK⟩:=I6 Y mX.lt qy.lt oG.lt rG.lt uW.lt tO.lt;have apQ:(.slice E (i) (F):Value).ownBlock≠some g2:=by rw[Y]; exact tJ.kg (A_ _)
  have apR:=bY Y vN.lt;have yK:=uN.lt;refine Ln ⟨Fx.iW.of_below s6.old,?_⟩;refine zi<|zf (B:=w.heap.size) (s:=56) (bytes:=448) (k:=i) (m:=1) (v := .slice E (i) (F)) (x:=flat 56 (VF m b)) (by rfl) rfl rfl rfl Tryz.underlying47 (by kernel_rfl) (by kernel_rfl) rfl rfl qJ uN.aH YV (by omega) (by omega) (by omega) b7.size fun g3 W w6 ho1 hg1 wu hlt1 => ?_;have jQ:=zh hg1 qJ;have⟨tL,m64,xE,xg,vO,wz,sF,uO⟩:=abb jQ uj uX xC sw sD tK xD uz;have nW:Fx.Own w6 w.heap.size 84 56 (bL g3 (i+1) W) (i+1) (flat 56 (VF m b)):=(ho1.congr (fun j J=>YS rfl ejp ejx j J));have b8:Below w.heap.size w w6:=ze b7 hg1 b7.size (fun q hq=>(qJ.ge hq).1);refine Ln ⟨jQ,?_⟩;refine Rp (pf D 18) (fun _=>jA h2 18)<|gW<|jd sF 18 (bL g3 (i+1) W) fun w7 uY s7 z4 => ?_;have vP:aR w7 D 20 (mY (VG m (some ⟨g3,0,none⟩) (i+1) W none 0 0)) 50:=uY.to (QT _ _ _ _);have qF:=gQ s7 sF.ty;have⟨vQ,zG,xk,zm,zn,yJ,xq,wB⟩:=abb qF tL m64 xE xg vO wz uO nW;have b9:=s7.below b8 b8.size (by omega);refine Ln<|Rn<|bP<|sN<|Wl<|Lv (au ((i:Int)+1)) (fF (hx:=Q))<|av (au ((i:Int)+1))<|Ln ?_;have wC:Fx.Own w7 V.heap.size 23 1 (.slice la1 (b.length) (N)) b.length (xI b):=xq.fB (L_ (fun q=>Value.slice q b.length N) eq1.symm)
  skip
  refine iq ⟨i+1,(some ⟨g3,0,none⟩),W,(by omega),P,h2,h3,(h4.trans Fx.ic),Fx.ic,vQ,zG,xk,zm,zn,yJ,wC,vP,wB,b9⟩ ?_;show((b.length:Int)-intOf (au ((i:Int)+1))).toNat<_;simp only[Q,intOf]; omega
 refine Lv aF (gK c30 (hx:=Q) (hy:=h4))<|aD<|Ws<|aK<|Wx<|bW<|gP<|bX<|sN<|Ws<|ay<|aX P<|av (pt u)<|av (pf u 27)<|Lv (.map (some m.gb)) (aL pR.aH 27)<|Fx.L.abg (by rfl) rfl rfl rfl rQ Tryz.underlying111 fun g4 w8 JU xW s8 z5 => ?_;have⟨Av,AV,EN,b10⟩:=jP s8.old rQ tN mW b5;have Qw:=iI JU b5.size;have OI:=xW.lt;refine aD<|Wb ?_;have DJ:Fx.Own w8 w.heap.size 106 5 (.slice none 0 0) 0 (flat 5 (fun k=>ji (m.g (([]:List Nat).getD k 0)))):=wW _ _ _ _ _;refine Dx (fun kE f A => ∃ S:Nat->Bool,∃ kk:Nat,∃ K:List Nat,∃ o:Nat,∃ G:Option Addr,∃ H:Nat,kk=unseen S m.gn/\kk=kE/\QS m.gn S K/\o=K.length/\f 2=(pt D)/\f 57=(pt g4)/\iB A m.gb m.gn (fun i=>m.g i 0) (fun i=>m.g i 1) (uI m.g)/\Fx.Own A w.heap.size 84 56 (.slice E (i) (F)) i (flat 56 (VF m b))/\aR A D 20 (mY (VG m E i F G o H)) 50/\Fx.Own A w.heap.size 106 5 (.slice G (o) (H)) o (flat 5 (fun k=>ji (m.g (K.getD k 0))))/\Fx.It A g4 m.gb m.gn S/\Below w.heap.size w A) (unseen (fun _=>false) m.gn) ⟨(fun _=>false),(unseen (fun _=>false) m.gn),[],0,none,0,rfl,rfl,(QS.start _),rfl,h2,(by rfl),Av,EN,AV,DJ,xW,b10⟩ ?_;rintro kE f2 w9 ⟨S,kk,K,o,G,H,hkk,hkE,U,hgl,M,h7,Cb,C9,zZ,Gd,Ec,b11⟩;refine ay<|Fx.L.afC (by rfl) rfl rfl h7 Cb Ec (fun sG => ?_)<|fun C tH hi1 hS1 Gf mc1 s9 z6 => ?_
 ·skip
  refine av aF<|aD<|Ws<|aK<|Wx<|bW<|gP<|bX<|sN<|Ws ?_;have eL:(K.map fun i=>JZ (m.g i)).length=o:=by rw[List.length_map]; exact hgl.symm
  have apS:=U.len;refine Wl<|Lv (pf D 19) (jA M 19)<|Lv (.slice G (o) (H)) (aL zZ.aH 19)<|dK (Y0 h.g U hgl Gd (by omega)) _ rfl ?_;rintro Gc ⟨gl,hpm,hup,Gr,_,zS,hb2⟩;have b12:=b11.trans hb2;have⟨wK,xZ⟩:=BM zS C9 zZ;have asS:=xZ.lt;refine aD<|ay<|Lv (.agg (aA 20 (mY (VG m E i F G o H)))) (fC xZ.aH 0 (ha:=M))<|eB xZ 0 (ha:=M) (h1:=(fun j _=>XQ _ j)) fun BF wM s10 z7 => ?_;have uD:aR BF D 20 (mY (VG m E i F G o H)) 50:=aP wM;have zk:=gQ s10 xZ.ty;have⟨pG,qM⟩:=BM zk wK Gr;have b13:=s10.below b12 b12.size (by omega);refine aD (Wr (⟨.agg (aA 20 (mY (VG m E i F G o H))),rV Tryz.results18 ⟨_,M,aT uD.aH (by kernel_rfl) (by kernel_rfl)⟩,?_⟩));have eil:i=b.length:=by omega
  have egl:o=gl.length:=by rw[hpm.length_eq,eL]
  exact⟨VG m E i F G o H,b,gl,rfl,{ inn:=rfl,left:=rfl,known:=rfl,nn:=eil,gn:=egl,ls:=hq1,len:=kll,gs:=GrS.of h.g U sG hpm hup,glb:=by omega,n:=pG,g:=qM },b13⟩
 skip
 have hcm1:=Ec.BN s9;have qc:=Cb.dY hcm1 (Ec.rb.symm);have rJ:=C9.dY hcm1;have sQ:=zZ.dY hcm1;have vB:=Gd.dY hcm1;have b14:=s9.below b11 b11.size (by omega);refine av aG<|aD<|Ws<|aM<|Wk<|sN<|Wb<|ay<|Lv (.tuple #[Fx.kS (m.g C 0) (m.g C 1),.agg (aA 5 (ji (m.g C)))]) (Fx.R3 (k1:=fun i=>m.g i 0) (k2:=fun i=>m.g i 1) (val:=uI m.g) (i:=C) rfl h7 qc mc1 hi1)<|av (.agg (aA 5 (ji (m.g C))))<|rD 5 (fun d=>if d<1 then au 0 else if d<3 then aC 0 else if d<4 then au 0 else aC 0) fun g5 Gq eg5 rM s11 z8 => ?_;have⟨uE,zq,vE,zu,xG,b15⟩:=qD s11.old qc rJ sQ vB Gf b14;have lg5:=iI eg5 b14.size;have⟨ajU,ajV⟩:=uw eg5 qc.lt sQ.lt;have Pg:(.slice G (o) (H):Value).ownBlock≠some g5:=by rw[eg5]; exact vB.kg (A_ _)
 have tg5:=rM.lt;refine eB rM 0 (h1:=(fun j _=>uo _ j)) fun Mr uF s12 z9 => ?_;have qN:aR Mr g5 5 (ji (m.g C)) 106:=aP uF;have zl:=gQ s12 rM.ty;have⟨yc,yg,uG⟩:=AB zl uE zq vE;have Ce:=zu.cB s12 Pg;have E5:=kR zl xG;have b16:=s12.below b15 b15.size (by omega);refine aD ?_;have apS:=U.len;have hgn1:o<=m.gn:=by omega
 refine Wl<|Lv (pf D 19) (jA M 19)<|Lv (.slice G (o) (H)) (aL uG.aH 19)<|Lv (.agg (aA 5 (ji (m.g C)))) (fC qN.aH 0)<|xO (vs := [(0,.agg (aA 5 (ji (m.g C))))]) (s:=5) (zc:=fun d=>if d<1 then au 0 else if d<3 then aC 0 else if d<4 then au 0 else aC 0) (y:=bC (fun j=>(fun d=>if d<1 then au 0 else if d<3 then aC 0 else if d<4 then au 0 else aC 0) (j % 5)) (0*5) 5 (ji (m.g C))) (by rfl) rfl rfl Tryz.underlying48 (by kernel_rfl) (by rfl) (by rfl) (by kernel_rfl) (by rw[aZ (off:=0*5) (s:=5) (y:=ji (m.g C)) rfl (bF _ _) (by rfl)]; rfl) rfl fun g6 Ms Z A9 s13 z10 => ?_;have⟨E8,Gs,Cg,Aa,Jq,KW,b17⟩:=jK s13.old yc yg uG Ce E5 qN b16;have lg6:=iI Z b16.size;have⟨ajW,ajX⟩:=uw Z yc.lt uG.lt;have ajY:(.slice G (o) (H):Value).ownBlock≠some g6:=by rw[Z]; exact Ce.kg (A_ _)
 have ajZ:=bY Z qN.lt;have tg6:=A9.lt;refine zf (B:=w.heap.size) (s:=5) (bytes:=40) (k:=o) (m:=1) (v := .slice G (o) (H)) (x:=flat 5 (fun k=>ji (m.g (K.getD k 0)))) (by rfl) rfl rfl rfl Tryz.underlying48 (by kernel_rfl) (by kernel_rfl) rfl rfl Aa A9.aH YW (by omega) (by omega) (by omega) b17.size fun O X w16 ho2 hg2 M4 hlt2 => ?_;have A8:=zh hg2 Aa;have⟨Fa,Gt,Gu,Ch⟩:=Kh A8 E8 Gs Cg Jq;have akb:g5≠O:=fun e=>M4.elim (fun e2=>Pg (by rw[e]; exact e2)) (fun e2=>by have:=KW.lt; omega);have E9:Fx.Own w16 w.heap.size 106 5 (bL O (o+1) X) (o+1) (flat 5 (fun k=>ji (m.g ((K ++ [C]).getD k 0)))):=(ho2.congr (fun j J=>by rw[hgl]at J ⊢; exact YT j J));have b18:Below w.heap.size w w16:=ze b17 hg2 b17.size (fun q hq=>(Aa.ge hq).1);refine Lv (pf D 19) (jA M 19)<|jd Gu 19 (bL O (o+1) X) fun WU Ci BD z11 => ?_;have Fu:aR WU D 20 (mY (VG m E i F (some ⟨O,0,none⟩) (o+1) X)) 50:=Ci.congr (NH _ _ _ _);have EY:=gQ BD Gu.ty;have⟨Fe,Ac,Cj,Jk⟩:=Kh EY Fa Gt Ch E9;have b19:=BD.below b18 b18.size (by omega);refine Ln<|bP ?_
 skip
 refine iq ⟨unseen (aO S C true) m.gn,(by have P:=Fx.oU hS1 m.gn hi1; omega),(aO S C true),(unseen (aO S C true) m.gn),(K ++ [C]),o+1,(some ⟨O,0,none⟩),X,rfl,rfl,(U.step hi1 hS1),(by rw[E_,<- hgl]; rfl),M,h7,Fe,Ac,Fu,Jk,Cj,b19⟩ (by decide)
end Go.Proofs.YtcbedgfikejkoaaGreatDoor
namespace Go.Proofs.YtcbedgfikejkoaaGreatDoor
open Go.RowKit Go
namespace Rt
section
variable {f:(Nat->Int)->(Nat->Int) × Int} {idx:Nat->Nat} {R:Nat->Nat->Int} {r r':Nat->Nat->Int} {n K k:Nat}
theorem Dm : ∀ {n:Nat},(∀ i,i<n->r i=r' i)->jM f r n=jM f r' n
 | 0,_=>rfl
 | n+1,h=>by unfold jM; rw[Dm (n:=n) fun i a=>h i (by omega),h n (by omega)]
theorem FT : ∀ {K:Nat},(∀ i j,i<K->j<K->idx i=idx j->i=j)->(cZ f idx R K).2=jM f (fun i=>R (idx i)) K/\((cZ f idx R K).2=0 -> ∀ k,(cZ f idx R K).1 k=R k/\(∀ i,i<K->idx i≠k)\/(cZ f idx R K).1 k=(f (R k)).1 /\ ∃ i,i<K/\idx i=k)
 | 0,_=>⟨rfl,fun _ k => .inl ⟨rfl,fun _ h=>M_ h (z_ _)⟩⟩
 | K+1,hi=>by
   obtain⟨q,r⟩:=FT (K:=K) fun i j a b=>hi i j (by omega) (by omega);unfold jM;rw[<- q];by_cases c:(cZ f idx R K).2=0
   ·have n:=r c;have p:(cZ f idx R K).1 (idx K)=R (idx K):=by
     rcases n (idx K)with h|⟨_,i,d,g⟩
     ·exact h.1
     ·have:=hi i K (by omega) (by omega) g; omega
    rw[d_ c];have e:cZ f idx R (K+1)=(if(f ((cZ f idx R K).1 (idx K))).2=0 then(aI (cZ f idx R K).1 (idx K) (f ((cZ f idx R K).1 (idx K))).1,0)else((cZ f idx R K).1,(f ((cZ f idx R K).1 (idx K))).2)):=(by show(if _ then _ else _)=_; rw[d_ c]);rw[e,p];by_cases l:(f (R (idx K))).2=0
    ·rw[d_ l];refine⟨l.symm,fun _ k => ?_⟩;show aI (cZ f idx R K).1 (idx K) _ k=R k/\_\/aI (cZ f idx R K).1 (idx K) _ k=(f (R k)).1/\_;unfold aI;by_cases e:k=idx K
     ·subst e; rw[d_ rfl]; exact .inr ⟨rfl,K,by omega,rfl⟩
     ·rw[b_ e]
      rcases n k with ⟨d,g⟩|⟨d,i,g,h5⟩
      ·refine .inl ⟨d,fun i s m => ?_⟩;by_cases o:i=K
       ·subst o; exact e m.symm
       ·exact g i (by omega) m
      ·exact .inr ⟨d,i,by omega,h5⟩
    ·rw[b_ l]; exact⟨rfl,fun h=>M_ h l⟩
   ·rw[b_ c];have e:cZ f idx R (K+1)=cZ f idx R K:=(by show(if _ then _ else _)=_; rw[b_ c]);rw[e];exact⟨rfl,fun h=>M_ h c⟩
end
structure CG(T:dM)(L:fA):Prop where
 has : ∀ k,T.has k=true <-> ∃ i,i<L.nn/\L.id i=k
 n:T.n=L.nn
 par : ∀ i,i<L.nn->T.par (L.id i)=L.par i
section
variable {T:dM} {L:fA} {N:Nat} {x:Int}
theorem CG.find(h:CG T L)(b:Inv0 L N)(x:Int):T.has x=true<->0<=bD L.t L.tn x:=by
 rw[h.has,iK,b.Cn];constructor
 ·rintro ⟨i,a,e⟩; exact⟨i,a,by rw[(b.tid i a).1]; exact e⟩
 rintro ⟨i,a,e⟩; exact⟨i,a,by rw[<- (b.tid i a).1]; exact e⟩
theorem CG.findF(h:CG T L)(a:Inv0 L N)(x:Int):T.has x=false<->bD L.t L.tn x<0:=by
 have:=h.find a x
 cases e:T.has x with
 | false=>rw[e]at this; exact⟨fun _=>by rcases ilt (bD L.t L.tn x)with h1|h1; exact h1; exact M_ (this.2 h1) (by decide),fun _=>rfl⟩
 | true=>rw[e]at this; have:=this.1 rfl; exact⟨fun h=>(nomatch h),fun h=>by omega⟩
theorem Inv0.at(c:Inv0 L N){i:Nat}(hi:i<L.nn):L.node (L.id i)=(i:Int):=by
 rw[c.node,<- (c.tid i hi).1];exact vH (fun a b d f e=>c.agX a b d f e) (by rw[c.Cn]; exact hi)
theorem CG.next(h:CG T L)(a:Inv0 L N)(hx:T.has x=true):T.par x=L.t (bD L.t L.tn x).toNat 1:=by
 obtain⟨i,b,rfl⟩:=(h.has x).1 hx;have e:=a.at b;rw[a.node]at e;rw[e,h.par i b];exact((a.tid i b).2).symm
theorem CG.path(h:CG T L)(f:T.ok)(a:Inv0 L N)(x:Int):(T.path x).length=dJ L.t L.tn x /\ ∀ q,q<(T.path x).length->(T.path x).getD q 0=aU L.t L.tn q x:=by
 have g : ∀ q,q<(T.path x).length->T.has ((T.path x).getD q 0)=true/\(q+1<(T.path x).length->(T.path x).getD (q+1) 0=T.par ((T.path x).getD q 0))/\(q+1=(T.path x).length->T.has (T.par ((T.path x).getD q 0))=false):=rU (f.stop x);have j : ∀ q,q<(T.path x).length->(T.path x).getD q 0=aU L.t L.tn q x:=by
  intro q
  induction q with
  | zero =>
    intro b
    cases hx:T.has x with
    | false=>rw[show T.path x = []from kW hx]at b; exact M_ b (z_ _)
    | true=>rw[dM.step f hx]; rfl
  | succ q ih =>
    intro b;have l:=ih (by omega);have c:=(g q (by show q<(T.path x).length; omega));have e:=c.2.1 b;show(T.path x).getD (q+1) 0=L.t (bD L.t L.tn (aU L.t L.tn q x)).toNat 1;rw[<- l,<- h.next a c.1]
    exact e
 refine⟨?_,j⟩;obtain⟨D,n,m⟩:=a.dep x;refine sS (D:=D) (fun i k => ?_) ?_ m (by omega)
 ·rw[<- j i k,<- h.find a]; exact(g i k).1
 by_cases d:(T.path x).length=0
 ·rw[d];show bD L.t L.tn x<0;rw[<- h.findF a]
  cases hx:T.has x with
  | false=>rfl
  | true=>rw[dM.step f hx]at d; simp at d
 obtain⟨q,b⟩ : ∃ q,(T.path x).length=q+1:=⟨(T.path x).length-1,by omega⟩;have c:=g q (by show q<(T.path x).length; omega);have e:=c.2.2 (by show q+1=(T.path x).length; omega);rw[b];show bD L.t L.tn (L.t (bD L.t L.tn (aU L.t L.tn q x)).toNat 1)<0;rw[<- j q (by omega),<- h.next a c.1,<- h.findF a]
 exact e
theorem Y2(d:Inv0 L N)(x:Int):bD L.t L.tn (aU L.t L.tn (dJ L.t L.tn x) x)<0:=by
 obtain⟨D,e,b⟩:=d.dep x;obtain⟨K,f,a,c⟩:=vI D b;rw[<- sS c a b (by omega)]; exact a
theorem CG.mem(h:CG T L)(f:T.ok)(d:Inv0 L N)(x y:Int):y∈T.path x <-> ∃ i,i<dJ L.t L.tn x/\aU L.t L.tn i x=y:=by
 obtain⟨c,b⟩:=h.path f d x;rw[<- c];constructor
 ·intro g;obtain⟨i,a,e⟩:=List.getElem_of_mem g;refine⟨i,a,?_⟩;rw[<- b i a,r_,o_ a]; exact e
 rintro ⟨i,a,rfl⟩;rw[<- b i a,r_,o_ a]; exact Q_ a
theorem CG.err(h:CG T L)(l:T.ok)(a:Inv0 L N)(id pa:Int):T.err id pa=jE L.t L.tn id pa:=by
 unfold dM.err rF jE;by_cases c:id=0
 ·rw[d_ c,d_ c]
 rw[b_ c,b_ c];by_cases d:dS T.x T.n id=true
 ·rw[d_ d,d_ ((h.find a id).1 d)]
 rw[b_ d,b_ (fun e=>d ((h.find a id).2 e))];have j:(¬ pa=0/\dS T.x T.n pa=false)<->(pa≠0/\bD L.t L.tn pa<0):=by
  rw[<- h.findF a]; exact Iff.rfl
 by_cases f : ¬ pa=0/\dS T.x T.n pa=false
 ·rw[d_ f,d_ (j.1 f)]
 rw[b_ f,b_ (fun e=>f (j.2 e))];have k:(32<=T.n\/4<=(jD T.x T.p T.n 4 pa).length)<->(32<=L.tn\/C8 L.t L.tn pa):=by
  obtain⟨q,r⟩:=h.path l a pa;have v:(T.path pa).length<=4:=dM.yR;have:4<=(T.path pa).length<->C8 L.t L.tn pa:=by
   constructor
   ·intro s i u;have b:=(rU (l.stop pa)) i (by show i<(T.path pa).length; omega);rw[<- r i (by omega),<- h.find a]; exact b.1
   ·intro o
    rcases Nat.lt_or_ge (T.path pa).length 4 with b|b
    ·exfalso;have m:=o _ b;rw[q]at m;have:=Y2 a pa;omega
    ·exact b
  show(32<=T.n\/4<=(T.path pa).length)<->_;rw[this,h.n,a.Cn]
 by_cases g:32<=T.n\/4<=(jD T.x T.p T.n 4 pa).length
 ·rw[d_ g,d_ (k.1 g)]
 rw[b_ g,b_ (fun e=>g (k.2 e))]
end
end Rt
namespace Rt
section
variable {m:dN} {k:Int} {i:Nat}
theorem dN.Dn(b:m.T.ok)(c:m.T.has k=true):m.idx k<m.T.n/\m.T.x (m.idx k)=k:=by
 obtain⟨j,a,e⟩:=gX c;have:m.idx k=j:=mZ b.inj a e;rw[this]; exact⟨a,e⟩
theorem LH(x:Nat->Int)(id:Int) : ∀ n,(∀ i,i<n->x i≠id)->zx (Fx.aO x n id) (n+1) id=n:=fun n _=>by
 unfold zx;rw[d_];unfold Fx.aO;rw[d_ rfl]
theorem Io{x y:Nat->Int}{k:Int} : ∀ {n:Nat},(∀ i,i<n->x i=y i)->zx x n k=zx y n k
 | 0,_=>rfl
 | n+1,h=>by unfold zx; rw[h n (by omega),Io (n:=n) fun i a=>h i (by omega)]
theorem LJ(x:Nat->Int){id k:Int}(n:Nat)(b:id≠k):zx (Fx.aO x n id) (n+1) k=zx x n k:=by
 have a:Fx.aO x n id n=id:=by unfold Fx.aO; rw[d_ rfl]
 show(if Fx.aO x n id n=k then n else zx (Fx.aO x n id) n k)=_;rw[a,b_ b];exact Io fun i c=>by unfold Fx.aO; rw[b_ (by omega)]
theorem Iq{f g:Nat->Int}{o:Int} : ∀ {n:Nat},(∀ i,i<n->f i=g i)->mP f o n=mP g o n
 | 0,_=>rfl
 | n+1,h=>by unfold mP; rw[Iq (n:=n) fun i a=>h i (by omega),h n (by omega)]
theorem LK{f:Nat->Int}{o v:Int}{k:Nat} : ∀ n,k<=n->mP (Fx.cu f k v) o (n+1)=mP f o n+if v / 1099511627776=o then 1 else 0
 | 0,h=>by
   obtain rfl:k=0:=(by omega);show 0+(if Fx.cu f 0 v 0 / 1099511627776=o then 1 else 0)=0+_;rw[dF]
 | n+1,h=>by
   by_cases e:k=n+1
   ·subst e;show mP (Fx.cu f (n+1) v) o (n+1)+(if Fx.cu f (n+1) v (n+1) / 1099511627776=o then 1 else 0)=_;rw[dF,Iq (g:=f) fun i a=>Ee a]
   ·show mP (Fx.cu f k v) o (n+1)+(if Fx.cu f k v (n+1) / 1099511627776=o then 1 else 0)=mP f o n+(if f n / 1099511627776=o then 1 else 0)+_;rw[LK n (by omega),Ef (by omega)];show _+(if f n / 1099511627776=o then 1 else 0)=_;omega
theorem Ph{f:Nat->Int}{o:Int} : ∀ n,mP f o n<=n
 | 0=>A_ _
 | n+1=>by have:=Ph (f:=f) (o:=o) n; unfold mP; split <;> omega
theorem CJ{P:Nat->Bool}{n:Nat}:0<=ig P n <-> ∃ j,j<n/\P j=true:=by
 rcases jO P n with ⟨k,c,e,a⟩|⟨e,h⟩
 ·rw[e]; exact⟨fun _=>⟨k,c,a⟩,fun _=>by omega⟩
 rw[e]; exact⟨fun h=>by omega,fun⟨j,b,a⟩=>by rw[h j b]at a; cases a⟩
end
structure fT(m:dN)(L:fA):Prop where
 T:CG m.T L
 inn:m.inn=L.inn
 left:m.left=L.left
 known:m.known=L.known
 row : ∀ i,i<L.nn->DV m (L.id i)=L.R i
 own : ∀ a,a<6->m.own a=((mP L.id ((a:Int)+1) L.nn:Nat):Int)
 gi : ∀ i j,i<m.gn->j<m.gn->m.g i 0=m.g j 0->m.g i 1=m.g j 1->i=j
 gn:m.gn=L.gn
 g1 : ∀ q,q<L.gn -> ∃ j,j<m.gn/\m.g j=L.g q
 g2 : ∀ j,j<m.gn -> ∃ q,q<L.gn/\L.g q=m.g j
 ask : ∀(a:Nat) (r:Int),a<6->(gZ m ((a:Int)+1) r=true <-> ∃ j,j<L.rn a/\L.rq a j=r)
 ga:QN m
 li : ∀ p q,p<L.gn->q<L.gn->L.g p 0=L.g q 0->L.g p 1=L.g q 1->p=q
section
variable {m:dN} {L:fA} {N:Nat} {v:EvM} {x:Int}
theorem fT.node(h:fT m L)(a:Inv0 L N)(x:Int):m.T.has x=true<->0<=L.node x:=by rw[h.T.find a,a.node]
theorem fT.LM(h:fT m L)(a:Inv0 L N)(x:Int):m.T.has x=false<->L.node x<0:=by rw[h.T.findF a,a.node]
theorem Inv0.Y3(a:Inv0 L N)(hx:0<=L.node x):(L.node x).toNat<L.nn/\L.id (L.node x).toNat=x:=by
 rw[a.node]at hx ⊢;obtain⟨j,b,e,c⟩:=vo hx;rw[e];rw[a.Cn]at b;exact⟨b,by show L.id j=x; rw[<- (a.tid j b).1]; exact c⟩
theorem fT.rk(h:fT m L)(c:Inv0 L N)(hx:0<=L.node x):DV m x=L.R (L.node x).toNat:=by
 obtain⟨a,b⟩:=c.Y3 hx;rw[<- h.row _ a,b]
theorem fT.Ct(h:fT m L)(f:m.T.ok)(a:Inv0 L N)(hx:m.T.has x=true)(r:Nat->Int):fT (Ct m x r) { L with R:=aI L.R (L.node x).toNat r }:=by
 have l:=(h.node a x).1 hx;obtain⟨j,c⟩:=a.Y3 l;refine { h with row:=fun i b => ?_,T:=⟨h.T.has,h.T.n,h.T.par⟩ };show Fx.aO m.R (m.idx x) r (m.idx (L.id i))=aI L.R (L.node x).toNat r i;unfold Fx.aO aI;by_cases e:i=(L.node x).toNat
 ·subst e; rw[c,d_ rfl,d_ rfl]
 rw[b_ e,b_]
 ·exact h.row i b
 intro g;have d:=(dN.Dn f ((h.T.has _).2 ⟨i,b,rfl⟩)).2;have k:=(dN.Dn f hx).2;rw[g,k]at d;exact e (a.inj i _ b j (by rw[c]; exact d.symm))
theorem fT.along(h:fT m L)(l:m.T.ok)(g:Inv0 L N)(f:(Nat->Int)->(Nat->Int) × Int)(x:Int) :
 dw m f (m.T.path x)=(cZ f (oH L x) L.R (dJ L.t L.tn x)).2/\((cZ f (oH L x) L.R (dJ L.t L.tn x)).2=0 -> ∀ i,i<L.nn->(qP m f (m.T.path x)).R (m.idx (L.id i))=(cZ f (oH L x) L.R (dJ L.t L.tn x)).1 i):=by
 obtain⟨z,p⟩:=h.T.path l g x;have w:(m.T.path x).Nodup:=dM.Aj l x;have o : ∀ i,i<dJ L.t L.tn x->0<=L.node (aU L.t L.tn i x):=fun i c=>by rw[g.node]; exact Bh c
 have y : ∀ i j,i<dJ L.t L.tn x->j<dJ L.t L.tn x->oH L x i=oH L x j->i=j:=fun i j c v e=>by
  have a:=g.Y3 (o i c);have b:=g.Y3 (o j v);have e:(L.node (aU L.t L.tn i x)).toNat=(L.node (aU L.t L.tn j x)).toNat:=e;rw[e]at a;have k:aU L.t L.tn i x=aU L.t L.tn j x:=a.2.symm.trans b.2;rw[<- p i (by omega),<- p j (by omega)]at k;exact CB w (by omega) (by omega) k
 obtain⟨A,B⟩:=FT (f:=f) (idx:=oH L x) (R:=L.R) y;refine⟨?_,fun s i c => ?_⟩
 ·rw[A];unfold dw;rw[z];exact Dm fun i c=>by
   rw[p i (by omega)];exact h.rk g (o i c)
 have u:=(dN.Dn l ((h.T.has _).2 ⟨i,c,rfl⟩)).2;show(if m.T.x (m.idx (L.id i))∈m.T.path x then(f (m.R (m.idx (L.id i)))).1 else m.R (m.idx (L.id i)))=_;rw[u,show m.R (m.idx (L.id i))=L.R i from h.row i c];have r:L.id i∈m.T.path x <-> ∃ q,q<dJ L.t L.tn x/\oH L x q=i:=by
  rw[h.T.mem l g];constructor
  ·rintro ⟨q,d,e⟩;exact⟨q,d,(Eh g c d).2 e⟩
  ·rintro ⟨q,d,e⟩;exact⟨q,d,(Eh g c d).1 e⟩
 rcases B s i with ⟨n,k⟩|⟨n,q,d,k⟩
 ·rw[n,b_];rw[r]; rintro ⟨q,d,e⟩; exact k q d e
 rw[n,d_ (r.2 ⟨q,d,k⟩)]
theorem fT.asked(h:fT m L)(f:bR v=true)(r:Int):gZ m v.o r=true<->0<=L.lH (aN v) r:=by
 obtain⟨a,c,d⟩:=eX (iU f);have:aN v=a:=by unfold aN; omega
 rw[this,d,h.ask a r c];unfold fA.lH;rw[CJ];constructor
 ·rintro ⟨j,b,e⟩; exact⟨j,b,f_ e⟩
 rintro ⟨j,b,e⟩; exact⟨j,b,h_ e⟩
theorem fT.grant(h:fT m L)(o r:Int):(iL m o r=true<->0<=L.grant o r)/\(0<=L.grant o r->(L.grant o r).toNat<L.gn/\fD m o r<m.gn/\m.g (fD m o r)=L.g (L.grant o r).toNat/\L.g (L.grant o r).toNat 0=o/\L.g (L.grant o r).toNat 1=r):=by
 have k1:iL m o r=true <-> ∃ j,j<m.gn/\m.g j 0=o/\m.g j 1=r:=lM;have k2:0<=L.grant o r <-> ∃ q,q<L.gn/\L.g q 0=o/\L.g q 1=r:=by
  unfold fA.grant;rw[CJ];constructor
  ·rintro ⟨j,a,e⟩; rw[S_]at e; exact⟨j,a,h_ e.1,h_ e.2⟩
  ·rintro ⟨j,a,b,c⟩; exact⟨j,a,by rw[f_ b,f_ c]; rfl⟩
 refine⟨?_,fun l => ?_⟩
 ·rw[k1,k2];constructor
  ·rintro ⟨j,a,b,c⟩;obtain⟨q,d,e⟩:=h.g2 j a;exact⟨q,d,by rw[e]; exact b,by rw[e]; exact c⟩
  rintro ⟨q,d,b,c⟩;obtain⟨j,a,e⟩:=h.g1 q d;exact⟨j,a,by rw[e]; exact b,by rw[e]; exact c⟩
 have : ∃ q,q<L.gn/\L.grant o r=(q:Int)/\L.g q 0=o/\L.g q 1=r:=by
  unfold fA.grant at l ⊢
  rcases jO (fun i=>decide (L.g i 0=o)&&decide (L.g i 1=r)) L.gn with ⟨q,d,e,k⟩|⟨e,_⟩
  ·rw[S_]at k; exact⟨q,d,e,h_ k.1,h_ k.2⟩
  ·omega
 obtain⟨q,d,e,b,c⟩:=this;rw[e];obtain⟨j,a,f⟩:=h.g1 q d;have:fD m o r=j:=yS h.gi a (by show m.g j 0=o; rw[f]; exact b) (by show m.g j 1=r; rw[f]; exact c);rw[this];exact⟨d,a,f,b,c⟩
theorem fT.ahI(h:fT m L)(i:m.T.ok)(g:Inv0 L N)(e:bR v=true)(l:v.kind=1):jc m v=kF L v:=by
 obtain⟨a,j,d⟩:=eX (iU e);have k:aN v=a:=by unfold aN; omega
 unfold jc kF;rw[k,h.own a j,d];have b:(5<=((mP L.id ((a:Int)+1) L.nn:Nat):Int)\/140737488355328<v.aQ)<->(5<=mP L.id ((a:Int)+1) L.nn\/140737488355328<v.aQ):=by omega
 have f:nP v=jk ((a:Int)+1) v.seq:=by rw[<- d,rO e]; rfl
 by_cases c:5<=mP L.id ((a:Int)+1) L.nn\/140737488355328<v.aQ
 ·rw[d_ c,d_ (b.2 c)]
 rw[b_ c,b_ (fun q=>c (b.1 q)),h.T.err i g,f]
theorem fT.make(h:fT m L)(A:m.T.ok)(r:Inv0 L N)(l:bR v=true)(D:v.kind=1)(z:kF L v=0):fT (Dk m v) (qL L v):=by
 obtain⟨k,g,H,I,J,K,M,y,P,Q,G⟩:=wP r l D z;have t:=rO l;have O:=oh l;have f:nP v=jk v.o v.seq:=by rw[t]; rfl
 have w:m.T.has (nP v)=false:=by
  rw[h.T.findF r,f,vG];exact G.no
 have E : ∀ i,i<m.T.n->m.T.x i≠nP v:=fun i d e=>by
  have:=dM.zK d; rw[e,w]at this; cases this
 rw[y];have C : ∀ q,(m.T.put (nP v) v.node).has q=true<->(m.T.has q=true\/q=nP v):=fun q=>by
  rw[dM.jF,Bool.or_eq_true,P_];exact⟨fun h=>h.imp id Eq.symm,fun h=>h.imp id Eq.symm⟩
 have u : ∀ q,q<L.nn->L.id q≠nP v:=fun q F e=>by
  have:=(h.T.has _).2 ⟨q,F,rfl⟩; rw[e,w]at this; cases this
 refine {
  T:=⟨fun q => ?_,?_,fun i d => ?_⟩
  inn:=h.inn
  left:=h.left
  known:=h.known
  row:=fun i d => ?_
  own:=fun a s => ?_
  gi:=h.gi
  gn:=h.gn
  g1:=h.g1
  g2:=h.g2
  ask:=h.ask
  ga:=h.ga
  li:=h.li }
 ·show(m.T.put (nP v) v.node).has q=true <-> ∃ i,i<L.nn+1/\Fx.cu L.id k (jk v.o v.seq) i=q;rw[C,h.T.has];constructor
  ·rintro (⟨i,d,e⟩|e)
   ·obtain⟨j,b,_,c⟩:=Bg (k:=k) d;exact⟨j,b,by rw[c]; exact e⟩
   exact⟨k,by omega,by rw[dF,e,f]⟩
  rintro ⟨i,d,e⟩
  rcases dU g d with rfl|⟨j,b,c,_,_⟩
  ·rw[dF]at e; exact .inr (by rw[<- e,f])
  rw[c]at e; exact .inl ⟨j,b,e⟩
 ·show m.T.n+1=L.nn+1;rw[h.T.n]
 ·show(m.T.put (nP v) v.node).par (Fx.cu L.id k (jk v.o v.seq) i)=Fx.cu L.par k v.node i;rw[dM.tZ]
  rcases dU g d with rfl|⟨j,b,c,_,_⟩
  ·rw[dF,dF,d_ f]
  rw[c,c,b_ (fun e=>u j b e.symm)]; exact h.T.par j b
 ·show Fx.aO m.R m.T.n _ (zx (Fx.aO m.T.x m.T.n (nP v)) (m.T.n+1) (Fx.cu L.id k (jk v.o v.seq) i))=Fx.cu L.R k _ i
  rcases dU g d with rfl|⟨j,b,c,_,_⟩
  ·rw[dF,dF,<- f,LH _ _ _ E]; unfold Fx.aO; rw[d_ rfl]
  rw[c,c,LJ _ _ (fun e=>u j b e.symm)];have p:=(dN.Dn A ((h.T.has _).2 ⟨j,b,rfl⟩)).1;have p:zx m.T.x m.T.n (L.id j)<m.T.n:=p;unfold Fx.aO;rw[b_ (by omega)];exact h.row j b
 show aI m.own (aN v) (m.own (aN v)+1) a=((mP (Fx.cu L.id k (jk v.o v.seq)) ((a:Int)+1) (L.nn+1):Nat):Int);rw[LK _ g,t];have B:(1099511627776*v.o+v.seq) / 1099511627776=v.o:=by omega
 rw[B];unfold aI;by_cases e:a=aN v
 ·rw[d_ e,<- e,h.own a s,d_ (by unfold aN at e; omega)]; rfl
 rw[b_ e,h.own a s,b_ (by unfold aN at e; omega)]; rfl
attribute [local irreducible] dJ cZ dw in
theorem fT.pX(h:fT m L)(d:m.T.ok)(g:Inv0 L N)(i:bR v=true):jU m v=iZ L v:=by
 unfold jU iZ;by_cases c:gZ m v.o v.req=true
 ·rw[d_ c,d_ ((h.asked i _).1 c)]
 rw[b_ c,b_ (fun e=>c ((h.asked i _).2 e))];obtain⟨j,_⟩:=h.T.path d g v.node;have f:m.T.has v.node=false<->dJ L.t L.tn v.node=0:=by
  rw[<- j];constructor
  ·intro b; rw[show m.T.path v.node = []from kW b]; rfl
  ·intro b
   cases e:m.T.has v.node with
   | false=>rfl
   | true=>rw[dM.step d e]at b; simp at b
 by_cases a:m.T.has v.node=false
 ·rw[d_ a,d_ (f.1 a)]
 rw[b_ a,b_ (fun e=>a (f.2 e))];exact(h.along d g _ _).1
theorem FU{k1 k2:Nat->Int}{n:Nat}{a b o r:Int}:Br (Fx.aO k1 n a) (Fx.aO k2 n b) (n+1) o r=true<->(Br k1 k2 n o r=true\/(a=o/\b=r)):=by
 rw[lM,lM];unfold Fx.aO;constructor
 ·rintro ⟨j,f,c,d⟩;by_cases e:j=n
  ·subst e; rw[d_ rfl]at c d; exact .inr ⟨c,d⟩
  rw[b_ e]at c d; exact .inl ⟨j,by omega,c,d⟩
 rintro (⟨j,f,c,d⟩|⟨c,d⟩)
 ·exact⟨j,by omega,by rw[b_ (by omega)]; exact c,by rw[b_ (by omega)]; exact d⟩
 exact⟨n,by omega,by rw[d_ rfl]; exact c,by rw[d_ rfl]; exact d⟩
theorem fT.Pj(h:fT m L)(w:bR v=true)(d:dN)(f:fA)(i:d.an=m.an+1)(k:d.ao=Fx.aO m.ao m.an v.o)(l:d.ar=Fx.aO m.ar m.an v.req)(n:f.rn=aI L.rn (aN v) (L.rn (aN v)+1))(p:f.rq=aI L.rq (aN v) (aI (L.rq (aN v)) (L.rn (aN v)) v.req)) :
 (∀(a:Nat) (r:Int),a<6->(gZ d ((a:Int)+1) r=true <-> ∃ j,j<f.rn a/\f.rq a j=r))/\(∀ o r,gZ m o r=true->gZ d o r=true)/\gZ d v.o v.req=true:=by
 obtain⟨b,x,t⟩:=eX (iU w);have u:aN v=b:=by unfold aN; omega
 have g : ∀ o r,gZ d o r=true<->(gZ m o r=true\/(v.o=o/\v.req=r)):=fun o r=>by
  unfold gZ; rw[i,k,l]; exact FU
 refine⟨fun a r q => ?_,fun o r h=>(g o r).2 (.inl h),(g _ _).2 (.inr ⟨rfl,rfl⟩)⟩;rw[g,h.ask a r q,n,p,u];unfold aI;by_cases e:a=b
 ·subst e;rw[d_ rfl,d_ rfl];constructor
  ·rintro (⟨j,s,e⟩|⟨_,e⟩)
   ·exact⟨j,by omega,by show(if j=L.rn a then v.req else L.rq a j)=r; rw[b_ (by omega)]; exact e⟩
   exact⟨L.rn a,by omega,by show(if L.rn a=L.rn a then v.req else _)=r; rw[d_ rfl]; exact e⟩
  rintro ⟨j,s,e⟩;have e:(if j=L.rn a then v.req else L.rq a j)=r:=e;by_cases c:j=L.rn a
  ·rw[d_ c]at e; exact .inr ⟨t,e⟩
  rw[b_ c]at e; exact .inl ⟨j,by omega,e⟩
 rw[b_ e,b_ e];exact⟨fun h=>h.elim id fun h=>by omega,.inl⟩
attribute [local irreducible] dJ cZ dw in
theorem fT.take(h:fT m L)(F:m.T.ok)(E:Inv0 L N)(D:bR v=true)(t:iZ L v=0):fT (kJ m v) (mo L v):=by
 unfold iZ at t;split at t
 ·cases t
 rename_i c1;split at t
 ·cases t
 have I:=(h.along F E (fun x=>bH x v.o v.aQ) v.node).2 t;have G : ¬ gZ m v.o v.req=true:=fun e=>c1 ((h.asked D _).1 e);obtain⟨k1,k2,J⟩:=h.Pj D (kJ m v) (mo L v) rfl rfl rfl rfl rfl;have s : ∀ j,(kJ m v).g j=if j=m.gn then pU v else m.g j:=fun j=>rfl;have A:pU v 0=v.o:=rfl;have B:pU v 1=v.req:=rfl;have y : ∀ j,j<m.gn -> ¬ (m.g j 0=v.o/\m.g j 1=v.req):=fun j d e=>G (by have:=h.ga j d; rw[e.1,e.2]at this; exact this);have u:=Fx.vY (fun i=>Da v (L.g i)) L.gn
 refine {
  T:=⟨h.T.has,h.T.n,h.T.par⟩
  inn:=h.inn
  left:=h.left
  known:=h.known
  row:=I
  own:=h.own
  gi:=fun i j r d b a => ?_
  gn:=by show m.gn+1=L.gn+1; rw[h.gn]
  g1:=fun q f => ?_
  g2:=fun j d => ?_
  ask:=k1
  ga:=fun i r => ?_
  li:=fun p q z f b a => ?_ }
 ·have r:i<m.gn+1:=r;have d:j<m.gn+1:=d;rw[s,s]at b a;by_cases c:i=m.gn
  ·by_cases l:j=m.gn
   ·omega
   rw[d_ c,b_ l,A]at b; rw[d_ c,b_ l,B]at a;exact M_ ⟨b.symm,a.symm⟩ (y j (by omega))
  by_cases l:j=m.gn
  ·rw[b_ c,d_ l,A]at b; rw[b_ c,d_ l,B]at a;exact M_ ⟨b,a⟩ (y i (by omega))
  rw[b_ c,b_ l]at b a; exact h.gi i j (by omega) (by omega) b a
 ·have f:q<L.gn+1:=f;show ∃ j,j<m.gn+1/\(kJ m v).g j=Fx.cu L.g (Fx.down (fun i=>Da v (L.g i)) L.gn) (pU v) q
  rcases dU u f with e|⟨j,d,a,_,_⟩
  ·rw[e,dF]; exact⟨m.gn,by omega,by rw[s,d_ rfl]⟩
  rw[a];obtain⟨i,r,w⟩:=h.g1 j d;exact⟨i,by omega,by rw[s,b_ (by omega)]; exact w⟩
 ·have d:j<m.gn+1:=d;show ∃ q,q<L.gn+1/\Fx.cu L.g (Fx.down (fun i=>Da v (L.g i)) L.gn) (pU v) q=(kJ m v).g j;rw[s];by_cases c:j=m.gn
  ·rw[d_ c]; exact⟨_,by omega,dF⟩
  rw[b_ c];obtain⟨q,f,e⟩:=h.g2 j (by omega);obtain⟨K,H,_,a⟩:=Bg (k:=Fx.down (fun i=>Da v (L.g i)) L.gn) f;exact⟨K,H,by rw[a]; exact e⟩
 ·have r:i<m.gn+1:=r;rw[s];by_cases c:i=m.gn
  ·rw[d_ c]; exact J
  rw[b_ c]; exact k2 _ _ (h.ga i (by omega))
 have z:p<L.gn+1:=z;have f:q<L.gn+1:=f;have C : ∀ j,j<L.gn -> ¬ (L.g j 0=v.o/\L.g j 1=v.req):=fun j d e=>by
  obtain⟨i,r,w⟩:=h.g1 j d;rw[<- w]at e;exact y i r e
 have b:Fx.cu L.g (Fx.down (fun i=>Da v (L.g i)) L.gn) (pU v) p 0=Fx.cu L.g (Fx.down (fun i=>Da v (L.g i)) L.gn) (pU v) q 0:=b;have a:Fx.cu L.g (Fx.down (fun i=>Da v (L.g i)) L.gn) (pU v) p 1=Fx.cu L.g (Fx.down (fun i=>Da v (L.g i)) L.gn) (pU v) q 1:=a;generalize Fx.down (fun i=>Da v (L.g i)) L.gn=k at b a u
 rcases dU u z with c|⟨j,d,f1,f2,f3⟩
 ·rcases dU u f with l|⟨j',hj',f1',f2',f3'⟩
  ·omega
  rw[c,dF,f1']at b a; exact M_ ⟨b.symm,a.symm⟩ (C j' hj')
 rcases dU u f with l|⟨j',hj',f1',f2',f3'⟩
 ·rw[l,dF,f1]at b a; exact M_ ⟨b,a⟩ (C j d)
 rw[f1,f1']at b a;have:=h.li j j' d hj' b a;omega
attribute [local irreducible] dJ cZ dw in
theorem fT.pY(h:fT m L)(l:m.T.ok)(k:Inv0 L N)(f:bR v=true):jv m v=iQ L v:=by
 unfold jv iQ;by_cases c:gZ m v.o v.req=true
 ·rw[d_ c,d_ ((h.asked f _).1 c)]
 rw[b_ c,b_ (fun e=>c ((h.asked f _).2 e))];obtain⟨d,j⟩:=h.grant v.o v.of;by_cases b:0<=L.grant v.o v.of
 ·obtain⟨p,r,i,s,t⟩:=j b;have n:=d.2 b;have e:(iL m v.o v.of=false\/m.g (fD m v.o v.of) 4≠0)<->(L.grant v.o v.of<0\/L.g (yh L v) 4≠0):=by
   rw[i,n];show _<->_\/L.g (L.grant v.o v.of).toNat 4≠0;constructor
   ·rintro (h|h)
    ·cases h
    ·exact .inr h
   ·rintro (h|h)
    ·omega
    ·exact .inr h
  by_cases a:L.grant v.o v.of<0\/L.g (yh L v) 4≠0
  ·rw[d_ a,d_ (e.2 a)]
  rw[b_ a,b_ (fun q=>a (e.1 q)),i];exact(h.along l k _ _).1
 rw[d_ (.inl (by
  cases e:iL m v.o v.of with
  | false=>rfl
  | true=>exact M_ (d.1 e) b)),d_ (.inl (by omega))]
attribute [local irreducible] dJ cZ dw in
theorem fT.free(h:fT m L)(G:m.T.ok)(F:Inv0 L N)(I:bR v=true)(k:iQ L v=0):fT (iH m v) (kH L v):=by
 unfold iQ at k;split at k
 ·cases k
 split at k
 ·cases k
 rename_i c2;have E:0<=L.grant v.o v.of:=by rcases ilt (L.grant v.o v.of)with h1|h1; exact M_ (.inl h1) c2; exact h1
 obtain⟨C,D,t,K,M⟩:=(h.grant v.o v.of).2 E;have H:=(h.along G F (fun x=>bI x v.o (L.g (yh L v) 3)) (L.g (yh L v) 2)).2 k;obtain⟨k1,k2,J⟩:=h.Pj I (iH m v) (kH L v) rfl rfl rfl rfl rfl;have A:yh L v=(L.grant v.o v.of).toNat:=rfl;have w : ∀ j,(iH m v).g j=if j=fD m v.o v.of then upd (m.g (fD m v.o v.of)) 4 v.req else m.g j:=fun j=>rfl;have u : ∀ q,(kH L v).g q=if q=yh L v then aI (L.g (yh L v)) 4 v.req else L.g q:=fun q=>rfl;have B:upd (m.g (fD m v.o v.of)) 4 v.req=aI (L.g (yh L v)) 4 v.req:=by rw[t]; rfl
 have f : ∀ j p,(p=0\/p=1)->(iH m v).g j p=m.g j p:=fun j p s=>by
  rw[w];by_cases c:j=fD m v.o v.of
  ·subst c; rw[d_ rfl]; rcases s with rfl|rfl <;> rfl
  ·rw[b_ c]
 have z : ∀ j p,(p=0\/p=1)->(kH L v).g j p=L.g j p:=fun j p s=>by
  rw[u];by_cases c:j=yh L v
  ·subst c; rw[d_ rfl]; rcases s with rfl|rfl <;> rfl
  ·rw[b_ c]
 refine {
  T:=⟨h.T.has,h.T.n,h.T.par⟩
  inn:=h.inn
  left:=h.left
  known:=h.known
  row:=fun i r => ?_
  own:=h.own
  gi:=fun i j r a l d=>h.gi i j r a (by rw[f i 0 (.inl rfl),f j 0 (.inl rfl)]at l; exact l) (by rw[f i 1 (.inr rfl),f j 1 (.inr rfl)]at d; exact d)
  gn:=h.gn
  g1:=fun q b => ?_
  g2:=fun j a => ?_
  ask:=k1
  ga:=fun i r=>by rw[f i 0 (.inl rfl),f i 1 (.inr rfl)]; exact k2 _ _ (h.ga i r)
  li:=fun p q s b l d=>h.li p q s b (by rw[z p 0 (.inl rfl),z q 0 (.inl rfl)]at l; exact l) (by rw[z p 1 (.inr rfl),z q 1 (.inr rfl)]at d; exact d) }
 ·have:=H i r;show(qP m (fun x=>bI x v.o (m.g (fD m v.o v.of) 3)) (m.T.path (m.g (fD m v.o v.of) 2))).R (m.idx (L.id i))=_;rw[t]; exact this
 ·have b:q<L.gn:=b;rw[u];by_cases c:q=yh L v
  ·rw[d_ c]; exact⟨fD m v.o v.of,D,by rw[w,d_ rfl,B]⟩
  rw[b_ c];obtain⟨j,a,y⟩:=h.g1 q b;refine⟨j,a,?_⟩;rw[w,b_]
  ·exact y
  intro e;rw[e,t]at y;exact c (h.li q _ b C (congrFun y.symm 0) (congrFun y.symm 1))
 have a:j<m.gn:=a;rw[w];by_cases c:j=fD m v.o v.of
 ·rw[d_ c]; exact⟨yh L v,C,by rw[u,d_ rfl,B]⟩
 rw[b_ c];obtain⟨q,b,e⟩:=h.g2 j a;refine⟨q,b,?_⟩;rw[u,b_]
 ·exact e
 intro d;rw[d]at e;exact c (h.gi j _ a D (by rw[t,<- e,A]) (by rw[t,<- e,A]))
theorem fT.move(h:fT m L)(i:m.T.ok)(a:Inv0 L N)(k:bR v=true)(j:v.kind=5):kI m v=pI L v/\(pI L v=0->fT (Dh m v) (Fy L v)):=by
 obtain⟨b,l,n⟩:=OX k j;unfold kI pI;by_cases c:L.node v.node<0
 ·rw[d_ c,d_ ((h.LM a _).2 c)];exact⟨rfl,fun h=>by cases h⟩
 have f:0<=L.node v.node:=by omega
 rw[b_ c,b_ (fun e=>c ((h.LM a _).1 e)),h.inn];have g:sU m v=yj L v:=by unfold sU yj; rw[<- h.rk a f]; rfl
 have e:(v.dst<1\/6<v.dst\/L.inn (v.dst-1).toNat=false)<->L.inn (v.dst-1).toNat=false:=⟨fun h=>by rcases h with h|h|h; omega; omega; exact h,fun h => .inr (.inr h)⟩
 by_cases d:L.inn (v.dst-1).toNat=false
 ·rw[d_ d,d_ (e.2 d)];exact⟨rfl,fun h=>by cases h⟩
 rw[b_ d,b_ (fun q=>d (e.1 q)),g];refine⟨rfl,fun _ => ?_⟩;have:=h.Ct i a ((h.node a _).2 f) (yj L v).1;unfold Dh Fy;rw[g]; exact this
theorem fT.raise(h:fT m L)(f:m.T.ok)(a:Inv0 L N):jG m v=wO L v/\(wO L v=0->fT (uK m v) (Fw L v)):=by
 unfold jG wO;by_cases c:L.node v.node<0
 ·rw[d_ c,d_ ((h.LM a _).2 c)];exact⟨rfl,fun h=>by cases h⟩
 have b:0<=L.node v.node:=by omega
 have d:m.R (m.idx v.node)=L.R (L.node v.node).toNat:=h.rk a b;rw[b_ c,b_ (fun e=>c ((h.LM a _).1 e)),d];refine⟨rfl,fun _ => ?_⟩;unfold uK Fw;rw[d];exact h.Ct f a ((h.node a _).2 b) _
theorem fT.does(h:fT m L)(c:m.T.ok)(b:Inv0 L N)(d:bR v=true):fJ m v=dZ L v/\(dZ L v=0->fT (iR m v) (iw L v)):=by
 have j:=jg d;unfold fJ dZ iR iw;by_cases k1:v.kind=1
 ·rw[d_ k1,d_ k1,d_ k1,d_ k1]; exact⟨h.ahI c b d k1,fun e=>h.make c b d k1 e⟩
 rw[b_ k1,b_ k1,b_ k1,b_ k1];by_cases k2:v.kind=2
 ·rw[d_ k2,d_ k2,d_ k2,d_ k2]; exact h.raise c b
 rw[b_ k2,b_ k2,b_ k2,b_ k2];by_cases f:v.kind=3
 ·rw[d_ f,d_ f,d_ f,d_ f]; exact⟨h.pX c b d,fun e=>h.take c b d e⟩
 rw[b_ f,b_ f,b_ f,b_ f];by_cases g:v.kind=4
 ·rw[d_ g,d_ g,d_ g,d_ g]; exact⟨h.pY c b d,fun e=>h.free c b d e⟩
 rw[b_ g,b_ g,b_ g,b_ g];by_cases a:v.kind=5
 ·rw[d_ a,d_ a,d_ a,d_ a]; exact h.move c b d a
 rw[b_ a,b_ a,b_ a,b_ a];by_cases i:v.kind=6
 ·rw[d_ i,d_ i,d_ i];exact⟨rfl,fun _ => { h with T:=⟨h.T.has,h.T.n,h.T.par⟩,inn:=by show aI m.inn _ true=aI L.inn _ true; rw[h.inn] }⟩
 rw[b_ i,b_ i,b_ i];exact⟨rfl,fun _ => { h with T:=⟨h.T.has,h.T.n,h.T.par⟩,left:=by show aI m.left _ true=aI L.left _ true; rw[h.left] }⟩
theorem fT.apply(h:fT m L)(f:m.T.ok)(d:Inv0 L N)(v:EvM):bZ m v=bG L v/\fT (jw m v) (dh L v):=by
 have e:bZ m v=bG L v:=by
  unfold bZ bG;rw[h.known,h.inn,h.left]
  cases b:bR v with
  | false=>rfl
  | true =>
    rw[(h.does f d b).1]
 refine⟨e,?_⟩;unfold jw dh;rw[e];by_cases c:bG L v=0
 ·rw[d_ c,d_ c];have b:=(DL (jh c)).1;have g:dZ L v=0:=by
   unfold bG at c;rw[b_ (by rw[b]; decide)]at c;split at c; · cases c
   split at c; · cases c
   split at c; · cases c
   exact c
  have a:=(h.does f d b).2 g;exact { a with T:=⟨a.T.has,a.T.n,a.T.par⟩,known:=by show aI (iR m v).known _ _=aI (iw L v).known _ _; rw[a.known] }
 rw[b_ c,b_ c]; exact h
theorem fT.sound(h:fT m L)(k:m.T.ok)(c:Inv0 L N):QlK m := {
 own:=fun a l=>by
  have b:=Ph (f:=L.id) (o:=(a:Int)+1) L.nn;have d:=c.nn;rw[h.own a l]; omega
 row:=fun i g p n=>by
  obtain⟨j,hj,e⟩:=(h.T.has _).1 (dM.zK g);have b:=h.row j hj;rw[e]at b;have d:m.idx (m.T.x i)=i:=mZ k.inj g rfl;unfold DV at b;rw[d]at b;rw[b];exact kM (c.may j hj) p n
 ga:=h.ga
 kn:=by rw[h.known]; exact c.kn }
end
end Rt
namespace Rt
def oq(x:Nat->Int):Int:=x 0*18446744073709551616+x 1
structure xH(L:fA):Prop where
 up : ∀ i j,i<j->j<L.gn->oq (L.g i)<oq (L.g j)
 wf : ∀ q,q<L.gn->iP (L.g q 1)/\iP (L.g q 4)
 ga : ∀ q,q<L.gn->1<=L.g q 0/\L.g q 0<=6 /\ ∃ j,j<L.rn (L.g q 0-1).toNat/\L.rq (L.g q 0-1).toNat j=L.g q 1
section
variable {L:fA} {N:Nat} {v:EvM}
theorem VI(a:iP v.req){x:Nat->Int}(hx:iP (x 1)):Da v x=true<->oq (pU v)<oq x:=by
 unfold Da oq iP at *;rw[Bool.or_eq_true,S_,P_,P_,P_];show v.o<x 0\/x 0=v.o/\v.req<x 1<->v.o*18446744073709551616+v.req<x 0*18446744073709551616+x 1;omega
theorem LP{a:Nat}{r:Int}(d:fA)(f:d.rn=aI L.rn a (L.rn a+1))(g:d.rq=aI L.rq a (aI (L.rq a) (L.rn a) r)):(∀ b y,(∃ j,j<L.rn b/\L.rq b j=y) -> ∃ j,j<d.rn b/\d.rq b j=y) /\ ∃ j,j<d.rn a/\d.rq a j=r:=by
 rw[f,g];unfold aI;refine⟨fun b y ⟨j,h,e⟩ => ?_,L.rn a,by rw[d_ rfl]; omega,by rw[d_ rfl,d_ rfl]⟩;by_cases c:b=a
 ·subst c;exact⟨j,by rw[d_ rfl]; omega,by rw[d_ rfl,b_ (by omega)]; exact e⟩
 exact⟨j,by rw[b_ c]; exact h,by rw[b_ c]; exact e⟩
attribute [local irreducible] dJ cZ in
theorem NI(h:xH L)(J:bR v=true)(M:gD v)(t:iZ L v=0):xH (mo L v):=by
 have z:=oh J;have m:iP v.req:=M.req;unfold iZ at t;split at t
 ·cases t
 rename_i c1;obtain⟨w,x⟩:=LP (L:=L) (a:=aN v) (r:=v.req) (mo L v) rfl rfl;have K : ∀ j,j<L.gn -> ¬ (L.g j 0=v.o/\L.g j 1=v.req):=fun j f e=>c1 (by
  obtain⟨_,_,q,b,y⟩:=h.ga j f;rw[e.1,e.2]at y;rw[e.1]at b;unfold fA.lH;rw[CJ];exact⟨q,b,f_ y⟩)
 obtain⟨k,u⟩ : ∃ k,k=Fx.down (fun i=>Da v (L.g i)) L.gn:=⟨_,rfl⟩;have l:k<=L.gn:=by rw[u]; exact Fx.vY _ _
 have I : ∀ q,k<=q->q<L.gn->oq (pU v)<oq (L.g q):=fun q D d=>(VI m (h.wf q d).1).1 (Fx.I4 (P:=fun i=>Da v (L.g i)) (n:=L.gn) (i:=q) (by omega) d);have H : ∀ q,q<k->oq (L.g q)<oq (pU v):=fun q D=>by
  obtain⟨j,rfl⟩ : ∃ j,k=j+1:=⟨k-1,by omega⟩;have d:=Fx.I5 (P:=fun i=>Da v (L.g i)) (n:=L.gn) (j:=j) u.symm;have E : ¬ oq (pU v)<oq (L.g j):=fun e=>by
   have:=(VI m (h.wf j (by omega)).1).2 e;rw[this]at d; cases d
  have F:oq (L.g j)<oq (pU v):=by
   rcases Int.lt_trichotomy (oq (L.g j)) (oq (pU v))with c|c|c
   ·exact c
   ·exfalso;have G:=(h.wf j (by omega)).1;refine K j (by omega) ?_;unfold oq at c;have c:L.g j 0*18446744073709551616+L.g j 1=v.o*18446744073709551616+v.req:=c;unfold iP at G m;omega
   ·exact M_ c E
  by_cases e:q=j
  ·rw[e]; exact F
  ·have:=h.up q j (by omega) (by omega); omega
 have p:(mo L v).g=Fx.cu L.g k (pU v):=by rw[u]; rfl
 have s:(mo L v).gn=L.gn+1:=rfl;refine⟨fun i j N f => ?_,fun q b => ?_,fun q b => ?_⟩
 ·rw[s]at f;rw[p]
  rcases dU l (show i<L.gn+1 by omega)with rfl|⟨q,b,eq,q1,q2⟩
  ·rcases dU l f with rfl|⟨r,hr,er,w,x⟩
   ·omega
   rw[dF,er]; exact I r (by omega) hr
  rcases dU l f with rfl|⟨r,hr,er,w,x⟩
  ·rw[dF,eq]; exact H q (by omega)
  rw[eq,er]; exact h.up q r (by omega) hr
 ·rw[s]at b;rw[p]
  rcases dU l b with rfl|⟨r,hr,er,_,_⟩
  ·rw[dF]; exact⟨m,by show iP 0; unfold iP; omega⟩
  rw[er]; exact h.wf r hr
 rw[s]at b;rw[p]
 rcases dU l b with rfl|⟨r,hr,er,_,_⟩
 ·rw[dF]; exact⟨z.1,z.2.1,x⟩
 rw[er];obtain⟨A,B,C⟩:=h.ga r hr;exact⟨A,B,w _ _ C⟩
attribute [local irreducible] dJ cZ in
theorem NJ(h:xH L)(w:bR v=true)(s:gD v)(u:iQ L v=0):xH (kH L v):=by
 obtain⟨t,x⟩:=LP (L:=L) (a:=aN v) (r:=v.req) (kH L v) rfl rfl;have e : ∀ q,(kH L v).g q=if q=yh L v then aI (L.g (yh L v)) 4 v.req else L.g q:=fun q=>rfl;have b : ∀ j p,(p=0\/p=1)->(kH L v).g j p=L.g j p:=fun j p o=>by
  rw[e];by_cases c:j=yh L v
  ·subst c; rw[d_ rfl]; rcases o with rfl|rfl <;> rfl
  ·rw[b_ c]
 refine⟨fun i j m n => ?_,fun q d => ?_,fun q d => ?_⟩
 ·unfold oq;rw[b i 0 (.inl rfl),b i 1 (.inr rfl),b j 0 (.inl rfl),b j 1 (.inr rfl)];exact h.up i j m n
 ·rw[b q 1 (.inr rfl)];refine⟨(h.wf q d).1,?_⟩;rw[e];by_cases c:q=yh L v
  ·rw[d_ c]; exact s.req
  rw[b_ c]; exact(h.wf q d).2
 rw[b q 0 (.inl rfl),b q 1 (.inr rfl)];obtain⟨f,k,l⟩:=h.ga q d;exact⟨f,k,t _ _ l⟩
theorem FV(h:xH L)(e:gD v):xH (dh L v):=by
 unfold dh;by_cases c:bG L v=0
 ·rw[d_ c];have b:=(DL (jh c)).1;have a:dZ L v=0:=by
   unfold bG at c;rw[b_ (by rw[b]; decide)]at c;split at c; · cases c
   split at c; · cases c
   split at c; · cases c
   exact c
  have d:xH (iw L v):=by
   unfold dZ at a;unfold iw;by_cases k1:v.kind=1
   ·rw[d_ k1]; exact⟨h.up,h.wf,h.ga⟩
   rw[b_ k1]at a ⊢;by_cases k2:v.kind=2
   ·rw[d_ k2]; exact⟨h.up,h.wf,h.ga⟩
   rw[b_ k2]at a ⊢;by_cases f:v.kind=3
   ·rw[d_ f]at a ⊢; exact NI h b e a
   rw[b_ f]at a ⊢;by_cases g:v.kind=4
   ·rw[d_ g]at a ⊢; exact NJ h b e a
   rw[b_ g]at a ⊢;by_cases i:v.kind=5
   ·rw[d_ i]; exact⟨h.up,h.wf,h.ga⟩
   rw[b_ i];by_cases j:v.kind=6
   ·rw[d_ j]; exact⟨h.up,h.wf,h.ga⟩
   ·rw[b_ j]; exact⟨h.up,h.wf,h.ga⟩
  exact⟨d.up,d.wf,d.ga⟩
 rw[b_ c]; exact h
theorem LQ(k a:Nat):xH (ku k a).core:=⟨fun i j _ h=>M_ h (z_ _),fun q h=>M_ h (z_ _),fun q h=>M_ h (z_ _)⟩
theorem fT.new(k l d e f c b g:Nat):fT (yB k l d e f c b) (ku k g).core where
 T:=⟨fun q=>⟨fun h=>(nomatch h),fun⟨i,h,_⟩=>M_ h (z_ _)⟩,rfl,fun i h=>M_ h (z_ _)⟩
 inn:=rfl
 left:=rfl
 known:=rfl
 row:=fun i h=>M_ h (z_ _)
 own:=fun a _=>rfl
 gi:=fun i j h=>M_ h (z_ _)
 gn:=rfl
 g1:=fun q h=>M_ h (z_ _)
 g2:=fun q h=>M_ h (z_ _)
 ask:=fun a r _=>⟨fun h=>(nomatch h),fun⟨j,h,_⟩=>M_ h (z_ _)⟩
 ga:=fun i h=>M_ h (z_ _)
 li:=fun i j h=>M_ h (z_ _)
structure StC(L:fA)(m:dN)(l:List Int)(gl:List JH):Prop where
 nn:l.length=L.nn
 gn:gl.length=L.gn
 n : ∀ k,k<L.nn->l.getD k 0=L.id k/\m.T.par (l.getD k 0)=L.par k/\DV m (l.getD k 0)=L.R k
 g : ∀ k,k<L.gn->(gl.getD k g0).x=L.g k
theorem StC.of{m:dN}{l:List Int}{c:List JH}(h:fT m L)(F:Inv0 L N)(u:xH L)(B:l.Pairwise (· < ·) /\ ∀ k,k∈l<->m.T.has k=true)(s:GrS m c):StC L m l c:=by
 have w:l=(List.range L.nn).map L.id:=uU B.1 (by
  rw[List.pairwise_map];exact(List.pairwise_lt_range (n:=L.nn)).imp_of_mem fun {a b} _ hb hab=>F.rise a b hab (O_.1 hb)) fun k=>by
  rw[B.2,h.T.has,List.mem_map];exact⟨fun⟨i,d,e⟩=>⟨i,O_.2 d,e⟩,fun⟨i,d,e⟩=>⟨i,O_.1 d,e⟩⟩
 have y:c.map LD=(List.range L.gn).map fun q=>oq (L.g q):=uU (by rw[List.pairwise_map]; exact s.up) (by
  rw[List.pairwise_map];exact(List.pairwise_lt_range (n:=L.gn)).imp_of_mem fun {a b} _ hb hab=>u.up a b hab (O_.1 hb)) fun k=>by
  rw[List.mem_map,List.mem_map];constructor
  ·rintro ⟨x,v,e⟩;obtain⟨i,d,p⟩:=s.mem x v;obtain⟨q,o,r⟩:=h.g2 i d;refine⟨q,O_.2 o,?_⟩;rw[r,<- p]; exact e
  ·rintro ⟨q,o,e⟩;obtain⟨j,G,C⟩:=h.g1 q (O_.1 o);obtain⟨x,v,E⟩:=s.all j G;refine⟨x,v,?_⟩;rw[<- e,<- C,<- E]; rfl
 have I:c.length=L.gn:=by have:=L_ List.length y; rwa [List.length_map,List.length_map,List.length_range]at this
 refine⟨by rw[w,List.length_map,List.length_range],I,fun k f => ?_,fun k f => ?_⟩
 ·have:l.getD k 0=L.id k:=by
   rw[w,r_,o_ (by rw[List.length_map,List.length_range]; exact f)];simp
  rw[this];exact⟨rfl,h.T.par k f,h.row k f⟩
 have t:k<c.length:=by omega
 have H:c.getD k g0∈c:=by rw[r_,o_ t]; exact Q_ t
 have D:LD (c.getD k g0)=oq (L.g k):=by
  have A:=L_ (fun z=>z.getD k 0) y;simp only[r_,List.getElem?_map,o_ t,List.getElem?_range f]at A;rw[r_,o_ t]; exact A
 obtain⟨i,d,p⟩:=s.mem _ H;obtain⟨q,o,r⟩:=h.g2 i d;have J:oq (L.g q)=oq (L.g k):=by rw[r,<- p,<- D]; rfl
 have:q=k:=by
  rcases Nat.lt_trichotomy q k with h5|h5|h5
  ·have:=u.up q k h5 f; omega
  ·exact h5
  ·have:=u.up k q h5 o; omega
 rw[p,<- r,this]
end
end Rt
end Go.Proofs.YtcbedgfikejkoaaGreatDoor
namespace Go.Proofs.YtcbedgfikejkoaaGreatDoor
open Go.RowKit Go.WideShapes Go.ChangeShapes Go.Deep
theorem QU{w:World}{x:Addr}{v:Value}(h:w.cell? x=some v) : ∃ b a,x=⟨b,a,none⟩:=by
 obtain⟨b,a,c⟩:=x
 cases c with
 | none=>exact⟨b,a,rfl⟩
 | some q =>
   unfold World.cell? at h;simp at h;split at h <;> cases h
def At4(a k1 k2 c:IntKind)(w:World)(b off:Nat)(x0 x1 x2 d:Int):Prop :=
 w.cell? ⟨b,off,none⟩=some (.int a x0)/\w.cell? ⟨b,off+1,none⟩=some (.int k1 x1)/\w.cell? ⟨b,off+2,none⟩=some (.int k2 x2)/\w.cell? ⟨b,off+3,none⟩=some (.int c d)
def Wf4(a k1 k2 b:IntKind)(x0 x1 x2 c:Int):Prop:=(Lit.int a x0).wf=true/\(Lit.int k1 x1).wf=true/\(Lit.int k2 x2).wf=true/\(Lit.int b c).wf=true
def Sl4(g k1 k2 h:IntKind)(w:World)(a:Option Addr)(len:Nat)(c d e f:Nat->Int):Prop :=
 ∀ i,i<len->(∃ b j,a=some ⟨b,j,none⟩/\At4 g k1 k2 h w b (j+i*4) (c i) (d i) (e i) (f i))/\Wf4 g k1 k2 h (c i) (d i) (e i) (f i)
theorem Sl4.up{m k1 k2 n:IntKind}{w w':World}{a:Option Addr}{len:Nat}{g j k l:Nat->Int}(h:Sl4 m k1 k2 n w a len g j k l)(f:Below w.heap.size w w'):Sl4 m k1 k2 n w' a len g j k l:=by
 intro i q;obtain⟨⟨b,d,e,o,r,s,t⟩,hw⟩:=h i q;have c:=block_lt_of_cell o
 dsimp only at c
 exact⟨⟨b,d,e,(f.cell (p:=⟨b,d+i*4,none⟩) c).trans o,(f.cell (p:=⟨b,d+i*4+1,none⟩) c).trans r,(f.cell (p:=⟨b,d+i*4+2,none⟩) c).trans s,(f.cell (p:=⟨b,d+i*4+3,none⟩) c).trans t⟩,hw⟩
instance {g k1 k2 i:IntKind} {w w':World} {a:Option Addr} {len:Nat} {c d e f:Nat->Int}:Rt.Tr w w' (Sl4 g k1 k2 i w a len c d e f) (Sl4 g k1 k2 i w' a len c d e f):=⟨fun b h=>h.up b⟩
def wT(P:Program):Nat->TypeId->Option (List (Option IntKind))
 | 0,_=>none
 | d+1,t=>match P.underlying t with
   | some (.int k)=>some [some k]
   | some .bool=>some [none]
   | some (.array n e)=>(wT P d e).bind fun a=>if P.cellsOf e=a.length/\P.cellsOf t=n*a.length then some (List.replicate n a).flatten else none
   | some (.struct fs)=>(fs.toList.foldlM (fun l f=>(wT P d f.type).bind fun a=>if f.offset=l.length/\P.cellsOf f.type=a.length then some (l++a)else none) []).bind fun l=>if P.cellsOf t=l.length then some l else none
   | _=>none
def LU(k:Option IntKind)(v:Value):Prop:=match k with|some k => ∃ n,v = .int k n/\(Lit.int k n).wf=true|none => ∃ b,v = .bool b
def aar(ks:List (Option IntKind))(cs:List Value):Prop:=cs.length=ks.length /\ ∀(j:Nat) (k:Option IntKind),ks[j]? = some k -> ∃ v,cs[j]? = some v/\LU k v
theorem CK{ks:List (Option IntKind)}{k:Option IntKind} : ∀(n j:Nat),(List.replicate n ks).flatten[j]? = some k->ks[j % ks.length]? = some k/\j / ks.length<n
 | 0,j,h=>by simp at h
 | n+1,j,h=>by
   rw[List.replicate_succ,List.flatten_cons]at h;by_cases b:j<ks.length
   ·rw[List.getElem?_append_left b]at h;rw[Nat.mod_eq_of_lt b,Nat.div_eq_of_lt b]; exact⟨h,by omega⟩
   ·rw[List.getElem?_append_right (by omega)]at h;have c:0<ks.length:=by
     rcases Nat.eq_zero_or_pos ks.length with e|e
     ·obtain⟨a,_⟩:=CK n _ h;have:=(List.getElem?_eq_some_iff.1 a).1; omega
     ·exact e
    obtain⟨a,d⟩:=CK n _ h;rw[Nat.mod_eq_sub_mod (by omega),Nat.div_eq_sub_div c (by omega)];exact⟨a,by omega⟩
section
variable {H:Type} {enc:TypeId × Value->H} {P:Program} {w:World} {base:Nat} {spare:Nat->Bool} {held:Bool}
theorem FW{ks:List (Option IntKind)}{cs:List Value}{o s j:Nat}{k:Option IntKind}(h:aar ks ((cs.drop o).take s))(e:s=ks.length)(b:ks[j]? = some k) : ∃ v,cs[o+j]? = some v/\LU k v:=by
 obtain⟨n,a,c⟩:=h.2 j k b;have d:=(List.getElem?_eq_some_iff.1 b).1;rw[List.getElem?_take_of_lt (by omega),List.getElem?_drop]at a;exact⟨n,a,c⟩
theorem yT : ∀(d:Nat) (t:TypeId) (q:List (Option IntKind)),wT P d t=some q -> ∀(C:Nat) (p:List Value) (x:DataW H × List MemPlace),DataW.trod enc P w base spare held C t p=some x->aar q p
 | 0,_,_,h=>by simp[wT]at h
 | d+1,t,q,h=>by
   intro C p x z;unfold wT at h;split at h
   ·rename_i k hu;simp only[Option.some.injEq]at h; subst h;obtain⟨n,rfl,_,U⟩:=DataW.trod_int hu z;refine⟨rfl,fun j W a => ?_⟩
    match j,a with
    | 0,a=>simp at a; subst a; exact⟨_,rfl,n,rfl,U⟩
    | j+1,a=>simp at a
   ·rename_i hu;simp only[Option.some.injEq]at h; subst h;obtain⟨b,rfl,_⟩:=DataW.trod_bool hu z;refine⟨rfl,fun j W a => ?_⟩
    match j,a with
    | 0,a=>simp at a; subst a; exact⟨_,rfl,b,rfl⟩
    | j+1,a=>simp at a
   ·rename_i n e hu;obtain⟨I,S,h⟩:=Option.bind_eq_some_iff.1 h;split at h
    ·rename_i hc;simp only[Option.some.injEq]at h; subst h;obtain⟨Y,m,_,_,c,F,J⟩:=DataW.trod_array hu z;refine⟨by rw[c,hc.2]; simp,fun j k a => ?_⟩;obtain⟨r,A⟩:=CK n j a;have u:=J (j / I.length) A;rw[o_ (by omega),hc.1]at u;have:=FW (yT d e I S _ _ _ u) rfl r;rw[Nat.mul_comm,Nat.div_add_mod]at this;exact this
    ·cases h
   ·rename_i fs hu;obtain⟨l,c,h⟩:=Option.bind_eq_some_iff.1 h;split at h
    ·rename_i hc;simp only[Option.some.injEq]at h; subst h;obtain⟨Y,m,_,_,T,F,K⟩:=DataW.trod_struct hu z;refine⟨by rw[T,hc],?_⟩;have M : ∀ f,f∈fs.toList -> ∃ y,DataW.trod enc P w base spare held m f.type ((p.drop f.offset).take (P.cellsOf f.type))=some y:=by
      intro f N;obtain⟨i,u,e⟩:=List.mem_iff_getElem.1 N;have E:i<fs.size:=(by simpa using u);have r:fs[i]? = some f:=(by rw[Array.getElem?_eq_getElem E]; simpa using e);have:=K i f r;rw[o_ (by rw[F]; exact E)]at this;exact⟨_,this⟩
     have X : ∀(L:List Field) (o:List (Option IntKind)),(∀ f,f∈L -> ∃ y,DataW.trod enc P w base spare held m f.type ((p.drop f.offset).take (P.cellsOf f.type))=some y)->(∀(j:Nat) (k:Option IntKind),o[j]? = some k -> ∃ v,p[j]? = some v/\LU k v) -> ∀ l,L.foldlM (fun l f=>(wT P d f.type).bind fun q=>if f.offset=l.length/\P.cellsOf f.type=q.length then some (l++q)else none) o=some l -> ∀(j:Nat) (k:Option IntKind),l[j]? = some k -> ∃ v,p[j]? = some v/\LU k v:=by
      intro L
      induction L with
      | nil=>intro o _ B l c; simp at c; subst c; exact B
      | cons f L ih =>
        intro o D B l c;rw[List.foldlM_cons]at c;obtain⟨Z,r,A⟩:=Option.bind_eq_some_iff.1 c;obtain⟨G,R,s⟩:=Option.bind_eq_some_iff.1 r;split at s
        ·rename_i hcc;simp only[Option.some.injEq]at s; subst s;refine ih (o++G) (fun g O=>D g (List.mem_cons_of_mem _ O)) (fun j k a => ?_) l A;by_cases Q:j<o.length
         ·rw[List.getElem?_append_left Q]at a; exact B j k a
         ·rw[List.getElem?_append_right (by omega)]at a;obtain⟨y,V⟩:=D f (List.mem_cons_self ..);have:=FW (yT d f.type G R _ _ _ V) hcc.2 a;rw[hcc.1,show o.length+(j-o.length)=j by omega]at this;exact this
        ·cases s
     exact X fs.toList [] M (fun j k a=>by simp at a) l c
    ·cases h
   ·cases h
end
section
variable {H:Type} {enc:TypeId × Value->H} {P:Program} {w:World} {base:Nat} {spare:Nat->Bool} {held:Bool}
theorem QV{t e:TypeId}{ks:List (Option IntKind)}{fuel D:Nat}{cs:List Value}{x:DataW H × List MemPlace}(S:P.underlying t=some (.slice e))(O:wT P D e=some ks)(F:P.cellsOf e=ks.length)(C:0<ks.length)
 (h:DataW.trod enc P w base spare held fuel t cs=some x) : ∃ a c l,cs = [.slice a c l]/\c<=maxLen/\c<=l /\ ∃ X:Nat->Nat->Value,(∀ i,i<c -> ∀(j:Nat) (k:Option IntKind),ks[j]? = some k->LU k (X i j))/\Fx.ny w a c ks.length (Fx.flat ks.length X):=by
 rcases open_slice S h with ⟨rfl,_⟩|⟨a',c,l,m,n,D',Pl,rfl,_,hl,hm,hmm,_,hx⟩
 ·exact⟨none,0,0,rfl,by unfold maxLen; omega,A_ _,fun _ _=>undef,fun i d=>M_ d (by omega),fun h=>M_ h (by omega)⟩
 have W:c<=m:=by rw[hmm]; split <;> omega
 have r : ∀ i j:Nat,∃ q:Value,i<c -> ∀ k,ks[j]? = some k->w.cell? (a'.add (i*ks.length+j))=some q/\LU k q:=by
  intro i j;by_cases d:i<c/\j<ks.length
  ·obtain⟨U,A,J⟩:=hx i (by omega);rw[F]at A;obtain⟨_,V,M⟩:=World.cells?_some A;obtain⟨q,y,z⟩:=(yT _ _ _ O _ _ _ J).2 j _ (o_ d.2);refine⟨q,fun _ k v => ?_⟩;rw[o_ d.2,Option.some.injEq]at v;subst v;have E:=M j (by omega);rw[add_add]at E;exact⟨by rw[<- y]; simpa using E,z⟩
  ·refine⟨undef,fun y k z=>M_ ⟨y,(List.getElem?_eq_some_iff.1 z).1⟩ d⟩
 refine⟨some a',c,l,rfl,by omega,hl,fun i j=>Classical.choose (r i j),fun i d j k v=>(Classical.choose_spec (r i j) d k v).2,fun K => ?_⟩;have G:a'.add (0*ks.length+0)=a':=by unfold Addr.add; simp
 obtain⟨Z,L⟩:=r 0 0;have Q:=o_ C;have B:=(L K _ Q);have g:=B.1;rw[G]at g;have o : ∃ b f,a'=⟨b,f,none⟩:=by
  have u:=B.2;unfold LU at u;split at u
  ·obtain⟨Y,rfl,_⟩:=u; exact QU g
  ·obtain⟨T,rfl⟩:=u;unfold World.cell? at g
   cases a' with
   | mk b f sp =>
     cases sp with
     | none=>exact⟨b,f,rfl⟩
     | some s=>simp at g; split at g <;> simp_all
 obtain⟨b,f,o⟩:=o;refine⟨b,f,by rw[o],fun p R => ?_⟩;have N:p % ks.length<ks.length:=J_ _ C;have d:p / ks.length<c:=Nat.div_lt_of_lt_mul (by rw[Nat.mul_comm]; exact R);have:=(Classical.choose_spec (r (p / ks.length) (p % ks.length)) d _ (o_ N)).1;have I:a'.add (p / ks.length*ks.length+p % ks.length)=⟨b,f+p,none⟩:=by rw[o,addr_add,Nat.mul_comm,Nat.div_add_mod]
 exact(L_ w.cell? I).symm.trans this
end
def numOf:Value->Int | .int _ n=>n|_=>0
theorem LU.num{k:IntKind}{v:Value}(h:LU (some k) v):v = .int k (numOf v)/\(Lit.int k (numOf v)).wf=true:=by
 obtain⟨n,rfl,a⟩:=h; exact⟨rfl,a⟩
theorem ahK{n:Int}(h:(Lit.int .u8 n).wf=true):0<=n/\n<=255:=by simp[Lit.wf,IntKind.min,IntKind.max,IntKind.bits,IntKind.signed]at h; omega
theorem aee{n:Int}(h:(Lit.int .u64 n).wf=true):0<=n/\n<18446744073709551616:=by simp[Lit.wf,IntKind.min,IntKind.max,IntKind.bits,IntKind.signed]at h; omega
theorem VJ{n:Int}(h:(Lit.int .i64 n).wf=true) : -9223372036854775808<=n/\n<=9223372036854775807:=by simp[Lit.wf,IntKind.min,IntKind.max,IntKind.bits,IntKind.signed]at h; omega
section
variable {H:Type} {enc:TypeId × Value->H} {P:Program} {w:World}
theorem ny.uT{w:World}{a:Option Addr}{n s:Nat}{x y:Nat->Value}(h:Fx.ny w a n s x)(e : ∀ p,p<n*s->x p=y p):Fx.ny w a n s y:=fun f=>by
 obtain⟨b,j,d,g⟩:=h f;exact⟨b,j,d,fun i c=>by rw[<- e i c]; exact g i c⟩
end
end Go.Proofs.YtcbedgfikejkoaaGreatDoor
