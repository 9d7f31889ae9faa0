/-
  What the proof of the law rests on, part 6: walks of functions, and plain laws; each says its conditions itself.
-/
import Derived.Shelf.SlSortCmp.NoneTotal
import Derived.Shelf.SlSortCmp.WholeK
import Derived.Lib.SliceRun
import Derived.Ground.SlsfProg
import Derived.Test.YtcbedgfikejkoaaGreatDoorProg
import Derived.Deep.Slices
import Derived.Lib.SmallJoins
import Derived.ChangeArms
import Derived.Test.YtcbedgfikejkoaaGreatDoorZC5
set_option maxRecDepth 20000
set_option linter.unusedVariables false
set_option maxHeartbeats 1600000
set_option linter.unusedSimpArgs false
namespace Go.Proofs.YtcbedgfikejkoaaGreatDoor
open Go.RowKit Rt
open Fx (aZ Lv sN Ln Ws Rp Wr Sb Wk rC sR Rs Rn Rk He fQ vw rv aA aP aQ ev Stp aN Mp jd jR cells_one)
namespace Rt
def oq(v:EvM):Int:=1099511627776*v.o+v.seq
def jy(m:dQ)(v:EvM):Int:=if 5<=m.own (aO v)\/140737488355328<v.aT then 6 else m.T.err (oq v) v.node
def DR(m:dQ)(v:EvM):dQ := { m with T:=m.T.put (oq v) v.node,R:=aQ m.R m.T.n (upd (fun _=>0) (aO v) v.aT),own:=aI m.own (aO v) (m.own (aO v)+1) }
theorem Wm{T:dS}{pa:Int}{id:Int}{w:World}{b n:Nat}{x:Nat->Int}(h:Mp w b n x (aQ (Ej T) T.n (aC pa))):Mp w b n x (Ej (T.put id pa)):=h.um fun i _=>⟨rfl,by show aQ (Ej T) T.n _ i=aC (aQ T.p T.n pa i); unfold aQ Ej; split <;> rfl⟩
theorem Zv{R:Nat->Nat->Int}{j n b:Nat}{r:Nat->Int}{x:Nat->Int}{w:World}(h:Mp w b n x (aQ (xD R) j (.agg (aA 54 (rv .i64 r))))):Mp w b n x (xD (aQ R j r)):=EI _ _ _ _ h
end Rt
theorem aiG(o q:Int)(w:World)(b:1<=o/\o<=6)(c:1<=q/\q<1099511627776):Calls Tryz.prog 214 #[au o,aC q] w fun e a=>e = .returned (aC (1099511627776*o+q))/\a=w:=by
 have h:=apy o.toNat q.toNat w (by omega) (by omega);rw[show((o.toNat:Nat):Int)=o by omega,show((q.toNat:Nat):Int)=q by omega]at h;exact h
theorem Wn(m:dQ)(b B:Nat)(w:World)(h:mG w B b m)(v:EvM)(hv:bR v=true)(J:m.T.err (oq v) v.node=0)(a:Nat)(ha:a<6)(hra:aO v=a)(hob:0<=m.own a/\m.own a<=1000)(hid:0<=oq v/\oq v<=18446744073709551615)(I:Nat)(G:Nat)(l:Nat)(H:Nat)(S:aP w I 1 (fun _=>(pt b)) 28)(hi:aP w G 1 (fun _=>aC (oq v)) 23)(P:aP w l 14 (bJ v) 37)(Q:aP w H 1 (fun _=>au (a:Int)) 3) :
 Calls Tryz.prog 216 #[(pt I),(pt G),(pt l),(pt H)] w fun e w'=>e = .returned (.tuple #[])/\mG w' B b (DR m v)/\jR (F7 m b) w w':=by
 have hC:=h.c;have hT:=h.t;have hP:=h.p;have hR:=h.r;have hG:=h.g;have hA:=h.a;have d:=h.ne;have lC:=h.c.lt;have lT:=h.t.lt;have lP:=h.p.lt;have lR:=h.r.lt;have lG:=h.g.lt;have lA:=h.a.lt;have lgl:=S.lt;have lgi:=hi.lt;have lge:=P.lt;have lgk:=Q.lt;have U : ∀ i,i<m.T.n->m.T.x i≠oq v:=fun i hi e=>by have:=(Fa J).2.1; rw[jW hi e]at this; cases this
 refine Kent Tryz.func216 42 ?_;refine Ws ?_;refine ko [5,0,1,2,3,4,6,7] [4,0,0,4,4,0,4,3] [(7,0,[3,2,1,0]),(7,3,[3]),(7,4,[4]),(7,6,[6])] fun qC K iE => ?_;have s1:Stp w.heap.size w qC:=Sb K;have⟨W,m2,m3,m4,m5,m6,m7,m8,m9,m10⟩:=vH K hC hT hP hR hG hA S hi P Q;have b1:=(vw (F7 m b) w).then s1 (.inr (vw (F7 m b) w).size);refine aX (pf l 9)<|Rs (pt b) (aL m7.aH 0) ?_;refine aX (pt b)<|aX (pf b 18)<|Rs (pt m.tp) (aL W.aH 18) ?_;refine Rs (aC (oq v)) (aL m8.aH 0) ?_;refine Rs (aC v.node) (aL m9.aH 9) ?_;refine ig<|dU (Lb (oq v) v.node m2 hid) _ rfl ?_;rintro y ⟨m11,s2⟩;have j:=m2.Cm s2;have m12:=W.eG j;have m13:=m3.eG j (Ne.symm d.mp);have m14:=m4.eG j (Ne.symm d.mr);have m15:=m5.eG j (Ne.symm d.mg);have m16:=m6.eG j (Ne.symm d.ma);have m17:=m7.eG j;have m18:=m8.eG j;have m19:=m9.eG j;have m20:=m10.eG j;have C:=b1.then s2 (.inl (.inr (.inl rfl)));have m21:tC y B m.tp m.mb (m.T.put (oq v) v.node):=by rw[<- dS.EJ J]; exact m11
 refine Ln<|bQ<|Ws ?_;refine ko [5,0,1,2,3,4,6,7] [4,0,0,4,4,0,4,3] [(7,0,[0]),(7,3,[3]),(7,4,[4]),(7,6,[6])] fun Cr M nU => ?_;have s3:Stp y.heap.size y Cr:=Sb M;have⟨m22,m23,m24,mM,mU,oo,ou,nG,nk,lI⟩:=vH M m12 m13 m14 m15 m16 m17 m18 m19 m20 m21;have b3:=C.then s3 (.inr C.size);refine aX (pf l 9)<|Rs (pt b) (aL oo.aH 0) ?_;refine aX (pt b)<|aX (pf b 19)<|Rs (.map (some m.pb)) (aL m22.aH 19) ?_;refine Rs (aC (oq v)) (aL ou.aH 0) ?_;refine Rs (aC v.node) (aL nG.aH 9) ?_;refine ig<|Fx.L.QF (by rfl) rfl rfl rfl rfl rfl m23 Tryz.underlying108 Tryz.underlying23 U fun z m32 s4 z1 => ?_;have k:=m23.Cm s4;have oU:=m22.eG k;have nH:=m24.eG k (Ne.symm d.pr);have nR:=mM.eG k (Ne.symm d.pg);have mO:=mU.eG k (Ne.symm d.pa);have qy:=oo.eG k;have pX:=ou.eG k;have pY:=nG.eG k;have tZ:=nk.eG k;have mP:=lI.eG k (d.mp);have D:=b3.then s4 (.inl (.inr (.inr (.inl rfl))));have mQ:Mp z m.pb ((m.T.put (oq v) v.node).n) ((m.T.put (oq v) v.node).x) (Ej (m.T.put (oq v) v.node)):=Wm m32;refine Ln<|bQ<|Ws ?_;refine ko [0,2,3,7,8,1,4,5,6,9,10] [4,4,0,0,0,4,0,0,0,0,3] [(10,0,[0]),(10,1,[1]),(10,5,[5])] fun R9 N Bv => ?_;have s5:Stp z.heap.size z R9:=Sb N;have⟨s,pI,qb,oV,sG,uQ,sH,qD,sI,uR⟩:=vH N oU nH nR mO qy pX pY tZ mP mQ;have b5:=D.then s5 (.inr D.size);refine Rs (pt b) (aL sG.aH 0) ?_;refine aX (pt b)<|aX (pf b 21)<|aX (pt b)<|aX (pf b 21)<|Rs (au a) (aL qD.aH 0) ?_;refine Rp (pf b (a+21)) (fun _=>jV 6 1)<|Rs (au (m.own a)) (aL s.aH (a+21) (J2 (p:=a) (by omega) (by omega))) ?_;refine Rp (au ((m.own a)+1)) (fun _=>fH)<|Rp (pf b (a+21)) (fun _=>jV 6 1)<|ig<|jv s (a+21) (au ((m.own a)+1)) fun w3 sJ s6 z2 => ?_;have uS:aP w3 b 29 (vV { m with own:=aI m.own a (m.own a+1) }) 114:=sJ.to (Zi ha (by omega) _);have fO:=fQ s6 s.ty;have⟨wo,uf,sK,ug,wS,rz,uo,pJ,uh⟩:=aco fO pI qb oV sG uQ sH qD sI uR;have q:=b5.then s6 (.inl (.inl rfl));refine Ln<|bQ<|ay<|av (.agg (aA 54 (rv .i64 (fun _=>0))))<|oC 54 (rv .i64 (fun _=>0)) fun o w4 F u s7 z3 => ?_;have⟨wT,wu,uT,yh,sM,wz,uH,wB,wC,Ah⟩:=vH s7.old wo uf sK ug wS rz uo pJ uh uS;have b7:=q.then s7 (.inr q.size);have V:=iw F q.size;have⟨apM,apN,apO,apP,apQ,apR,apS,apT,apU⟩:=Yk F wo.lt uf.lt sK.lt ug.lt wS.lt rz.lt uo.lt uh.lt uS.lt;have sF:=u.lt;refine dG u 0 fun w5 wD s8 z4 => ?_;have zR:aP w5 o 54 (rv .i64 (fun _=>0)) 82:=aN wD;have jJ:=fQ s8 u.ty;have⟨yJ,zw,xQ,wU,wV,yK,Ar,yL,BA,Bf⟩:=O4 jJ wT wu uT yh sM wz uH wB wC Ah;have b8:=b7.then s8 (.inr V);refine aD<|ay<|Lv (au a) (aL Ar.aH 0)<|av (pf l 11)<|Lv (au v.aT) (aL yK.aH 11)<|av (pt o)<|Lv (pf o a) (jV 6 1)<|jv zR a (au v.aT) fun A Bg s9 z5 => ?_;have Au:aP A o 54 (rv .i64 (upd (fun _=>0) a v.aT)) 82:=Bg.to (Fx.zh _ _ _ _);have nQ:=fQ s9 zR.ty;have⟨Av,BD,Fp,Eh,CB,Dz,AB,GJ,EA,GL⟩:=O4 nQ yJ zw xQ wU wV yK Ar yL BA Bf;have E:=b8.then s9 (.inr V);refine aD ?_;refine ko [0,1,2,3,4,5,6] [4,0,0,4,4,4,3] [(6,0,[0]),(6,3,[3]),(6,4,[4]),(6,5,[5])] fun wt4 O Ig => ?_;have s10:Stp A.heap.size A wt4:=Sb O;have⟨GZ,xu,yO,X,Y,qG,qj,rE,qH,Z,aa⟩:=EZ O Av BD Fp Eh CB Dz AB GJ EA GL Au;have b10:=E.then s10 (.inr E.size);refine Rs (pt b) (aL X.aH 0) ?_;refine aX (pt b)<|aX (pf b 20)<|Rs (.map (some m.rb)) (aL Z.aH 20) ?_;refine Rs (aC (oq v)) (aL Y.aH 0) ?_;refine Rs (.agg (aA 54 (rv .i64 (upd (fun _=>0) a v.aT)))) (eT aa.aH 0) ?_;refine ig<|Fx.L.QF (by rfl) rfl rfl rfl rfl rfl GZ Tryz.underlying109 Tryz.underlying23 U fun w7 vO s11 z6 => ?_;have f:=GZ.Cm s11;have rZ:=xu.eG f (Ne.symm d.rg);have uV:=yO.eG f (Ne.symm d.ra);have zS:=X.eG f;have vP:=Y.eG f;have zT:=qG.eG f;have CF:=qj.eG f;have yj:=rE.eG f (d.mr);have uW:=qH.eG f (d.pr);have rF:=Z.eG f;have yP:=aa.eG f;have b11:=b10.then s11 (.inl (.inr (.inr (.inr (.inl rfl)))));have yQ:Mp w7 m.rb ((m.T.put (oq v) v.node).n) ((m.T.put (oq v) v.node).x) (xD (aQ m.R m.T.n (upd (fun _=>0) a v.aT))):=Zv vO;refine Ln (Rn (⟨.tuple #[],jd Tryz.results216,?_⟩));unfold DR; rw[hra];exact⟨rfl,{ c:=rF,t:=yj,p:=uW,r:=yQ,g:=rZ,a:=uV,ne:=⟨d.mp,d.mr,d.mg,d.ma,d.pr,d.pg,d.pa,d.rg,d.ra,d.ga⟩,lB:=h.lB,pB:=h.pB,rB:=h.rB,gB:=h.gB,aB:=h.aB },b11⟩
theorem Zw(m:dQ)(j B:Nat)(w:World)(h:mG w B j m)(v:EvM)(L:bR v=true)(ab : ∀ a,a<6->0<=m.own a/\m.own a<=1000) :
 Calls Tryz.prog 207 #[(pt j),.agg (aA 14 (bJ v))] w fun e w'=>Si w B j m (DR m v) (jy m v) e w':=by
 have Z:=h.c;have hT:=h.t;have hP:=h.p;have hR:=h.r;have hG:=h.g;have hA:=h.a;have hN:=h.ne;have lC:=h.c.lt;have lT:=h.t.lt;have lP:=h.p.lt;have lR:=h.r.lt;have lG:=h.g.lt;have lA:=h.a.lt;obtain⟨a,J,ho⟩ : ∃ a:Nat,a<6/\v.o=(a:Int)+1:=fq (jk L);have z:aO v=a:=by unfold aO; omega
 have hbd:=oJ L;have aa:0<=oq v/\oq v<=18446744073709551615:=by unfold oq; omega
 have hoa:=ab a J;refine Kent Tryz.func207 38 ?_;refine ay<|xY (pt j) fun n w1 X M s1 z1 => ?_;have⟨m2,U⟩:=fC s1.old Z (Below.refl w.heap.size w);have qZ:=gI X;have mJ:=cu X Z.lt;have sF:=M.lt;refine om fun b w2 Y l s2 z2 => ?_;have⟨P,Q,H⟩:=gL s2.old m2 M U;have pK:=iw Y U.size;have⟨aip,Fz⟩:=oQ Y m2.lt M.lt;have xR:=l.lt;refine av (.nilFunc)<|av (au 0)<|aD<|Ws ?_;refine He (T1:=23) (T2:=3) (T1':=23) (T2':=3) (a1 := .tmp 6) (v1 := .tmp 13) (a2 := .tmp 7) (v2 := .tmp 16) (m1:=1) (m2:=1) (z1:=rv .u64 (fun _=>0)) (y1:=fun _=>aC (oq v)) (z2:=rv .i64 (fun _=>0)) (y2:=fun _=>au (a:Int)) (u1:=aC (oq v)) (u2:=au (a:Int)) 8 9 10 11 [[],[],[],[],[],[],[],[],[],[],[(0,[8]),(1,[9])],[(0,[8]),(1,[9]),(2,[10])]] [[(2,[0]),(3,[0])],[(2,[1]),(3,[1])],[(2,[2]),(3,[2])],[(2,[3]),(3,[3])],[(2,[4]),(3,[4])],[(3,[5])],[(3,[6])],[(3,[7])],[(2,[8]),(3,[8])],[(2,[9]),(3,[9])],[(3,[10])],[]] #[(pt b),au v.o,(pf b 1),aC v.seq,aC (oq v),(pt b),au v.o,au (a:Int),undef,undef,undef,undef] (by kernel_rfl) (by kernel_rfl) (by kernel_rfl) (by kernel_rfl) (by kernel_rfl) (by kernel_rfl) (by kernel_rfl) (by kernel_rfl) (by kernel_rfl) (by kernel_rfl) rfl rfl (by kernel_rfl) (by kernel_rfl) rfl rfl rfl rfl (by kernel_rfl) (by kernel_rfl) (fun d f=>(show ev _ (.tmp 6)=(pt d)from by kernel_rfl)) (fun d f=>(show ev _ (.tmp 7)=(pt f)from by kernel_rfl)) (fun d f=>(show ev _ (.tmp 13)=aC (oq v)from by kernel_rfl)) (fun d f=>(show ev _ (.tmp 16)=au (a:Int)from by kernel_rfl)) (cells_one (by rfl)) (cells_one (by rfl)) (fun _ _=>rfl) (fun _ _=>rfl) (fun d f => ?_) ?_
 ·refine⟨?_,?_,?_,?_,?_,?_,?_,?_,?_,?_,?_,?_,trivial⟩
  ·exact .inr mI
  ·exact .inr (oP (au v.o) fun D q=>aZ (x:=bJ v) rfl (show ev _ (.tmp 9)=(pt b)from by kernel_rfl) (by kernel_rfl) (l.aH.below q (by have:=l.lt; omega)) (i:=0) (by omega) (by omega) rfl)
  ·exact .inr mI
  ·exact .inr (oP (aC v.seq) fun D q=>aZ (x:=bJ v) rfl (show ev _ (.tmp 11)=(pf b 1)from by kernel_rfl) (by kernel_rfl) (l.aH.below q (by have:=l.lt; omega)) (i:=1) (by omega) (by omega) rfl)
  ·exact .inr (Fx.Jl (v:=aC (oq v)) (by kernel_rfl) (by kernel_rfl) (Fx.qbC (fun D q=>rC (args := [au v.o,aC v.seq]) rfl (Fx.args2 (show ev _ (.tmp 10)=au v.o from by kernel_rfl) (show ev _ (.tmp 12)=aC v.seq from by kernel_rfl)) Tryz.func214 rfl rfl) (fun D q=>(aiG v.o v.seq _ (by omega) (by omega)).mono fun e v2 h=>⟨h.1,(by rw[h.2]; exact Below.refl _ _)⟩)))
  ·exact .inr mI
  ·exact .inr (oP (au v.o) fun D q=>aZ (x:=bJ v) rfl (show ev _ (.tmp 14)=(pt b)from by kernel_rfl) (by kernel_rfl) (l.aH.below q (by have:=l.lt; omega)) (i:=0) (by omega) (by omega) rfl)
  ·exact .inr (oP (au a) fun D q=>Fx.Sw rfl (show ev _ (.tmp 15)=au v.o from by kernel_rfl) (show ev _ (.const (au 1))=au 1 from by kernel_rfl) Fx.io)
  ·exact .inl rfl
  ·exact .inl rfl
  ·exact .inl rfl
  exact .inl rfl
 rintro d f w3 G y A C ne1 m6 m7 hb1;have aiH:j≠d:=u_ (n_ (P.lt) A);have Uu:n≠d:=u_ (n_ (Q.lt) A);have atW:b≠d:=u_ (n_ (l.lt) A);have atX:j≠f:=u_ (n_ (P.lt) C);have atY:n≠f:=u_ (n_ (Q.lt) C);have atZ:b≠f:=u_ (n_ (l.lt) C);have⟨m8,m9,m10,b3⟩:=jw hb1 P Q l H;have A:w.heap.size<=d:=m_ H.size A;have Ed:=m6.lt;have C:w.heap.size<=f:=m_ H.size C;have NS:=m7.lt;have R:G 2=(pt n):=by rw[y]; kernel_rfl
 have S:G 3=(pt b):=by rw[y]; kernel_rfl
 have q5:G 6=(pt d):=by rw[y]; kernel_rfl
 have q6:G 7=(pt f):=by rw[y]; kernel_rfl
 clear y;refine sN<|Ws<|Ws ?_;refine ko [0,2,3,1,4,5,6,7,8,9,10,11] [4,4,0,0,0,4,0,0,0,4,0,0] [] fun qC dN iE => ?_;have⟨m11,N,O,ac,ad,E⟩:=qY dN m8 m9 m10 m6 m7 b3;refine Rs (pt j) (aL N.aH 0 (ha:=R)) ?_;refine aX (pt j)<|aX (pf j 21)<|Rs (au a) (aL ad.aH 0 (ha:=q6)) ?_;refine Rp (pf j (a+21)) (fun _=>jV 6 1)<|Rs (au (m.own a)) (aL m11.aH (a+21) (J2 (p:=a) (by omega) (by omega))) ?_;by_cases V:5<=(m.own a)
 ·refine Rp aG (fun _=>lH V)<|aX aG<|Rk (by rfl)<|Rk (by rfl)<|Rk (by rfl)<|aX aG<|bQ<|aM<|ay<|av (.nilFunc)<|av (au 6)<|aD<|Wr<|sR<|aJ (.tuple #[.nilFunc,au 6]) ?_;have k:jy m v=6:=by unfold jy; rw[z]; exact d_ (.inl (by omega))
  exact⟨⟨.nilFunc,0,#[],by rw[k],rfl,fun u=>M_ (k.symm.trans u) (by first|decide|omega|assumption)⟩,E⟩
 refine Rp aF (fun _=>kR V)<|aX aF<|Rp (pf b 11) (fun _=>gP S 11)<|Rs (au v.aT) (aL O.aH 11) ?_;by_cases W:140737488355328<v.aT
 ·refine Rp aG (fun _=>mo W)<|aX aG<|bQ<|aM<|ay<|av (.nilFunc)<|av (au 6)<|aD<|Wr<|sR<|aJ (.tuple #[.nilFunc,au 6]) ?_;have k:jy m v=6:=by unfold jy; rw[z]; exact d_ (.inr (by omega))
  exact⟨⟨.nilFunc,0,#[],by rw[k],rfl,fun u=>M_ (k.symm.trans u) (by first|decide|omega|assumption)⟩,E⟩
 refine Rp aF (fun _=>mD W)<|aX aF<|bQ<|aK<|Wk<|sN<|Ws<|ay<|Lv (pt j) (aL N.aH 0 (ha:=R))<|Lv (aC (oq v)) (aL ac.aH 0 (ha:=q5))<|Lv (pf b 9) (gP S 9)<|Lv (aC v.node) (aL O.aH 9)<|dU (aeH m j B _ (h.up E) (oq v) v.node aa) _ rfl ?_;intro w4 s;have⟨ae,af,ag,m20,I⟩:=lJ s N O ac ad E;refine av (au (m.T.err (oq v) v.node))<|aD<|ay<|av (au (m.T.err (oq v) v.node)) ?_;by_cases F:(m.T.err (oq v) v.node)=0
 ·refine Lv aF (iN F)<|aD<|aK<|Wk<|sN<|ay<|Lv (.func (.func 216) #[] #[(pt n),(pt d),(pt b),(pt f)]) (Fx.mR (us := []) (vs := [(pt n),(pt d),(pt b),(pt f)]) rfl rfl (Fx.Sr R q5 S q6))<|av (.func (.func 216) #[] #[(pt n),(pt d),(pt b),(pt f)])<|av (au 0)<|aD<|Wr<|aJ (.tuple #[.func (.func 216) #[] #[(pt n),(pt d),(pt b),(pt f)],au 0]) ?_;have k:jy m v=0:=by unfold jy; rw[z,b_ (by omega)]; exact F
  exact⟨⟨_,216,#[(pt n),(pt d),(pt b),(pt f)],by rw[k],rfl,fun _=>⟨rfl,⟨_,_,Tryz.func216,rfl,rfl⟩,fun w2 s=>(Wn m j B w2 ((h.up I).up s) v L F a J z (ab a J) aa _ _ _ _ (ae.bW (Sb s) (u_ ae.lt)) (ag.bW (Sb s) (u_ ag.lt)) (af.bW (Sb s) (u_ af.lt)) (m20.bW (Sb s) (u_ m20.lt))).mono fun _ _ K=>⟨K.1,K.2.1,K.2.2.mono fun _ hk => .inl hk⟩⟩⟩,I⟩
 refine Lv aG (jZ F)<|aD<|aM<|ay<|av (au (m.T.err (oq v) v.node))<|av (.nilFunc)<|av (au (m.T.err (oq v) v.node))<|aD<|Wr<|sR<|aJ (.tuple #[.nilFunc,au (m.T.err (oq v) v.node)]) ?_;have k:jy m v=m.T.err (oq v) v.node:=by unfold jy; rw[z,b_ (by omega)]
 exact⟨⟨.nilFunc,0,#[],by rw[k],rfl,fun u=>M_ (k.symm.trans u) (by first|decide|omega|assumption)⟩,I⟩
end Go.Proofs.YtcbedgfikejkoaaGreatDoor
namespace Go.Proofs.YtcbedgfikejkoaaGreatDoor
open Go.RowKit Go
namespace Rt
section
variable {x p:Nat->Int} {n d e:Nat} {k v:Int}
theorem Kc : ∀ {d:Nat} {v:Int},jM x p n d v -> ∀ k,k∈jO x p n d v->(jO x p n d k).length<=(jO x p n d v).length
 | 0,v,h,k,hk=>by cases hk
 | d+1,v,h,k,hk=>by
   cases hv:dZ x n v with
   | false=>rw[lK hv]at hk; cases hk
   | true =>
     have e:jO x p n (d+1) v=v::jO x p n d (iO x p n v):=(by show(if _ then _ else _)=_; rw[d_ hv]);have a:jM x p n d (iO x p n v):=h hv;rw[e]at hk
     rcases List.mem_cons.1 hk with rfl|hk
     ·exact A_ _
     ·have b:=Kc a k hk;have c:jM x p n d k:=by
       refine Bu (d:=d) ?_ (m_ b zu);exact Gd a k hk
      have f:=(Jy c (Nat.le_succ d)).1;rw[f,e,List.length_cons]; omega
where Gd : ∀ {d:Nat} {v:Int},jM x p n d v -> ∀ k,k∈jO x p n d v->jM x p n d k
 | 0,v,h,k,hk=>by cases hk
 | d+1,v,h,k,hk=>by
   cases hv:dZ x n v with
   | false=>rw[lK hv]at hk; cases hk
   | true =>
     have e:jO x p n (d+1) v=v::jO x p n d (iO x p n v):=(by show(if _ then _ else _)=_; rw[d_ hv]);have hs:jM x p n d (iO x p n v):=h hv;rw[e]at hk
     rcases List.mem_cons.1 hk with rfl|hk
     ·exact h
     ·exact(Jy (Gd hs k hk) (Nat.le_succ d)).2
theorem IX : ∀ {d:Nat} {v:Int},jM x p n d v->(jO x p n d v).Nodup
 | 0,v,h=>List.nodup_nil
 | d+1,v,h=>by
   cases hv:dZ x n v with
   | false=>rw[lK hv]; exact List.nodup_nil
   | true =>
     have e:jO x p n (d+1) v=v::jO x p n d (iO x p n v):=(by show(if _ then _ else _)=_; rw[d_ hv]);have a:jM x p n d (iO x p n v):=h hv;rw[e,List.nodup_cons];refine⟨fun c => ?_,IX a⟩;have f:=Kc a v c;have b:=(Jy (Kc.Gd a v c) (Nat.le_succ d)).1;rw[e]at b;rw[<- b,List.length_cons]at f;omega
end
section
variable {T:dS} {l:List Int} {k:Int}
theorem dS.AY(h:T.ok)(k:Int):(T.path k).Nodup:=IX (h.stop k)
theorem dS.oL(h:T.ok)(e:l=T.path k) : ∀ v,v∈l->T.has v=true:=fun v c=>by
 obtain⟨i,a,b⟩:=List.getElem_of_mem c;have:=dS.Oh h e a;rw[r_,o_ a]at this;rw[<- b]; exact this
theorem Dc(h:l.Nodup){i j:Nat}(hi:i<l.length)(a:j<l.length)(e:l.getD i 0=l.getD j 0):i=j:=by
 rw[r_,r_,o_ hi,o_ a]at e;exact(List.getElem_inj h).1 e
end
def jY(f:(Nat->Int)->(Nat->Int) × Int)(r:Nat->Nat->Int):Nat->Int
 | 0=>0
 | i+1=>if jY f r i=0 then(f (r i)).2 else jY f r i
section
variable {f:(Nat->Int)->(Nat->Int) × Int} {r:Nat->Nat->Int} {i n:Nat}
theorem Df(h:jY f r i=0)(a:(f (r i)).2=0):jY f r (i+1)=0:=by unfold jY; rw[d_ h,a]
theorem AZ(h:jY f r i=0)(a : ¬ (f (r i)).2=0) : ∀ n,i<n->jY f r n=(f (r i)).2
 | 0,hn=>M_ hn (z_ _)
 | n+1,hn=>by
   unfold jY;by_cases e:i=n
   ·subst e; rw[d_ h]
   ·rw[AZ h a n (by omega),b_ a]
theorem Gf : ∀ {n:Nat},jY f r n=0 -> ∀ i,i<n->(f (r i)).2=0
 | 0,_,i,hi=>M_ hi (z_ _)
 | n+1,h,i,hi=>by
   unfold jY at h;by_cases a:jY f r n=0
   ·rw[d_ a]at h;by_cases e:i=n
    ·rw[e]; exact h
    ·exact Gf a i (by omega)
   ·rw[b_ a]at h; exact M_ h a
end
def DT(m:dQ)(k:Int):Nat->Int:=m.R (m.idx k)
def dB(m:dQ)(f:(Nat->Int)->(Nat->Int) × Int)(l:List Int):Int:=jY f (fun i=>DT m (l.getD i 0)) l.length
open Classical in
noncomputable def qo(m:dQ)(f:(Nat->Int)->(Nat->Int) × Int)(l:List Int):dQ := { m with R:=fun i=>if m.T.x i∈l then(f (m.R i)).1 else m.R i }
def DU(l:List Int)(S:Nat->Bool)(v:Int):Nat->Bool
 | 0=>false
 | n+1=>DU l S v n || (S n&&decide (l.getD n 0=v))
theorem sQ{l:List Int}{S:Nat->Bool}{v:Int} : ∀ {n:Nat},DU l S v n=true <-> ∃ q,q<n/\S q=true/\l.getD q 0=v
 | 0=>⟨fun h=>(nomatch h),fun⟨q,h,_⟩=>M_ h (z_ _)⟩
 | n+1=>by
   unfold DU;rw[Bool.or_eq_true,sQ,S_,P_];constructor
   ·rintro (⟨q,c,a,b⟩|⟨c,a⟩)
    ·exact⟨q,by omega,a,b⟩
    ·exact⟨n,by omega,c,a⟩
   ·rintro ⟨q,c,a,b⟩;by_cases e:q=n
    ·subst e; exact .inr ⟨a,b⟩
    ·exact .inl ⟨q,by omega,a,b⟩
def yY(m:dQ)(f:(Nat->Int)->(Nat->Int) × Int)(l:List Int)(S:Nat->Bool):Nat->Nat->Int:=fun i=>if DU l S (m.T.x i) l.length=true then(f (m.R i)).1 else m.R i
theorem Oo(m:dQ)(f:(Nat->Int)->(Nat->Int) × Int)(l:List Int):yY m f l (fun _=>false)=m.R:=by
 funext i
 unfold yY;rw[b_];rw[sQ];rintro ⟨q,_,h,_⟩; cases h
theorem RG{m:dQ}(o:m.T.ok){f:(Nat->Int)->(Nat->Int) × Int}{l:List Int}{S:Nat->Bool}{q j:Nat}(t:q<l.length)(s:j<m.T.n)(g:m.T.x j=l.getD q 0) : ∀ i,i<m.T.n->Fx.aQ (yY m f l S) j (f (m.R j)).1 i=yY m f l (Fx.aQ S q true) i:=fun i p=>by
 unfold Fx.aQ;by_cases e:i=j
 ·subst e;rw[d_ rfl];unfold yY;rw[d_];rw[sQ];exact⟨q,t,by show(if q=q then true else S q)=true; rw[d_ rfl],g.symm⟩
 ·rw[b_ e];unfold yY;have:DU l S (m.T.x i) l.length=true<->DU l (fun i=>if i=q then true else S i) (m.T.x i) l.length=true:=by
   rw[sQ,sQ];constructor
   ·rintro ⟨r,d,a,b⟩;exact⟨r,d,by show(if r=q then true else S r)=true; split <;> first|rfl|exact a,b⟩
   ·rintro ⟨r,d,a,b⟩;by_cases k:r=q
    ·subst k;exact M_ (o.inj i j p s (by rw[g,<- b])) e
    ·exact⟨r,d,by have a:(if r=q then true else S r)=true:=a; rw[b_ k]at a; exact a,b⟩
  by_cases c:DU l S (m.T.x i) l.length=true
  ·rw[d_ c,d_ (this.1 c)]
  ·rw[b_ c,b_ (fun h=>c (this.2 h))]
theorem Wp{m:dQ}{f:(Nat->Int)->(Nat->Int) × Int}{l:List Int}{S:Nat->Bool}(h : ∀ q,q<l.length->S q=true):yY m f l S=(qo m f l).R:=by
 funext i
 show _=if m.T.x i∈l then(f (m.R i)).1 else m.R i;unfold yY;have:DU l S (m.T.x i) l.length=true<->m.T.x i∈l:=by
  rw[sQ];constructor
  ·rintro ⟨q,b,_,d⟩;rw[<- d,r_,o_ b]; exact Q_ b
  ·intro g;obtain⟨q,a,e⟩:=List.getElem_of_mem g;exact⟨q,a,h q a,by rw[r_,o_ a]; exact e⟩
 by_cases c:m.T.x i∈l
 ·rw[d_ (this.2 c),d_ c]
 rw[b_ (fun h=>c (this.1 h)),b_ c]
def tQ(m:dQ)(f:(Nat->Int)->(Nat->Int) × Int)(l:List Int):Nat->Value:=fun q => .agg (Fx.aA 54 (Fx.rv .i64 (f (DT m (l.getD q 0))).1))
theorem IY{m:dQ}{f:(Nat->Int)->(Nat->Int) × Int}{l:List Int}{w:World}{b i:Nat}{r:Nat->Int}(h:Fx.Mp w b (i+1) (Fx.aQ (fun q=>l.getD q 0) i (l.getD i 0)) (Fx.aQ (tQ m f l) i (.agg (Fx.aA 54 (Fx.rv .i64 r)))))(e:r=(f (DT m (l.getD i 0))).1):Fx.Mp w b (i+1) (fun q=>l.getD q 0) (tQ m f l):=h.um fun q a=>by
 unfold Fx.aQ;by_cases c:q=i
 ·subst c; rw[d_ rfl,d_ rfl,e]; exact⟨rfl,rfl⟩
 ·rw[b_ c,b_ c]; exact⟨rfl,rfl⟩
end Rt
end Go.Proofs.YtcbedgfikejkoaaGreatDoor
namespace Go.Proofs.YtcbedgfikejkoaaGreatDoor
open Go.RowKit Rt
open Fx (aZ dR gy Lv sN Ln Ws Wl Rp Wr Sb Wk rV sR Rs Rn Rd Wb Wx Wo D8 He zX Cg D6 fQ uj vw rv aA aP bC aQ ev Stp aN dF Mp aR iL iV bf jd jR bK cells_one bB unseen jU dI bM bS cB bZ gW iG pE fE)
theorem Wq(x:Nat->Int)(v:EvM)(a:Nat)(w:World)(F:1<=v.o/\v.o<=6)(b:aP w a 14 (bJ v) 37) :
 Calls Tryz.prog 220 #[.agg (aA 54 (rv .i64 x)),(pt a)] w fun e C=>e = .returned (.tuple #[.agg (aA 54 (rv .i64 (bG x v.o v.aT).1)),au (bG x v.o v.aT).2])/\Below w.heap.size w C:=by
 have I:=b.lt;refine Kent Tryz.func220 13 ?_;refine ay<|om fun E Q i c A T => ?_;have⟨k,g⟩:=fC A.old b (Below.refl w.heap.size w);have G:=gI i;have L:=cu i b.lt;have O:=c.lt;refine oC 54 (rv .i64 (fun _=>0)) fun q R j l B U => ?_;have⟨d,m,n⟩:=gL B.old k c g;have H:=iw j g.size;have⟨M,N⟩:=oQ j k.lt c.lt;have P:=l.lt;refine av (au 0)<|aD<|ay<|Lv (.agg (aA 54 (rv .i64 x))) (eT m.aH 0)<|av (pt a)<|Lv (au v.o) (aL d.aH 0)<|av (pf a 11)<|Lv (au v.aT) (aL d.aH 11)<|dU (aeg (x) v.o v.aT _ (by omega)) _ rfl ?_;intro S r;have⟨t,u,y,h⟩:=jw r d m l n;refine av (.agg (aA 54 (rv .i64 ((bG (x) v.o v.aT).1))))<|av (au ((bG (x) v.o v.aT).2))<|dG y 0 fun D z f V => ?_;have s:aP D q 54 (rv .i64 ((bG (x) v.o v.aT).1)) 82:=aN z;have J:=t.bW f (by omega);have K:=u.bW f (by omega);have p:=f.below h h.size (by omega);refine av (au ((bG (x) v.o v.aT).2)) (aD (Wr (⟨.tuple #[.agg (aA 54 (rv .i64 ((bG (x) v.o v.aT).1))),au ((bG (x) v.o v.aT).2)],fE Tryz.results220 ⟨_,rfl,aR s.aH (by kernel_rfl) (by kernel_rfl)⟩ (by exact rfl),?_⟩)));exact⟨rfl,p⟩
theorem Wu(x:Nat->Int)(v:EvM)(g:Nat->Int)(b c:Nat)(w:World)(L:1<=v.o/\v.o<=6)(d:aP w b 14 (bJ v) 37)(f:aP w c 5 (jf g) 106) :
 Calls Tryz.prog 223 #[.agg (aA 54 (rv .i64 x)),(pt b),(pt c)] w fun e I=>e = .returned (.tuple #[.agg (aA 54 (rv .i64 (bI x v.o (g 3)).1)),au (bI x v.o (g 3)).2])/\Below w.heap.size w I:=by
 have O:=d.lt;have P:=f.lt;refine Kent Tryz.func223 14 ?_;refine ay<|om fun K w1 k h G z1 => ?_;have⟨m,n,i⟩:=gL G.old d f (Below.refl w.heap.size w);have M:=gI k;have⟨T,U⟩:=oQ k d.lt f.lt;have Y:=h.lt;refine oC 54 (rv .i64 (fun _=>0)) fun y w2 l p H z2 => ?_;have⟨q,r,s,t⟩:=jw H.old m n h i;have N:=iw l i.size;have⟨V,W,X⟩:=Bq l m.lt n.lt h.lt;have Z:=p.lt;refine av (au 0)<|aD<|ay<|Lv (.agg (aA 54 (rv .i64 x))) (eT s.aH 0)<|av (pt b)<|Lv (au v.o) (aL q.aH 0)<|av (pf c 3)<|Lv (au (g 3)) (aL r.aH 3)<|dU (aeh (x) v.o (g 3) _ (by omega)) _ rfl ?_;intro w3 z;have⟨E,F,A,B,j⟩:=lJ z q r s p t;refine av (.agg (aA 54 (rv .i64 ((bI (x) v.o (g 3)).1))))<|av (au ((bI (x) v.o (g 3)).2))<|dG B 0 fun J C a z3 => ?_;have D:aP J y 54 (rv .i64 ((bI (x) v.o (g 3)).1)) 82:=aN C;have Q:=E.bW a (by omega);have R:=F.bW a (by omega);have S:=A.bW a (by omega);have u:=a.below j j.size (by omega);refine av (au ((bI (x) v.o (g 3)).2)) (aD (Wr (⟨.tuple #[.agg (aA 54 (rv .i64 ((bI (x) v.o (g 3)).1))),au ((bI (x) v.o (g 3)).2)],fE Tryz.results223 ⟨_,rfl,aR D.aH (by kernel_rfl) (by kernel_rfl)⟩ (by exact rfl),?_⟩)));exact⟨rfl,u⟩
theorem Mf(m:dQ)(j B:Nat)(w:World)(h:mG w B j m)(o:(Nat->Int)->(Nat->Int) × Int)(l:List Int)(s:Nat)(hgM:m.rb≠s/\m.mb≠s/\m.pb≠s/\m.gb≠s/\m.ab≠s)(hlh : ∀ k,k∈l->m.T.has k=true)(I:Mp w s l.length (fun q=>l.getD q 0) (tQ m o l))(z:Nat)(A:Nat)(H:aP w z 1 (fun _ => .map (some s)) 109)(Z:aP w A 1 (fun _=>(pt j)) 28) :
 Calls Tryz.prog 232 #[(pt z),(pt A)] w fun e w'=>e = .returned (.tuple #[])/\mG w' B j (qo m o l)/\jR (F7 m j) w w':=by
 have hC:=h.c;have hT:=h.t;have hP:=h.p;have hR:=h.r;have hG:=h.g;have hA:=h.a;have b:=h.ne;have lC:=h.c.lt;have lT:=h.t.lt;have lP:=h.p.lt;have lR:=h.r.lt;have lG:=h.g.lt;have lA:=h.a.lt;have lg8:=H.lt;have lgl:=Z.lt;have lF:=I.lt;obtain⟨hg1,hg2,hg3,hg4,hg5⟩:=hgM;refine Kent Tryz.func232 17 ?_;refine ay<|Lv (.map (some s)) (aL H.aH 0)<|Fx.L.range (by rfl) rfl rfl rfl I Tryz.underlying109 fun F w1 kM m1 s1 z1 => ?_;have⟨m2,m3,m4,m5,m6,m7,m8,m9,m10⟩:=Ck s1.old hC hT hP hR hG hA I H Z;have b1:=(vw (F7 m j) w).then s1 (.inr (vw (F7 m j) w).size);have qZ:w.heap.size<=F:=by rw[kM]; exact(vw (F7 m j) w).size
 have sF:=m1.lt;refine aD<|Wb ?_;have m11:Mp w1 m.rb m.T.n m.T.x (xD (yY m o l (fun _=>false))):=by rw[Oo]; exact m5
 refine D8 (fun kE f v => ∃ S:Nat->Bool,∃ K:Nat,K=unseen S l.length/\K=kE/\f 0=(pt z)/\f 1=(pt A)/\f 5=(pt F)/\aP v j 29 (vV m) 114/\tC v B m.tp m.mb m.T/\Mp v m.pb m.T.n m.T.x (Ej m.T)/\iL v m.gb m.gn (fun i=>m.g i 0) (fun i=>m.g i 1) (uZ m.g)/\iL v m.ab m.an m.ao m.ar El/\Mp v s l.length (fun q=>l.getD q 0) (tQ m o l)/\aP v z 1 (fun _ => .map (some s)) 109/\aP v A 1 (fun _=>(pt j)) 28/\Mp v m.rb m.T.n m.T.x (xD (yY m o l S))/\Fx.It v F s l.length S/\jR (F7 m j) w v) (unseen (fun _=>false) l.length) ⟨(fun _=>false),(unseen (fun _=>false) l.length),rfl,rfl,(by rfl),(by rfl),(by rfl),m2,m3,m4,m6,m7,m8,m9,m10,m11,m1,b1⟩ ?_;rintro kE f1 w2 ⟨S,K,hkk,hkE,W,X,G,m12,m13,m14,m15,m16,m17,m18,m19,m20,M,Q⟩;refine ay<|Fx.L.next (by rfl) rfl rfl G m17 M (fun tu => ?_)<|fun d w3 C hS1 m22 mc1 s2 z2 => ?_
 ·skip
  refine av aF (aD (Ws (aK (Wx (cB (gW (bZ (⟨.tuple #[],jd Tryz.results232,?_⟩))))))));have m23:Mp w2 m.rb m.T.n m.T.x (xD (qo m o l).R):=by rw[<- Wp tu]; exact m20
  exact⟨rfl,{ c:=m12,t:=m13,p:=m14,r:=m23,g:=m15,a:=m16,ne:=⟨b.mp,b.mr,b.mg,b.ma,b.pr,b.pg,b.pa,b.rg,b.ra,b.ga⟩,lB:=h.lB,pB:=h.pB,rB:=h.rB,gB:=h.gB,aB:=h.aB },Q⟩
 skip
 have y:=M.Cm s2;have m24:=m12.eG y;have mM:=m13.eG y (by omega);have mU:=m14.eG y (by omega);have oo:=m15.eG y (by omega);have ou:=m16.eG y (by omega);have N:=m17.eG y (M.rb.symm);have nk:=m18.eG y;have lI:=m19.eG y;have m32:=m20.eG y (by omega);have D:=Q.then s2 (.inr qZ);refine av aG<|aD<|Ws<|aM<|Wk<|sN<|Wb<|ay<|Lv (.tuple #[aC (l.getD d 0),.agg (aA 54 (rv .i64 ((o (DT m (l.getD d 0))).1)))]) (Fx.O6 (key:=fun q=>l.getD q 0) (val:=tQ m o l) (i:=d) rfl G N mc1 C)<|av (aC (l.getD d 0))<|av (.agg (aA 54 (rv .i64 ((o (DT m (l.getD d 0))).1))))<|oC 54 (rv .i64 (fun _=>0)) fun g2 w4 V O s3 z3 => ?_;have⟨nH,nR,mO,qy,pX,pY,tZ,mP,mQ,mV,pI⟩:=EZ s3.old m24 mM mU oo ou N nk lI m32 mc1 m22;have b4:=D.then s3 (.inr D.size);have pK:=iw V D.size;have⟨apV,apW,apX,apY,aeL,aeM,apZ,aqa⟩:=Yj V m24.lt mU.lt oo.lt ou.lt N.lt nk.lt lI.lt m32.lt;have xR:=O.lt;refine av (aC (l.getD d 0))<|dG O 0 fun P qb s4 z4 => ?_;have oV:aP P g2 54 (rv .i64 ((o (DT m (l.getD d 0))).1)) 82:=aN qb;have fO:=fQ s4 O.ty;have⟨sG,uQ,sH,qD,sI,uR,sJ,uS,wo,uf,sK⟩:=aaL fO nH nR mO qy pX pY tZ mP mQ mV pI;have U:=b4.then s4 (.inr pK);refine aD ?_;obtain⟨jz,J,E⟩:=iB (hlh _ (vJ C rfl));have ejx:DT m (l.getD d 0)=m.R jz:=by unfold DT dQ.idx; rw[nJ h.t.inv.inj J E]
 refine ko [4,0,1,2,3,5,6] [4,0,0,4,0,4,3] [(6,0,[0]),(6,3,[3]),(6,5,[5])] fun qC Y iE => ?_;have s5:Stp P.heap.size P qC:=Sb Y;have⟨ug,wS,rz,uo,pJ,uh,m64,wT,wu,uT,yh,sM⟩:=O1 Y sG uQ sH qD sI uR sJ uS wo uf sK oV;have b6:=U.then s5 (.inr U.size);refine aX (aC (l.getD d 0))<|Rs (pt j) (aL wT.aH 0 (ha:=X)) ?_;refine aX (pt j)<|aX (pf j 20)<|Rs (.map (some m.rb)) (aL ug.aH 20) ?_;refine Rs (.agg (aA 54 (rv .i64 ((o (DT m (l.getD d 0))).1)))) (eT sM.aH 0) ?_;refine ig<|Fx.L.acp (by rfl) rfl rfl rfl rfl rfl wu Tryz.underlying109 Tryz.underlying23 J E fun w6 wz s6 z5 => ?_;have u:=wu.Cm s6;have uH:=ug.eG u;have wB:=wS.eG u (b.mr);have wC:=rz.eG u (b.pr);have Ah:=uo.eG u (Ne.symm b.rg);have wD:=pJ.eG u (Ne.symm b.ra);have zR:=uh.eG u (by omega);have yJ:=m64.eG u;have zw:=wT.eG u;have xQ:=uT.eG u (by omega) (by omega);have wU:=yh.eG u (by omega) (by omega);have wV:=sM.eG u;have b7:=b6.then s6 (.inl (.inr (.inr (.inr (.inl rfl)))));have yK:Mp w6 m.rb m.T.n m.T.x (xD (yY m o l (aQ S d true))):=by have q9:=EI _ _ _ _ wz; rw[ejx]at q9; exact q9.um fun i hi=>⟨rfl,by unfold xD; rw[RG h.t.inv C J E i hi]⟩
 refine Ln (Rn (bS (iG ⟨unseen (aQ S d true) l.length,(by have W:=Fx.pV hS1 l.length C; omega),(aQ S d true),(unseen (aQ S d true) l.length),rfl,rfl,W,X,G,uH,wB,wC,Ah,wD,zR,yJ,zw,yK,wU,b7⟩ (by decide))))
theorem Wv(m:dQ)(j B:Nat)(w:World)(h:mG w B j m)(C:Int)(v:EvM)(ho:1<=v.o/\v.o<=6)(E:Nat)(u:aP w E 14 (bJ v) 37) :
 Calls Tryz.prog 219 #[(pt j),aC C,.func (.func 220) #[] #[(pt E)]] w fun e w'=>Si w B j m (qo m (fun x=>bG x v.o v.aT) (m.T.path C)) (dB m (fun x=>bG x v.o v.aT) (m.T.path C)) e w':=by
 have hC:=h.c;have hT:=h.t;have hP:=h.p;have hR:=h.r;have hG:=h.g;have hA:=h.a;have hN:=h.ne;have lC:=h.c.lt;have lT:=h.t.lt;have lP:=h.p.lt;have lR:=h.r.lt;have lG:=h.g.lt;have lA:=h.a.lt;have lge:=u.lt;refine Kent Tryz.func219 44 ?_;refine ay<|xY (pt j) fun A w1 kM Y s1 z1 => ?_;have⟨m2,m3,m4,m5,m6,m7,m8,b1⟩:=nO s1.old hC hT hP hR hG hA u (Below.refl w.heap.size w);have qZ:=gI kM;have⟨mJ,yV,xV,BR,yN,Ll⟩:=Ju kM hC.lt hP.lt hR.lt hG.lt hA.lt u.lt;have sF:=Y.lt;refine av (.nilFunc)<|av (au 0)<|aD<|ay<|Fx.L.KQ (by rfl) rfl rfl fun d w2 vB m9 s2 z2 => ?_;have⟨m10,m11,m12,m13,m14,m15,m16,m17,b2⟩:=Ck s2.old m2 m3 m4 m5 m6 m7 m8 Y b1;have pK:=iw vB b1.size;have⟨Gg,F9,AX,Ga,Ct,Uq,Ur⟩:=Nv vB m2.lt m4.lt m5.lt m6.lt m7.lt m8.lt Y.lt;have xR:=m9.lt;refine oC 1 (fun _ => .map none) fun y w3 uI Z s3 z3 => ?_;have⟨m19,m20,m21,m22,m23,m24,mM,mU,oo,b3⟩:=vH s3.old m10 m11 m12 m13 m14 m15 m16 m17 m9 b2;have Ae:=iw uI b2.size;have⟨aeN,Ww,Wy,Wz,Oq,J8,aeO,J9⟩:=Yj uI m10.lt m12.lt m13.lt m14.lt m15.lt m16.lt m17.lt m9.lt;have Ed:=Z.lt;refine jv Z 0 (.map (some d)) fun O ou s4 z4 => ?_;have nG:aP O y 1 (fun _ => .map (some d)) 109:=dI ou;have fO:=fQ s4 Z.ty;have⟨nk,lI,m32,oU,nH,nR,mO,qy,pX⟩:=aco fO m19 m20 m21 m22 m23 m24 mM mU oo;have b4:=s4.below b3 b3.size (by omega);refine aD<|Ws<|ay<|Lv (pt j) (aL qy.aH 0)<|av (pt j)<|av (pf j 18)<|Lv (pt m.tp) (aL nk.aH 18)<|av (aC C)<|kU (NG C lI) ?_;rintro e9 w5 ⟨pa1,D,u,pY,hb1⟩;refine⟨_,u,?_⟩;clear u;have⟨tZ,mP,mQ,mV,pI,qb,oV,sG,uQ,sH,b5⟩:=EZ hb1 nk lI m32 oU nH nR mO qy pX nG b4;obtain⟨l,H⟩ : ∃ q,q=dS.path m.T C:=⟨_,rfl⟩;rw[<- H]at pY ⊢;have hl4:l.length<=4:=by rw[H]; exact dS.zG
 refine av (au l.length)<|av (au 0)<|aD<|Wb ?_;have qD:Mp w5 d 0 (fun q=>l.getD q 0) (tQ m (fun x=>bG x v.o v.aT) l):=uQ.um fun i hi=>M_ hi (z_ _);refine Wo (fun f k => ∃ i:Nat,i<=l.length/\jY (fun x=>bG x v.o v.aT) (fun i=>DT m (l.getD i 0)) i=0/\f 2 = .func (.func 220) #[] #[(pt E)]/\f 3=(pt A)/\f 8=(pt y)/\f 19 = .slice pa1 (l.length) (D)/\f 20=au (l.length:Int)/\f 21=au (i:Int)/\aP k j 29 (vV m) 114/\tC k B m.tp m.mb m.T/\Mp k m.pb m.T.n m.T.x (Ej m.T)/\Mp k m.rb m.T.n m.T.x (xD m.R)/\iL k m.gb m.gn (fun i=>m.g i 0) (fun i=>m.g i 1) (uZ m.g)/\iL k m.ab m.an m.ao m.ar El/\aP k E 14 (bJ v) 37/\aP k A 1 (fun _=>(pt j)) 28/\aP k y 1 (fun _ => .map (some d)) 109/\Fx.Own k O.heap.size 23 1 (.slice pa1 (l.length) (D)) l.length (yx l)/\Mp k d i (fun q=>l.getD q 0) (tQ m (fun x=>bG x v.o v.aT) l)/\Below w.heap.size w k) (fun f _=>((l.length:Int)-intOf (f 21)).toNat) ⟨0,(by omega),rfl,(by rfl),(by rfl),(by rfl),(by rfl),Fx.ic,Fx.ic,tZ,mP,mQ,mV,pI,qb,oV,sG,sH,pY,qD,b5⟩ ?_;rintro f1 w6 ⟨i,hi,K,h1,U,V,h4,W,G,sI,uR,sJ,uS,wo,uf,sK,N,aa,rz,ac,P⟩;refine ay ?_;by_cases c22:(i:Int)<(l.length:Int)
 ·refine Lv aG (gY c22 (hx:=G) (hy:=W))<|aD<|Ws<|aM<|Wk<|sN<|Ws<|Wb<|ay ?_;obtain⟨GN,S⟩:=rz.addr (by omega);have pJ:Fx.Own w6 O.heap.size 23 1 (bO GN l.length D) l.length (yx l):=rz.fU (L_ (fun q=>Value.slice q l.length D) S);refine Lv (pf GN i) (dh 1 (hx:=(h4.trans (L_ (fun q=>Value.slice q (l.length) (D)) S))) (hi:=G))<|Lv (aC (l.getD i 0)) (aL pJ.aH i)<|av (aC (l.getD i 0))<|aD<|Ws ?_;obtain⟨b,hjz,ejz⟩:=iB (dS.oL h.t.inv H _ (vJ (show i<l.length by omega) rfl));have J:DT m (l.getD i 0)=m.R b:=by unfold DT dQ.idx; rw[nJ h.t.inv.inj hjz ejz]
  refine Wl<|aW h1<|Lv (pt j) (aL N.aH 0 (ha:=U))<|av (pt j)<|av (pf j 20)<|Lv (.map (some m.rb)) (aL sI.aH 20)<|av (aC (l.getD i 0))<|Lv (.agg (aA 54 (rv .i64 (m.R b)))) (Fx.wN (z := .agg (aA 54 (rv .i64 (fun _=>0)))) rfl rfl rfl uS Tryz.underlying109 Tryz.underlying23 (by kernel_rfl) hjz ejz rfl)<|zX (by rfl) (Fx.Bn (args := [.agg (aA 54 (rv .i64 (m.R b)))]) rfl rfl rfl (all := #[.agg (aA 54 (rv .i64 (m.R b))),(pt E)]) rfl Tryz.func220 rfl rfl) rfl<|(Wq (m.R b) v E _ ho sK).mono ?_;rintro e w7 ⟨u,F⟩;refine⟨.tuple #[.agg (aA 54 (rv .i64 ((bG (m.R b) v.o v.aT).1))),au ((bG (m.R b) v.o v.aT).2)],by rw[u],?_⟩;clear u;have⟨uh,m64,wT,wu,uT,yh,sM,wz,uH,wB,wC,b7⟩:=O1 F sI uR sJ uS wo uf sK N aa ac pJ P;refine av (.tuple #[.agg (aA 54 (rv .i64 ((bG (m.R b) v.o v.aT).1))),au ((bG (m.R b) v.o v.aT).2)])<|av (.agg (aA 54 (rv .i64 ((bG (m.R b) v.o v.aT).1))))<|av (au ((bG (m.R b) v.o v.aT).2))<|oC 54 (rv .i64 (fun _=>0)) fun g4 w8 Ku ad s7 z5 => ?_;have⟨wD,zR,yJ,zw,xQ,wU,wV,yK,Ar,yL,BA,b8⟩:=O1 s7.old uh m64 wT wu uT yh sM wz uH wB wC b7;have PE:=iw Ku b7.size;have⟨aer,aes,aeu,aev,aqc,aqd,aeP,aqe,aeQ,aeR⟩:=aaM Ku uh.lt wT.lt wu.lt uT.lt yh.lt sM.lt wz.lt uH.lt wB.lt wC.lt;have NS:=ad.lt;refine dG ad 0 fun w9 Bf s8 z6 => ?_;have Bg:aP w9 g4 54 (rv .i64 ((bG (m.R b) v.o v.aT).1)) 82:=aN Bf;have jJ:=fQ s8 ad.ty;have⟨Au,Av,BD,Fp,Eh,CB,Dz,AB,GJ,EA,GL⟩:=aaL jJ wD zR yJ zw xQ wU wV yK Ar yL BA;have Q:=s8.below b8 b8.size (by omega);refine av (au ((bG (m.R b) v.o v.aT).2))<|aD<|Ws<|ay<|av (au ((bG (m.R b) v.o v.aT).2)) ?_;by_cases I:((bG (m.R b) v.o v.aT).2)=0
  ·refine Lv aF (iN I)<|aD<|aK<|Wk<|sN ?_;have hnd:l.Nodup:=(by rw[H]; exact dS.AY h.t.inv C);have hny : ∀ q,q<i->(fun q=>l.getD q 0) q≠l.getD i 0:=fun q hq e=>by have:=Dc hnd (show q<l.length by omega) (show i<l.length by omega) e; omega
   refine Wl<|Lv (.map (some d)) (aL GJ.aH 0 (ha:=V))<|av (aC (l.getD i 0))<|Lv (.agg (aA 54 (rv .i64 ((bG (m.R b) v.o v.aT).1)))) (eT Bg.aH 0)<|Fx.L.QF (by rfl) rfl rfl rfl rfl rfl EA Tryz.underlying109 Tryz.underlying23 hny fun rW GZ s9 z7 => ?_;have s:=EA.Cm s9;have xu:=Au.eG s;have yO:=Av.eG s (by omega);have xw:=BD.eG s (by omega);have uU:=Fp.eG s (by omega);have qG:=Eh.eG s (by omega);have qj:=CB.eG s (by omega);have rE:=Dz.eG s;have qH:=AB.eG s;have rY:=GJ.eG s;have tN:=GL.eG s;have vO:=Bg.eG s;have b10:=s9.below Q Q.size (by omega);have rZ:Mp rW d (i+1) (fun q=>l.getD q 0) (tQ m (fun x=>bG x v.o v.aT) l):=IY GZ (by rw[J]);refine Ln<|bS<|sN<|Wl<|Lv (au ((i:Int)+1)) (fH (hx:=G))<|av (au ((i:Int)+1))<|Ln ?_;have uV:Fx.Own rW O.heap.size 23 1 (.slice pa1 (l.length) (D)) l.length (yx l):=tN.fU (L_ (fun q=>Value.slice q l.length D) S.symm);refine iG ⟨i+1,(by omega),(Df K (by rw[J]; exact I)),h1,U,V,h4,(W.trans Fx.ic),Fx.ic,xu,yO,xw,uU,qG,qj,rE,qH,rY,uV,rZ,b10⟩ ?_;show((l.length:Int)-intOf (au ((i:Int)+1))).toNat<_;simp only[G,intOf]; omega
  refine Lv aG (jZ I)<|aD<|aM<|ay<|av (au ((bG (m.R b) v.o v.aT).2))<|av (.nilFunc)<|av (au ((bG (m.R b) v.o v.aT).2))<|aD<|Wr<|sR<|bM<|sR<|pE<|bM<|sR<|aJ (.tuple #[.nilFunc,au ((bG (m.R b) v.o v.aT).2)]) ?_;have M:dB m (fun x=>bG x v.o v.aT) l=(bG (m.R b) v.o v.aT).2:=by unfold dB; rw[AZ K (by rw[J]; exact I) _ (by omega),J]
  exact⟨⟨.nilFunc,0,#[],by rw[M],rfl,fun e0=>M_ (M.symm.trans e0) (by first|decide|omega|assumption)⟩,Q⟩
 refine Lv aF (gZ c22 (hx:=G) (hy:=W))<|aD<|Ws<|aK<|Wx<|cB<|gW<|bZ<|sN<|ay<|Lv (.func (.func 232) #[] #[(pt y),(pt A)]) (Fx.mR (us := []) (vs := [(pt y),(pt A)]) rfl rfl (Fx.args2 V U))<|av (.func (.func 232) #[] #[(pt y),(pt A)])<|av (au 0)<|aD<|Wr<|aJ (.tuple #[.func (.func 232) #[] #[(pt y),(pt A)],au 0]) ?_;have hil:i=l.length:=by omega
 rw[hil]at ac K;have hgm:m.rb≠d/\m.mb≠d/\m.pb≠d/\m.gb≠d/\m.ab≠d:=⟨by omega,by omega,by omega,by omega,by omega⟩;have M:dB m (fun x=>bG x v.o v.aT) l=0:=K;exact⟨⟨_,232,#[(pt y),(pt A)],by rw[M],rfl,fun _=>⟨rfl,⟨_,_,Tryz.func232,rfl,rfl⟩,fun w2 F=>(Mf m j B w2 ((h.up P).up F) (fun x=>bG x v.o v.aT) l d hgm (dS.oL h.t.inv H) (ac.up F) _ _ (aa.bW (Sb F) (u_ aa.lt)) (N.bW (Sb F) (u_ N.lt))).mono fun _ _ X=>⟨X.1,X.2.1,X.2.2.mono fun _ hk => .inl hk⟩⟩⟩,P⟩
theorem WA(m:dQ)(j B:Nat)(w:World)(h:mG w B j m)(C:Int)(v:EvM)(g:Nat->Int)(ho:1<=v.o/\v.o<=6)(E F:Nat)(u:aP w E 14 (bJ v) 37)(Z:aP w F 5 (jf g) 106) :
 Calls Tryz.prog 219 #[(pt j),aC C,.func (.func 223) #[] #[(pt E),(pt F)]] w fun e w'=>Si w B j m (qo m (fun x=>bI x v.o (g 3)) (m.T.path C)) (dB m (fun x=>bI x v.o (g 3)) (m.T.path C)) e w':=by
 have hC:=h.c;have hT:=h.t;have hP:=h.p;have hR:=h.r;have hG:=h.g;have hA:=h.a;have hN:=h.ne;have lC:=h.c.lt;have lT:=h.t.lt;have lP:=h.p.lt;have lR:=h.r.lt;have lG:=h.g.lt;have lA:=h.a.lt;have lge:=u.lt;have lgg:=Z.lt;refine Kent Tryz.func219 44 ?_;refine ay<|xY (pt j) fun A w1 kM m1 s1 z1 => ?_;have⟨m2,m3,m4,m5,m6,m7,m8,m9,b1⟩:=Ck s1.old hC hT hP hR hG hA u Z (Below.refl w.heap.size w);have qZ:=gI kM;have⟨mJ,yV,xV,BR,yN,Ll,ahz⟩:=Nv kM hC.lt hP.lt hR.lt hG.lt hA.lt u.lt Z.lt;have sF:=m1.lt;refine av (.nilFunc)<|av (au 0)<|aD<|ay<|Fx.L.KQ (by rfl) rfl rfl fun d w2 vB m10 s2 z2 => ?_;have⟨m11,m12,m13,m14,m15,m16,m17,m18,m19,b2⟩:=vH s2.old m2 m3 m4 m5 m6 m7 m8 m9 m1 b1;have pK:=iw vB b1.size;have⟨F8,AX,Ga,Ct,Uq,Ur,aeI,aqf⟩:=Yj vB m2.lt m4.lt m5.lt m6.lt m7.lt m8.lt m9.lt m1.lt;have xR:=m10.lt;refine oC 1 (fun _ => .map none) fun y w3 uI m20 s3 z3 => ?_;have⟨m21,m22,m23,m24,mM,mU,oo,ou,nG,nk,b3⟩:=EZ s3.old m11 m12 m13 m14 m15 m16 m17 m18 m19 m10 b2;have Ae:=iw uI b2.size;have⟨Ww,Wz,Oq,J8,aeO,J9,Og,VU,VW⟩:=Yk uI m11.lt m13.lt m14.lt m15.lt m16.lt m17.lt m18.lt m19.lt m10.lt;have Ed:=m20.lt;refine jv m20 0 (.map (some d)) fun P lI s4 z4 => ?_;have m32:aP P y 1 (fun _ => .map (some d)) 109:=dI lI;have fO:=fQ s4 m20.ty;have⟨oU,nH,nR,mO,qy,pX,pY,tZ,mP,mQ⟩:=O4 fO m21 m22 m23 m24 mM mU oo ou nG nk;have b4:=s4.below b3 b3.size (by omega);refine aD<|Ws<|ay<|Lv (pt j) (aL mP.aH 0)<|av (pt j)<|av (pf j 18)<|Lv (pt m.tp) (aL oU.aH 18)<|av (aC C)<|kU (NG C nH) ?_;rintro e9 w5 ⟨pa1,D,u,mV,hb1⟩;refine⟨_,u,?_⟩;clear u;have⟨pI,qb,oV,sG,uQ,sH,qD,sI,uR,sJ,uS,b5⟩:=O1 hb1 oU nH nR mO qy pX pY tZ mP mQ m32 b4;obtain⟨l,I⟩ : ∃ q,q=dS.path m.T C:=⟨_,rfl⟩;rw[<- I]at mV ⊢;have hl4:l.length<=4:=by rw[I]; exact dS.zG
 refine av (au l.length)<|av (au 0)<|aD<|Wb ?_;have wo:Mp w5 d 0 (fun q=>l.getD q 0) (tQ m (fun x=>bI x v.o (g 3)) l):=sJ.um fun i hi=>M_ hi (z_ _);refine Wo (fun f k => ∃ i:Nat,i<=l.length/\jY (fun x=>bI x v.o (g 3)) (fun i=>DT m (l.getD i 0)) i=0/\f 2 = .func (.func 223) #[] #[(pt E),(pt F)]/\f 3=(pt A)/\f 8=(pt y)/\f 19 = .slice pa1 (l.length) (D)/\f 20=au (l.length:Int)/\f 21=au (i:Int)/\aP k j 29 (vV m) 114/\tC k B m.tp m.mb m.T/\Mp k m.pb m.T.n m.T.x (Ej m.T)/\Mp k m.rb m.T.n m.T.x (xD m.R)/\iL k m.gb m.gn (fun i=>m.g i 0) (fun i=>m.g i 1) (uZ m.g)/\iL k m.ab m.an m.ao m.ar El/\aP k E 14 (bJ v) 37/\aP k F 5 (jf g) 106/\aP k A 1 (fun _=>(pt j)) 28/\aP k y 1 (fun _ => .map (some d)) 109/\Fx.Own k P.heap.size 23 1 (.slice pa1 (l.length) (D)) l.length (yx l)/\Mp k d i (fun q=>l.getD q 0) (tQ m (fun x=>bI x v.o (g 3)) l)/\Below w.heap.size w k) (fun f _=>((l.length:Int)-intOf (f 21)).toNat) ⟨0,(by omega),rfl,(by rfl),(by rfl),(by rfl),(by rfl),Fx.ic,Fx.ic,pI,qb,oV,sG,uQ,sH,qD,sI,uR,uS,mV,wo,b5⟩ ?_;rintro f1 w6 ⟨i,hi,M,h1,V,W,h4,X,H,uf,sK,ug,wS,rz,uo,pJ,uh,O,wT,wu,uT,Q⟩;refine ay ?_;by_cases c22:(i:Int)<(l.length:Int)
 ·refine Lv aG (gY c22 (hx:=H) (hy:=X))<|aD<|Ws<|aM<|Wk<|sN<|Ws<|Wb<|ay ?_;obtain⟨GN,U⟩:=wu.addr (by omega);have yh:Fx.Own w6 P.heap.size 23 1 (bO GN l.length D) l.length (yx l):=wu.fU (L_ (fun q=>Value.slice q l.length D) U);refine Lv (pf GN i) (dh 1 (hx:=(h4.trans (L_ (fun q=>Value.slice q (l.length) (D)) U))) (hi:=H))<|Lv (aC (l.getD i 0)) (aL yh.aH i)<|av (aC (l.getD i 0))<|aD<|Ws ?_;obtain⟨b,hjz,ejz⟩:=iB (dS.oL h.t.inv I _ (vJ (show i<l.length by omega) rfl));have K:DT m (l.getD i 0)=m.R b:=by unfold DT dQ.idx; rw[nJ h.t.inv.inj hjz ejz]
  refine Wl<|aW h1<|Lv (pt j) (aL O.aH 0 (ha:=V))<|av (pt j)<|av (pf j 20)<|Lv (.map (some m.rb)) (aL uf.aH 20)<|av (aC (l.getD i 0))<|Lv (.agg (aA 54 (rv .i64 (m.R b)))) (Fx.wN (z := .agg (aA 54 (rv .i64 (fun _=>0)))) rfl rfl rfl wS Tryz.underlying109 Tryz.underlying23 (by kernel_rfl) hjz ejz rfl)<|zX (by rfl) (Fx.Bn (args := [.agg (aA 54 (rv .i64 (m.R b)))]) rfl rfl rfl (all := #[.agg (aA 54 (rv .i64 (m.R b))),(pt E),(pt F)]) rfl Tryz.func223 rfl rfl) rfl<|(Wu (m.R b) v g E F _ ho pJ uh).mono ?_;rintro e w7 ⟨u,G⟩;refine⟨.tuple #[.agg (aA 54 (rv .i64 ((bI (m.R b) v.o (g 3)).1))),au ((bI (m.R b) v.o (g 3)).2)],by rw[u],?_⟩;clear u;have⟨sM,wz,uH,wB,wC,Ah,wD,zR,yJ,zw,xQ,wU,b7⟩:=aaK G uf sK ug wS rz uo pJ uh O wT uT yh Q;refine av (.tuple #[.agg (aA 54 (rv .i64 ((bI (m.R b) v.o (g 3)).1))),au ((bI (m.R b) v.o (g 3)).2)])<|av (.agg (aA 54 (rv .i64 ((bI (m.R b) v.o (g 3)).1))))<|av (au ((bI (m.R b) v.o (g 3)).2))<|oC 54 (rv .i64 (fun _=>0)) fun g4 w8 Ku wV s7 z5 => ?_;have⟨yK,Ar,yL,BA,Bf,Bg,Au,Av,BD,Fp,Eh,CB,b8⟩:=aaK s7.old sM wz uH wB wC Ah wD zR yJ zw xQ wU b7;have PE:=iw Ku b7.size;have⟨aeP,aeQ,aeR,aqg,aqh,aqi,aqj,aqk,aql,aqm,aqn⟩:=agJ Ku sM.lt uH.lt wB.lt wC.lt Ah.lt wD.lt zR.lt yJ.lt zw.lt xQ.lt wU.lt;have NS:=wV.lt;refine dG wV 0 fun w9 Dz s8 z6 => ?_;have AB:aP w9 g4 54 (rv .i64 ((bI (m.R b) v.o (g 3)).1)) 82:=aN Dz;have jJ:=fQ s8 wV.ty;have⟨GJ,EA,GL,GZ,xu,yO,xw,uU,qG,qj,rE,qH⟩:=agI jJ yK Ar yL BA Bf Bg Au Av BD Fp Eh CB;have S:=s8.below b8 b8.size (by omega);refine av (au ((bI (m.R b) v.o (g 3)).2))<|aD<|Ws<|ay<|av (au ((bI (m.R b) v.o (g 3)).2)) ?_;by_cases J:((bI (m.R b) v.o (g 3)).2)=0
  ·refine Lv aF (iN J)<|aD<|aK<|Wk<|sN ?_;have hnd:l.Nodup:=(by rw[I]; exact dS.AY h.t.inv C);have hny : ∀ q,q<i->(fun q=>l.getD q 0) q≠l.getD i 0:=fun q hq e=>by have:=Dc hnd (show q<l.length by omega) (show i<l.length by omega) e; omega
   refine Wl<|Lv (.map (some d)) (aL qj.aH 0 (ha:=W))<|av (aC (l.getD i 0))<|Lv (.agg (aA 54 (rv .i64 ((bI (m.R b) v.o (g 3)).1)))) (eT AB.aH 0)<|Fx.L.QF (by rfl) rfl rfl rfl rfl rfl rE Tryz.underlying109 Tryz.underlying23 hny fun rW rY s9 z7 => ?_;have s:=rE.Cm s9;have tN:=GJ.eG s;have vO:=EA.eG s (by omega);have rZ:=GL.eG s (by omega);have uV:=GZ.eG s (by omega);have zS:=xu.eG s (by omega);have vP:=yO.eG s (by omega);have zT:=xw.eG s;have CF:=uU.eG s;have yj:=qG.eG s;have uW:=qj.eG s;have rF:=qH.eG s;have yP:=AB.eG s;have b10:=s9.below S S.size (by omega);have yQ:Mp rW d (i+1) (fun q=>l.getD q 0) (tQ m (fun x=>bI x v.o (g 3)) l):=IY rY (by rw[K]);refine Ln<|bS<|sN<|Wl<|Lv (au ((i:Int)+1)) (fH (hx:=H))<|av (au ((i:Int)+1))<|Ln ?_;have uX:Fx.Own rW P.heap.size 23 1 (.slice pa1 (l.length) (D)) l.length (yx l):=rF.fU (L_ (fun q=>Value.slice q l.length D) U.symm);refine iG ⟨i+1,(by omega),(Df M (by rw[K]; exact J)),h1,V,W,h4,(X.trans Fx.ic),Fx.ic,tN,vO,rZ,uV,zS,vP,zT,CF,yj,uW,uX,yQ,b10⟩ ?_;show((l.length:Int)-intOf (au ((i:Int)+1))).toNat<_;simp only[H,intOf]; omega
  refine Lv aG (jZ J)<|aD<|aM<|ay<|av (au ((bI (m.R b) v.o (g 3)).2))<|av (.nilFunc)<|av (au ((bI (m.R b) v.o (g 3)).2))<|aD<|Wr<|sR<|bM<|sR<|pE<|bM<|sR<|aJ (.tuple #[.nilFunc,au ((bI (m.R b) v.o (g 3)).2)]) ?_;have N:dB m (fun x=>bI x v.o (g 3)) l=(bI (m.R b) v.o (g 3)).2:=by unfold dB; rw[AZ M (by rw[K]; exact J) _ (by omega),K]
  exact⟨⟨.nilFunc,0,#[],by rw[N],rfl,fun e0=>M_ (N.symm.trans e0) (by first|decide|omega|assumption)⟩,S⟩
 refine Lv aF (gZ c22 (hx:=H) (hy:=X))<|aD<|Ws<|aK<|Wx<|cB<|gW<|bZ<|sN<|ay<|Lv (.func (.func 232) #[] #[(pt y),(pt A)]) (Fx.mR (us := []) (vs := [(pt y),(pt A)]) rfl rfl (Fx.args2 W V))<|av (.func (.func 232) #[] #[(pt y),(pt A)])<|av (au 0)<|aD<|Wr<|aJ (.tuple #[.func (.func 232) #[] #[(pt y),(pt A)],au 0]) ?_;have hil:i=l.length:=by omega
 rw[hil]at uT M;have hgm:m.rb≠d/\m.mb≠d/\m.pb≠d/\m.gb≠d/\m.ab≠d:=⟨by omega,by omega,by omega,by omega,by omega⟩;have N:dB m (fun x=>bI x v.o (g 3)) l=0:=M;exact⟨⟨_,232,#[(pt y),(pt A)],by rw[N],rfl,fun _=>⟨rfl,⟨_,_,Tryz.func232,rfl,rfl⟩,fun w2 G=>(Mf m j B w2 ((h.up Q).up G) (fun x=>bI x v.o (g 3)) l d hgm (dS.oL h.t.inv I) (uT.up G) _ _ (wT.bW (Sb G) (u_ wT.lt)) (O.bW (Sb G) (u_ O.lt))).mono fun _ _ Y=>⟨Y.1,Y.2.1,Y.2.2.mono fun _ hk => .inl hk⟩⟩⟩,Q⟩
section
namespace Rt
def BU(k1 k2:Nat->Int):Nat->Int->Int->Bool
 | 0,_,_=>false
 | n+1,a,b=>(decide (k1 n=a)&&decide (k2 n=b)) || BU k1 k2 n a b
def xG(k1 k2:Nat->Int):Nat->Int->Int->Nat
 | 0,_,_=>0
 | n+1,a,b=>if k1 n=a/\k2 n=b then n else xG k1 k2 n a b
section
variable {k1 k2:Nat->Int} {a b:Int}
theorem lY : ∀ {n:Nat},BU k1 k2 n a b=true <-> ∃ j,j<n/\k1 j=a/\k2 j=b
 | 0=>⟨fun h=>(nomatch h),fun⟨j,h,_⟩=>M_ h (z_ _)⟩
 | n+1=>by
   unfold BU;rw[Bool.or_eq_true,S_,P_,P_,lY];constructor
   ·rintro (⟨f,c⟩|⟨j,f,c,d⟩)
    ·exact⟨n,by omega,f,c⟩
    ·exact⟨j,by omega,c,d⟩
   ·rintro ⟨j,f,c,d⟩;by_cases e:j=n
    ·subst e; exact .inl ⟨c,d⟩
    ·exact .inr ⟨j,by omega,c,d⟩
theorem tT{n j:Nat}(e:j<n)(c:k1 j=a)(d:k2 j=b):BU k1 k2 n a b=true:=lY.2 ⟨j,e,c,d⟩
theorem qA{n:Nat}(h : ∀ i,i<n -> ¬ (k1 i=a/\k2 i=b)):BU k1 k2 n a b=false:=by
 cases e:BU k1 k2 n a b with
 | false=>rfl
 | true=>obtain⟨j,f,c,d⟩:=lY.1 e; exact M_ ⟨c,d⟩ (h j f)
theorem zH{j:Nat} : ∀ {n:Nat},(∀ p q,p<n->q<n->k1 p=k1 q->k2 p=k2 q->p=q)->j<n->k1 j=a->k2 j=b->xG k1 k2 n a b=j
 | 0,_,h,_,_=>M_ h (z_ _)
 | n+1,hi,hj,e1,e2=>by
   unfold xG;by_cases c:k1 n=a/\k2 n=b
   ·rw[d_ c]; exact hi n j (by omega) hj (c.1.trans e1.symm) (c.2.trans e2.symm)
   ·rw[b_ c];refine zH (fun p q d f=>hi p q (by omega) (by omega)) ?_ e1 e2;by_cases e:j=n
    ·subst e; exact M_ ⟨e1,e2⟩ c
    ·omega
end
theorem EK{v:EvM}(h:bR v=true)(a:gD v):Fx.D9 v.o v.req/\Fx.D9 v.o v.of:=by
 have d:=oJ h;have b:=a.req;have c:=a.of;unfold iX at b c;exact⟨⟨by omega,by omega⟩,⟨by omega,by omega⟩⟩
theorem Zx{w:World}{b k n:Nat}{g:Nat->Nat->Int}{o r:Int}{y:Nat->Value}(h:iL w b k (aQ (fun i=>g i 0) n o) (aQ (fun i=>g i 1) n r) (aQ (uZ g) n (.agg (aA 5 y))))(x:Nat->Int)(e0:x 0=o)(a:x 1=r)(d : ∀ j,j<5->y j=jf x j) :
 iL w b k (fun i=>aQ g n x i 0) (fun i=>aQ g n x i 1) (uZ (aQ g n x)):=h.um fun i _=>by
 unfold aQ uZ;by_cases c:i=n
 ·subst c;refine⟨?_,?_,?_⟩
  ·show(if i=i then o else g i 0)=(if i=i then x else g i) 0;rw[d_ rfl,d_ rfl,e0]
  ·show(if i=i then r else g i 1)=(if i=i then x else g i) 1;rw[d_ rfl,d_ rfl,a]
  ·show(if i=i then Value.agg (aA 5 y)else _)=Value.agg (aA 5 (jf (if i=i then x else g i)));rw[d_ rfl,d_ rfl,Fx.dO d]
 ·refine⟨?_,?_,?_⟩
  ·show(if i=n then o else g i 0)=(if i=n then x else g i) 0;rw[b_ c,b_ c]
  ·show(if i=n then r else g i 1)=(if i=n then x else g i) 1;rw[b_ c,b_ c]
  ·show(if i=n then Value.agg (aA 5 y)else Value.agg (aA 5 (jf (g i))))=Value.agg (aA 5 (jf (if i=n then x else g i)));rw[b_ c,b_ c]
theorem Zy{w:World}{b n j:Nat}{g:Nat->Nat->Int}{x:Nat->Int}(h:iL w b n (fun i=>g i 0) (fun i=>g i 1) (aQ (uZ g) j (.agg (aA 5 (jf x)))))(e0:x 0=g j 0)(a:x 1=g j 1) :
 iL w b n (fun i=>aQ g j x i 0) (fun i=>aQ g j x i 1) (uZ (aQ g j x)):=h.um fun i _=>by
 unfold aQ uZ;show g i 0=(if i=j then x else g i) 0/\g i 1=(if i=j then x else g i) 1/\_=Value.agg (aA 5 (jf (if i=j then x else g i)));by_cases c:i=j
 ·subst c; rw[d_ rfl,d_ rfl]; exact⟨e0.symm,a.symm,rfl⟩
 ·rw[b_ c,b_ c]; exact⟨rfl,rfl,rfl⟩
theorem P8{w:World}{b k n:Nat}{o r:Nat->Int}{x y:Int}(h:iL w b k (aQ o n x) (aQ r n y) (aQ El n (.bool true))):iL w b k (aQ o n x) (aQ r n y) El:=h.um fun i _=>⟨rfl,rfl,by unfold aQ El; split <;> rfl⟩
theorem aiL(x:Nat->Int)(r:Int):dF (jf x) 4 (aC r)=jf (upd x 4 r):=by
 funext p
 unfold dF;by_cases c:p=4
 ·subst c; rw[d_ rfl]; rfl
 rw[b_ c]; unfold jf upd;by_cases a:p=0
 ·rw[d_ a,d_ a]; rfl
 rw[b_ a,b_ a];by_cases b:p=3
 ·rw[d_ b,d_ b]; rfl
 rw[b_ b,b_ b,b_ c]
def GR(a b:Int):Nat->Value:=fun p=>if p=0 then au a else aC b
def WB(m:dQ)(a:Nat->Nat->Int)(v:EvM):dQ := { m with R:=a,an:=m.an+1,ao:=aQ m.ao m.an v.o,ar:=aQ m.ar m.an v.req,gn:=m.gn+1,g:=aQ m.g m.gn (pz v) }
def P9(m:dQ)(a:Nat->Nat->Int)(v:EvM)(j:Nat):dQ := { m with R:=a,an:=m.an+1,ao:=aQ m.ao m.an v.o,ar:=aQ m.ar m.an v.req,g:=aQ m.g j (upd (m.g j) 4 v.req) }
structure Bw(w0 w:World):Prop where
 b:Below w0.heap.size w0 w
theorem Bw.up{a w w':World}(h:Bw a w)(c:Below w.heap.size w w'):Bw a w':=⟨M5 h.b c⟩
instance {a w w':World}:Rt.Tr w w' (Bw a w) (Bw a w'):=⟨fun b h=>h.up b⟩
end Rt
theorem aeS{y:Nat->Value}{a b:Int}(c:y 0=au a)(h1:y 1=aC b){w:World}{g:Nat}(h:aP w g 2 y 117):aP w g 2 (GR a b) 117:=h.congr fun j d=>by
 rcases(show j=0\/j=1 by omega)with rfl|rfl
 ·exact c
 ·exact h1
structure LtT(gl gq ge b:Nat):Prop where
 gl:gl<b
 gq:gq<b
 ge:ge<b
structure LtF(gl gq ge gg go b:Nat):Prop where
 gl:gl<b
 gq:gq<b
 ge:ge<b
 gg:gg<b
 go:go<b
theorem WE(m:dQ)(l B:Nat)(w:World)(h:mG w B l m)(v:EvM)(hv:bR v=true)(hwf:gD v)(I:Nat->Nat->Int)(D J G:Nat)(aeT:J<=D)(cap:Array Value)(U:VF w B l m { m with R:=I } D (.func (.func G) #[] cap) G cap)(S:Nat)(K:Nat)(M:Nat)(A:Nat)(Y:aP w S 1 (fun _ => .func (.func G) #[] cap) 123)(hl:aP w K 1 (fun _=>(pt l)) 28)(hq:aP w M 2 (GR v.o v.req) 117)(E:aP w A 14 (bJ v) 37)(N:LtT K M A D)(hnz : ∀ i,i<m.an -> ¬ (m.ao i=v.o/\m.ar i=v.req))(hny : ∀ i,i<m.gn -> ¬ ((fun i=>m.g i 0) i=v.o/\(fun i=>m.g i 1) i=v.req)) :
 Calls Tryz.prog 222 #[(pt S),(pt K),(pt M),(pt A)] w fun e w'=>e = .returned (.tuple #[])/\mG w' B l (WB m I v)/\jR (Ry m l J) w w':=by
 have hC:=h.c;have hT:=h.t;have hP:=h.p;have hR:=h.r;have hG:=h.g;have hA:=h.a;have d:=h.ne;have lC:=h.c.lt;have lT:=h.t.lt;have lP:=h.p.lt;have lR:=h.r.lt;have lG:=h.g.lt;have lA:=h.a.lt;have lgd:=Y.lt;have lgl:=hl.lt;have lgq:=hq.lt;have lge:=E.lt;have Z:=EK hv hwf;refine Kent Tryz.func222 25 ?_;refine ay<|Lv (.func (.func G) #[] cap) (aL Y.aH 0)<|zX (by rfl) (Fx.PS (args := []) rfl rfl rfl (by simp) U.f) rfl<|(U.s _ (Below.refl _ _)).mono ?_;rintro e9 z ⟨E,C,H⟩;refine⟨_,E,?_⟩;clear E;have V:=H.mono (S':=Ry m l J) fun k hk=>hk.imp id (m_ aeT);have m1:aP z l 29 (vV m) 114:=C.c;have lm1:=m1.lt;have m2:tC z B m.tp m.mb m.T:=C.t;have lm2:=m2.lt;have m3:Mp z m.pb m.T.n m.T.x (Ej m.T):=C.p;have lm3:=m3.lt;have m4:Mp z m.rb m.T.n m.T.x (xD (I)):=C.r;have lm4:=m4.lt;have m5:iL z m.gb m.gn (fun i=>m.g i 0) (fun i=>m.g i 1) (uZ m.g):=C.g;have lm5:=m5.lt;have m6:iL z m.ab m.an m.ao m.ar El:=C.a;have lm6:=m6.lt;have m7:=h.J3 hl (by decide) H N.gl;have lm7:=m7.lt;have m8:=h.J3 hq (by decide) H N.gq;have lm8:=m8.lt;have m9:=h.J3 E (by decide) H N.ge;have lm9:=m9.lt;refine aD<|Ws ?_;refine ko [0,1,2,3,4,5] [4,0,0,4,4,3] [(5,0,[0]),(5,3,[3]),(5,4,[4])] fun qC W iE => ?_;have s1:Stp z.heap.size z qC:=Sb W;have⟨m10,m11,m12,m13,m14,m15,m16,m17,m18⟩:=Ck W m1 m2 m3 m4 m5 m6 m7 m8 m9;have D:=V.then s1 (.inr V.size);refine Rs (pt l) (aL m16.aH 0) ?_;refine aX (pt l)<|aX (pf l 28)<|Rs (.map (some m.ab)) (aL m10.aH 28) ?_;refine Rs (.agg (aA 2 (GR v.o v.req))) (eT m17.aH 0) ?_;refine ig<|Fx.L.Tg (by rfl) rfl rfl rfl ((show ev _ _ = .agg (aA 2 (GR v.o v.req))from rfl).trans (Fx.Ad (y:=GR v.o v.req) (a:=v.o) (b:=v.req) rfl rfl)) Z.1 rfl m15 Tryz.underlying112 G9 hnz fun O m19 s2 z1 => ?_;have q:=m15.Cm s2;have m20:=m10.eG q;have m21:=m11.eG q (d.ma);have m22:=m12.eG q (d.pa);have m23:=m13.eG q (d.ra);have m24:=m14.eG q (d.ga);have mM:=m16.eG q;have mU:=m17.eG q;have oo:=m18.eG q;have Q:=D.then s2 (.inl (.inl (.inr (.inr (.inr (.inr (.inr rfl)))))));have ou:iL O m.ab (m.an+1) (aQ m.ao m.an v.o) (aQ m.ar m.an v.req) El:=P8 m19;refine Ln<|bQ ?_;refine ko [5,7,9,11,0,1,2,3,4,6,8,10,12,13,14] [4,0,0,4,4,0,4,0,4,0,4,0,4,0,3] [(14,0,[0]),(14,3,[3]),(14,4,[4]),(14,6,[6]),(14,8,[8]),(14,10,[10]),(14,12,[12])] fun Cr X nU => ?_;have s3:Stp O.heap.size O Cr:=Sb X;have⟨nG,nk,lI,m32,oU,nH,nR,F,qy⟩:=Ck X m20 m21 m22 m23 m24 mM mU oo ou;have b3:=Q.then s3 (.inr Q.size);refine aX (pt A)<|aX (pf A 12)<|aX (pf A 9)<|aX (pf A 11)<|Rs (pt l) (aL nH.aH 0) ?_;refine aX (pt l)<|aX (pf l 27)<|Rs (.map (some m.gb)) (aL nG.aH 27) ?_;refine Rs (.agg (aA 2 (GR v.o v.req))) (eT nR.aH 0) ?_;refine Rs (au v.o) (aL F.aH 0) ?_;refine Rs (aC v.req) (aL F.aH 12) ?_;refine Rs (aC v.node) (aL F.aH 9) ?_;refine Rs (au v.aT) (aL F.aH 11) ?_;refine aX (.agg (aA 5 (bC (bC (bC (bC zR0 0 1 (fun _=>au v.o)) 1 1 (fun _=>aC v.req)) 2 1 (fun _=>aC v.node)) 3 1 (fun _=>au v.aT))))<|ig<|Fx.L.Tg (by rfl) rfl rfl rfl ((show ev _ _ = .agg (aA 2 (GR v.o v.req))from rfl).trans (Fx.Ad (y:=GR v.o v.req) (a:=v.o) (b:=v.req) rfl rfl)) Z.1 rfl oU Tryz.underlying111 G9 hny fun w3 pX s4 z2 => ?_;have u:=oU.Cm s4;have pY:=nG.eG u;have tZ:=nk.eG u (d.mg);have mP:=lI.eG u (d.pg);have mQ:=m32.eG u (d.rg);have mV:=nH.eG u;have pI:=nR.eG u;have qb:=F.eG u;have oV:=qy.eG u (Ne.symm d.ga);have b4:=b3.then s4 (.inl (.inl (.inr (.inr (.inr (.inr (.inl rfl)))))));have sG:iL w3 m.gb (m.gn+1) (fun i=>aQ m.g m.gn (pz v) i 0) (fun i=>aQ m.g m.gn (pz v) i 1) (uZ (aQ m.g m.gn (pz v))):=Zx pX (pz v) rfl rfl (by intro j hj; rcases(show j=0\/j=1\/j=2\/j=3\/j=4 by omega)with rfl|rfl|rfl|rfl|rfl <;> rfl)
 refine Ln (Rn (⟨.tuple #[],jd Tryz.results222,?_⟩));unfold WB;exact⟨rfl,{ c:=pY,t:=tZ,p:=mP,r:=mQ,g:=sG,a:=oV,ne:=⟨d.mp,d.mr,d.mg,d.ma,d.pr,d.pg,d.pa,d.rg,d.ra,d.ga⟩,lB:=h.lB,pB:=h.pB,rB:=h.rB,gB:=h.gB,aB:=h.aB },b4⟩
theorem WH(m:dQ)(l B:Nat)(w:World)(h:mG w B l m)(v:EvM)(hv:bR v=true)(hwf:gD v)(K:Nat->Nat->Int)(E H I:Nat)(aeT:H<=E)(cap:Array Value)(S:VF w B l m { m with R:=K } E (.func (.func I) #[] cap) I cap)(j:Nat)(Q:Nat)(M:Nat)(N:Nat)(J:Nat)(A:Nat)(go:Nat)(X:aP w Q 1 (fun _ => .func (.func I) #[] cap) 123)(hl:aP w M 1 (fun _=>(pt l)) 28)(hq:aP w N 2 (GR v.o v.req) 117)(F:aP w J 14 (bJ v) 37)(Y:aP w A 5 (jf (m.g j)) 106)(hof:aP w go 2 (GR v.o v.of) 117)(hgg:H<=A)(G:LtF M N J A go E)(hnz : ∀ i,i<m.an -> ¬ (m.ao i=v.o/\m.ar i=v.req))(Z:j<m.gn)(ejy:(fun i=>m.g i 0) j=v.o)(fjy:(fun i=>m.g i 1) j=v.of) :
 Calls Tryz.prog 225 #[(pt Q),(pt M),(pt N),(pt J),(pt A),(pt go)] w fun e w'=>e = .returned (.tuple #[])/\mG w' B l (P9 m K v j)/\jR (Ry m l H) w w':=by
 have hC:=h.c;have hT:=h.t;have hP:=h.p;have hR:=h.r;have hG:=h.g;have hA:=h.a;have d:=h.ne;have lC:=h.c.lt;have lT:=h.t.lt;have lP:=h.p.lt;have lR:=h.r.lt;have lG:=h.g.lt;have lA:=h.a.lt;have lgd:=X.lt;have lgl:=hl.lt;have lgq:=hq.lt;have lge:=F.lt;have lgg:=Y.lt;have lgo:=hof.lt;have aa:=EK hv hwf;have axC:=Z;refine Kent Tryz.func225 22 ?_;refine ay<|Lv (.func (.func I) #[] cap) (aL X.aH 0)<|zX (by rfl) (Fx.PS (args := []) rfl rfl rfl (by simp) S.f) rfl<|(S.s _ (Below.refl _ _)).mono ?_;rintro e9 z ⟨F,D,C⟩;refine⟨_,F,?_⟩;clear F;have U:=C.mono (S':=Ry m l H) fun k hk=>hk.imp id (m_ aeT);have m1:aP z l 29 (vV m) 114:=D.c;have lm1:=m1.lt;have m2:tC z B m.tp m.mb m.T:=D.t;have lm2:=m2.lt;have m3:Mp z m.pb m.T.n m.T.x (Ej m.T):=D.p;have lm3:=m3.lt;have m4:Mp z m.rb m.T.n m.T.x (xD (K)):=D.r;have lm4:=m4.lt;have m5:iL z m.gb m.gn (fun i=>m.g i 0) (fun i=>m.g i 1) (uZ m.g):=D.g;have lm5:=m5.lt;have m6:iL z m.ab m.an m.ao m.ar El:=D.a;have lm6:=m6.lt;have m7:=h.J3 hl (by decide) C G.gl;have lm7:=m7.lt;have m8:=h.J3 hq (by decide) C G.gq;have lm8:=m8.lt;have m9:=h.J3 F (by decide) C G.ge;have lm9:=m9.lt;have m10:=h.J3 Y (by decide) C G.gg;have axD:=m10.lt;have m11:=h.J3 hof (by decide) C G.go;have axE:=m11.lt;refine aD<|Ws ?_;refine ko [0,1,2,3,4,5] [4,0,0,4,4,3] [(5,0,[0]),(5,3,[3]),(5,4,[4])] fun qC V iE => ?_;have s1:Stp z.heap.size z qC:=Sb V;have⟨m12,m13,m14,m15,m16,m17,m18,m19,m20,m21,m22⟩:=EZ V m1 m2 m3 m4 m5 m6 m7 m8 m9 m10 m11;have E:=U.then s1 (.inr U.size);refine Rs (pt l) (aL m18.aH 0) ?_;refine aX (pt l)<|aX (pf l 28)<|Rs (.map (some m.ab)) (aL m12.aH 28) ?_;refine Rs (.agg (aA 2 (GR v.o v.req))) (eT m19.aH 0) ?_;refine ig<|Fx.L.Tg (by rfl) rfl rfl rfl ((show ev _ _ = .agg (aA 2 (GR v.o v.req))from rfl).trans (Fx.Ad (y:=GR v.o v.req) (a:=v.o) (b:=v.req) rfl rfl)) aa.1 rfl m17 Tryz.underlying112 G9 hnz fun w2 m23 s2 z1 => ?_;have q:=m17.Cm s2;have m24:=m12.eG q;have mM:=m13.eG q (d.ma);have mU:=m14.eG q (d.pa);have oo:=m15.eG q (d.ra);have ou:=m16.eG q (d.ga);have nG:=m18.eG q;have nk:=m19.eG q;have lI:=m20.eG q;have m32:=m21.eG q;have oU:=m22.eG q;have b2:=E.then s2 (.inl (.inl (.inr (.inr (.inr (.inr (.inr rfl)))))));have nH:iL w2 m.ab (m.an+1) (aQ m.ao m.an v.o) (aQ m.ar m.an v.req) El:=P8 m23;refine Ln<|bQ<|ay<|av (pf J 12)<|Lv (aC v.req) (aL lI.aH 12)<|av (pf A 4)<|jv m32 4 (aC v.req) fun O nR s3 z2 => ?_;have mO:aP O A 5 (jf (upd (m.g j) 4 v.req)) 106:=nR.to (aiL _ _);have fO:=fQ s3 m32.ty;have⟨qy,pX,pY,tZ,mP,mQ,mV,pI,qb,oV⟩:=O4 fO m24 mM mU oo ou nG nk lI oU nH;have P:=b2.then s3 (.inl (.inr hgg));refine aD ?_;refine ko [0,1,2,3,4,5,6] [4,0,0,4,4,4,3] [(6,0,[0]),(6,3,[3]),(6,4,[4]),(6,5,[5])] fun Cr W nU => ?_;have s4:Stp O.heap.size O Cr:=Sb W;have⟨sG,uQ,sH,qD,sI,uR,sJ,uS,wo,uf,sK⟩:=EZ W qy pX pY tZ mP mQ mV pI qb oV mO;have b4:=P.then s4 (.inr P.size);refine Rs (pt l) (aL uR.aH 0) ?_;refine aX (pt l)<|aX (pf l 27)<|Rs (.map (some m.gb)) (aL sG.aH 27) ?_;refine Rs (.agg (aA 2 (GR v.o v.of))) (eT wo.aH 0) ?_;refine Rs (.agg (aA 5 (jf (upd (m.g j) 4 v.req)))) (eT sK.aH 0) ?_;refine ig<|Fx.L.agK (by rfl) rfl rfl rfl ((show ev _ _ = .agg (aA 2 (GR v.o v.of))from rfl).trans (Fx.Ad (y:=GR v.o v.of) (a:=v.o) (b:=v.of) rfl rfl)) aa.2 rfl sI Tryz.underlying111 G9 Z ejy fjy fun w4 ug s5 z3 => ?_;have u:=sI.Cm s5;have wS:=sG.eG u;have rz:=uQ.eG u (d.mg);have uo:=sH.eG u (d.pg);have pJ:=qD.eG u (d.rg);have uh:=uR.eG u;have m64:=sJ.eG u;have wT:=uS.eG u;have wu:=wo.eG u;have uT:=uf.eG u (Ne.symm d.ga);have yh:=sK.eG u;have b5:=b4.then s5 (.inl (.inl (.inr (.inr (.inr (.inr (.inl rfl)))))));have sM:iL w4 m.gb m.gn (fun i=>aQ m.g j (upd (m.g j) 4 v.req) i 0) (fun i=>aQ m.g j (upd (m.g j) 4 v.req) i 1) (uZ (aQ m.g j (upd (m.g j) 4 v.req))):=Zy ug rfl rfl;refine Ln (Rn (⟨.tuple #[],jd Tryz.results225,?_⟩));unfold P9;exact⟨rfl,{ c:=wS,t:=rz,p:=uo,r:=pJ,g:=sM,a:=uT,ne:=⟨d.mp,d.mr,d.mg,d.ma,d.pr,d.pg,d.pa,d.rg,d.ra,d.ga⟩,lB:=h.lB,pB:=h.pB,rB:=h.rB,gB:=h.gB,aB:=h.aB },b5⟩
end
namespace Rt
def iD(m:dQ)(o r:Int):Bool:=BU m.ao m.ar m.an o r
def jc(m:dQ)(o r:Int):Bool:=BU (fun i=>m.g i 0) (fun i=>m.g i 1) m.gn o r
def fF(m:dQ)(o r:Int):Nat:=xG (fun i=>m.g i 0) (fun i=>m.g i 1) m.gn o r
noncomputable def WI(m:dQ)(v:EvM):dQ:=qo m (fun x=>bG x v.o v.aT) (m.T.path v.node)
def kI(m:dQ)(v:EvM):Int:=if iD m v.o v.req=true then 14 else if m.T.has v.node=false then 9 else dB m (fun x=>bG x v.o v.aT) (m.T.path v.node)
noncomputable def kY(m:dQ)(v:EvM):dQ:=WB m (WI m v).R v
noncomputable def WJ(m:dQ)(v:EvM):dQ:=qo m (fun x=>bI x v.o (m.g (fF m v.o v.of) 3)) (m.T.path (m.g (fF m v.o v.of) 2))
def jK(m:dQ)(v:EvM):Int:=if iD m v.o v.req=true then 14 else if jc m v.o v.of=false\/m.g (fF m v.o v.of) 4≠0 then 12 else dB m (fun x=>bI x v.o (m.g (fF m v.o v.of) 3)) (m.T.path (m.g (fF m v.o v.of) 2))
noncomputable def iR(m:dQ)(v:EvM):dQ:=P9 m (WJ m v).R v (fF m v.o v.of)
def RH(m:dQ):Prop := ∀ i,i<m.gn->iD m (m.g i 0) (m.g i 1)=true
end Rt
theorem Fx.aiM{f:Nat->Value}{x1 x2 e g h i:Operand}{v1 v2 a b c d:Value}(h1:ev f x1=v1)(j:ev f x2=v2)(k:ev f e=a)(l:ev f g=b)(m:ev f h=c)(n:ev f i=d) : [x1,x2,e,g,h,i].map (ev f) = [v1,v2,a,b,c,d]:=by rw[List.map_cons,h1,Fx.agD j k l m n]
theorem VF.up{w w':World}{B d a b:Nat}{m e:dQ}{c:Value}{cap:Array Value}(h:VF w B d m e a c b cap)(f:Below w.heap.size w w'):VF w' B d m e a c b cap := { h with s:=fun i g=>h.s i (M5 f g) }
instance {w w':World} {B e a c:Nat} {m f:dQ} {d:Value} {cap:Array Value}:Rt.Tr w w' (VF w B e m f a d c cap) (VF w' B e m f a d c cap):=⟨fun b h=>h.up b⟩
theorem Zz(m:dQ)(d B:Nat)(w:World)(h:mG w B d m)(v:EvM)(M:bR v=true)(hwf:gD v)(hga:RH m) :
 Calls Tryz.prog 209 #[(pt d),.agg (aA 14 (bJ v))] w fun e w'=>Si w B d m (kY m v) (kI m v) e w':=by
 have hC:=h.c;have hT:=h.t;have hP:=h.p;have hR:=h.r;have hG:=h.g;have hA:=h.a;have hN:=h.ne;have lC:=h.c.lt;have lT:=h.t.lt;have lP:=h.p.lt;have lR:=h.r.lt;have lG:=h.g.lt;have lA:=h.a.lt;obtain⟨a,ha,ho⟩ : ∃ a:Nat,a<6/\v.o=(a:Int)+1:=fq (jk M);have hra:aO v=a:=by unfold aO; omega
 have hko:=EK M hwf;have hvo:1<=v.o/\v.o<=6:=by omega
 refine Kent Tryz.func209 40 ?_;refine ay<|xY (pt d) fun C w1 kM N s1 z1 => ?_;have⟨m2,m3,m4,m5,m6,m7,V⟩:=kg s1.old hC hT hP hR hG hA (Below.refl w.heap.size w);have qZ:=gI kM;have⟨mJ,yV,xV,BR,yN⟩:=Ap kM hC.lt hP.lt hR.lt hG.lt hA.lt;have sF:=N.lt;refine om fun f w2 vB D s2 z2 => ?_;have⟨m9,m10,m11,m12,m13,m14,m15,W⟩:=nO s2.old m2 m3 m4 m5 m6 m7 N V;have pK:=iw vB V.size;have⟨L6,F8,F9,AX,Ga,Ct⟩:=Ju vB m2.lt m4.lt m5.lt m6.lt m7.lt N.lt;have xR:=D.lt;refine av (.nilFunc)<|av (au 0)<|aD<|ay<|av (pt f)<|Lv (au v.o) (aL D.aH 0)<|av (pf f 12)<|Lv (aC v.req) (aL D.aH 12)<|av (.agg (aA 2 (bC (bC zS0 0 1 (fun _=>au v.o)) 1 1 (fun _=>aC v.req))))<|oC 2 zS0 fun l w3 uI O s3 z3 => ?_;have⟨m17,m18,m19,m20,m21,m22,m23,m24,X⟩:=Ck s3.old m9 m10 m11 m12 m13 m14 m15 D W;have Ae:=iw uI W.size;have⟨WK,aeN,aqp,Ww,Wy,Wz,Oq⟩:=Nv uI m9.lt m11.lt m12.lt m13.lt m14.lt m15.lt D.lt;have Ed:=O.lt;refine dG O 0 (h1:=(bB (bB (fun jq _=>by show(zS0 jq).oneCell'=true; simp only[zS0]; repeat (first|rfl|split)) (fun _ _=>rfl)) (fun _ _=>rfl))) fun w4 mM s4 z4 => ?_
 have mU:aP w4 l 2 (bC (bC zS0 0 1 (fun _=>au v.o)) 1 1 (fun _=>aC v.req)) 117:=aN mM;have oo:aP w4 l 2 (GR v.o v.req) 117:=aeS (Fx.Bl (by omega) (Fx.qV (j:=0) (by omega) (by omega) rfl)) (Fx.qV (j:=0) (by omega) (by omega) rfl) mU;have fO:=fQ s4 O.ty;have⟨ou,nG,nk,lI,m32,oU,nH,nR⟩:=acn fO m17 m18 m19 m20 m21 m22 m23 m24;have b4:=s4.below X X.size (by omega);refine aD<|Ws<|Ws ?_;refine ko [0,1,2,3,4,5] [4,0,0,4,4,4] [] fun qC dN iE => ?_;have⟨mO,qy,pX,pY,tZ,P,mQ,mV,pI,Y⟩:=vH dN ou nG nk lI m32 oU nH nR oo b4;refine Rs (pt d) (aL mQ.aH 0) ?_;refine aX (pt d)<|aX (pf d 28)<|Rs (.map (some m.ab)) (aL mO.aH 28) ?_;refine Rs (.agg (aA 2 (GR v.o v.req))) (eT pI.aH 0) ?_
 rcases Fx.yH m.ao m.ar m.an v.o v.req with ⟨Wh,DL,DN,Mg⟩|jN
 ·refine Rs aG (Fx.KU (z := .bool false) rfl rfl ((show ev _ _ = .agg (aA 2 (GR v.o v.req))from rfl).trans (Fx.Ad (y:=GR v.o v.req) (a:=v.o) (b:=v.req) rfl rfl)) hko.1 P Tryz.underlying112 G9 (by rfl) DL DN Mg rfl) ?_;refine bQ<|aM<|ay<|av (.nilFunc)<|av (au 14)<|aD<|Wr<|sR<|aJ (.tuple #[.nilFunc,au 14]) ?_;have k:kI m v=14:=by unfold kI; exact d_ (tT DL DN Mg)
  exact⟨⟨.nilFunc,0,#[],by rw[k],rfl,fun A=>M_ (k.symm.trans A) (by first|decide|omega|assumption)⟩,Y⟩
 refine Rs aF (Fx.KT (z := .bool false) rfl rfl ((show ev _ _ = .agg (aA 2 (GR v.o v.req))from rfl).trans (Fx.Ad (y:=GR v.o v.req) (a:=v.o) (b:=v.req) rfl rfl)) hko.1 P Tryz.underlying112 G9 (by rfl) jN) ?_;refine bQ<|aK<|Wk<|sN<|Ws<|Ws ?_;refine ko [4,0,1,2,3,5,6,7] [4,0,0,4,0,4,3,0] [(6,0,[3,2,1,0]),(6,3,[3]),(6,5,[5]),(7,6,[6])] fun Cr gK nU => ?_;have⟨qb,oV,sG,uQ,sH,qD,Q,G,sJ,I⟩:=vH gK mO qy pX pY tZ P mQ mV pI Y;refine aX (pf f 9)<|Rs (pt d) (aL Q.aH 0) ?_;refine aX (pt d)<|aX (pf d 18)<|Rs (pt m.tp) (aL qb.aH 18) ?_;refine Rs (aC v.node) (aL G.aH 9) ?_;refine ig ?_;by_cases s:(dS.has m.T v.node)=true
 ·refine mE (abe v.node oV) aG (by rw[s])<|Ln<|aX aF<|bQ<|aK<|Wk<|sN<|ay<|Lv (pt d) (aL Q.aH 0)<|av (pf f 9)<|Lv (aC v.node) (aL G.aH 9)<|Lv (.func (.func 220) #[] #[(pt f)]) (Fx.mR (us := []) (vs := [(pt f)]) rfl rfl rfl)<|kU (Wv m d B _ (h.up I) v.node v hvo f G) ?_;rintro e9 H ⟨⟨F,fi1,QL,he,ho1,hD1⟩,hb1⟩;refine⟨_,he,?_⟩;clear he;have⟨uS,uf,sK,ug,wS,rz,uo,pJ,Z⟩:=Ck hb1 qb sG uQ sH qD Q G sJ I;have bw1:Bw H H:=⟨Below.refl _ _⟩;refine av (.tuple #[F,au (dB m (fun x=>bG x v.o v.aT) (m.T.path (v.node)))])<|av (F)<|av (au (dB m (fun x=>bG x v.o v.aT) (m.T.path (v.node))))<|oC 1 (fun _ => .nilFunc) fun n w6 K S s8 z5 => ?_;have⟨wz,uH,wB,wC,b8⟩:=lJ s8.old rz uo pJ bw1 Z;have PE:=iw K Z.size;have⟨aqr,aek,ael,aem,aen,aeo,aqs,aep⟩:=Yj K uS.lt uf.lt sK.lt ug.lt wS.lt rz.lt uo.lt pJ.lt;have NS:=S.lt;have kg4:H.heap.size<=n:=by rw[K]; exact bw1.b.size
  refine jv S 0 F (h1:=ho1) fun w7 Ah U z6 => ?_;have wD:aP w7 n 1 (fun _=>F) 123:=dI Ah;have jJ:=fQ U S.ty;have⟨yK,Ar,yL⟩:=Bp jJ wz uH wB;have BA:=(⟨U.below wC.b wC.b.size kg4⟩:Bw H _);have J:=U.below b8 b8.size (by omega);refine av (au (dB m (fun x=>bG x v.o v.aT) (m.T.path (v.node))))<|aD<|Ws<|ay<|av (au (dB m (fun x=>bG x v.o v.aT) (m.T.path (v.node)))) ?_;by_cases E:(dB m (fun x=>bG x v.o v.aT) (m.T.path (v.node)))=0
  ·refine Lv aF (iN E)<|aD<|aK<|Wk<|sN<|ay<|Lv (.func (.func 222) #[] #[(pt n),(pt C),(pt l),(pt f)]) (Fx.mR (us := []) (vs := [(pt n),(pt C),(pt l),(pt f)]) rfl rfl rfl)<|av (.func (.func 222) #[] #[(pt n),(pt C),(pt l),(pt f)])<|av (au 0)<|aD<|Wr<|aJ (.tuple #[.func (.func 222) #[] #[(pt n),(pt C),(pt l),(pt f)],au 0]) ?_;have hD0:=hD1 E;have hfe:=hD0.e;subst hfe;have b01:w.heap.size<=Cr.heap.size:=(by omega);have k:kI m v=0:=(by unfold kI; rw[b_ (show ¬ iD m v.o v.req=true by unfold iD; rw[qA jN]; decide)]; rw[b_ (by rw[s]; decide)]; exact E);exact⟨⟨_,222,#[(pt n),(pt C),(pt l),(pt f)],by rw[k],rfl,fun _=>⟨rfl,⟨_,_,Tryz.func222,rfl,rfl⟩,fun w2 u=>(WE m d B w2 ((h.up J).up u) v M hwf (WI m v).R Cr.heap.size w.heap.size _ (by omega) _ (hD0.up (M5 BA.b u)) _ _ _ _ (wD.bW (Sb u) (u_ wD.lt)) (yK.bW (Sb u) (u_ yK.lt)) (yL.bW (Sb u) (u_ yL.lt)) (Ar.bW (Sb u) (u_ Ar.lt)) ⟨by omega,by omega,by omega⟩ jN (fun i hi e=>by have q9:=hga i hi; obtain⟨j9,hj9,e9,f9⟩:=lY.1 q9; exact jN j9 hj9 ⟨e9.trans e.1,f9.trans e.2⟩)).mono fun _ _ L=>⟨L.1,L.2.1,L.2.2.mono fun _ hk=>hk⟩⟩⟩,J⟩
  refine Lv aG (jZ E)<|aD<|aM<|ay<|av (au (dB m (fun x=>bG x v.o v.aT) (m.T.path (v.node))))<|av (.nilFunc)<|av (au (dB m (fun x=>bG x v.o v.aT) (m.T.path (v.node))))<|aD<|Wr<|sR<|aJ (.tuple #[.nilFunc,au (dB m (fun x=>bG x v.o v.aT) (m.T.path (v.node)))]) ?_;have k:kI m v=dB m (fun x=>bG x v.o v.aT) (m.T.path (v.node)):=by unfold kI; rw[b_ (show ¬ iD m v.o v.req=true by unfold iD; rw[qA jN]; decide)]; rw[b_ (by rw[s]; decide)]
  exact⟨⟨.nilFunc,0,#[],by rw[k],rfl,fun A=>M_ (k.symm.trans A) (by first|decide|omega|assumption)⟩,J⟩
 rw[T_]at s;refine mE (abe v.node oV) aF (by rw[s])<|Ln<|aX aG<|bQ<|aM<|ay<|av (.nilFunc)<|av (au 9)<|aD<|Wr<|sR<|aJ (.tuple #[.nilFunc,au 9]) ?_;have k:kI m v=9:=by unfold kI; rw[b_ (show ¬ iD m v.o v.req=true by unfold iD; rw[qA jN]; decide)]; exact d_ s
 exact⟨⟨.nilFunc,0,#[],by rw[k],rfl,fun A=>M_ (k.symm.trans A) (by first|decide|omega|assumption)⟩,I⟩
theorem ZA(m:dQ)(A B:Nat)(w:World)(h:mG w B A m)(v:EvM)(hv:bR v=true)(hwf:gD v) :
 Calls Tryz.prog 210 #[(pt A),.agg (aA 14 (bJ v))] w fun e w'=>Si w B A m (iR m v) (jK m v) e w':=by
 have hC:=h.c;have hT:=h.t;have hP:=h.p;have hR:=h.r;have hG:=h.g;have hA:=h.a;have hN:=h.ne;have lC:=h.c.lt;have lT:=h.t.lt;have lP:=h.p.lt;have lR:=h.r.lt;have lG:=h.g.lt;have lA:=h.a.lt;obtain⟨a,ha,ho⟩ : ∃ a:Nat,a<6/\v.o=(a:Int)+1:=fq (jk hv);have hra:aO v=a:=by unfold aO; omega
 have ac:=EK hv hwf;have hvo:1<=v.o/\v.o<=6:=by omega
 refine Kent Tryz.func210 56 ?_;refine ay<|xY (pt A) fun K w1 kM m1 s1 z1 => ?_;have⟨m2,m4,m5,m6,m7,b1⟩:=qY s1.old hC hP hR hG hA (Below.refl w.heap.size w);have qZ:=gI kM;have⟨mJ,yV,xV,BR,yN⟩:=Ap kM hC.lt hP.lt hR.lt hG.lt hA.lt;have sF:=m1.lt;refine om fun n w2 vB E s2 z2 => ?_;have⟨m9,m11,m12,m13,m14,m15,b2⟩:=kg s2.old m2 m4 m5 m6 m7 m1 b1;have pK:=iw vB b1.size;have⟨L6,F8,F9,AX,Ga,Ct⟩:=Ju vB m2.lt m4.lt m5.lt m6.lt m7.lt m1.lt;have xR:=E.lt;refine av (.nilFunc)<|av (au 0)<|aD<|Ws ?_;refine He (T1:=117) (T2:=117) (T1':=117) (T2':=117) (a1 := .tmp 6) (v1 := .tmp 16) (a2 := .tmp 7) (v2 := .tmp 21) (m1:=2) (m2:=2) (z1:=fun d=>if d<1 then au 0 else aC 0) (y1:=bC (bC zS0 0 1 (fun _=>au v.o)) 1 1 (fun _=>aC v.req)) (z2:=fun d=>if d<1 then au 0 else aC 0) (y2:=bC (bC zS0 0 1 (fun _=>au v.o)) 1 1 (fun _=>aC v.of)) (u1 := .agg (aA 2 (bC (bC zS0 0 1 (fun _=>au v.o)) 1 1 (fun _=>aC v.req)))) (u2 := .agg (aA 2 (bC (bC zS0 0 1 (fun _=>au v.o)) 1 1 (fun _=>aC v.of)))) 10 11 12 13 [[],[],[],[],[],[],[],[],[],[],[],[],[(0,[10]),(1,[11])],[(0,[10]),(1,[11]),(2,[12])]] [[(2,[0]),(3,[0])],[(2,[1]),(3,[1])],[(2,[2]),(3,[2])],[(2,[3]),(3,[3])],[(2,[4]),(3,[4])],[(3,[5])],[(3,[6])],[(3,[7])],[(3,[8])],[(3,[9])],[(2,[10]),(3,[10])],[(2,[11]),(3,[11])],[(3,[12])],[]] #[(pt n),au v.o,(pf n 12),aC v.req,.agg (aA 2 (bC (bC zS0 0 1 (fun _=>au v.o)) 1 1 (fun _=>aC v.req))),(pt n),au v.o,(pf n 13),aC v.of,.agg (aA 2 (bC (bC zS0 0 1 (fun _=>au v.o)) 1 1 (fun _=>aC v.of))),undef,undef,undef,undef] (by kernel_rfl) (by kernel_rfl) (by kernel_rfl) (by kernel_rfl) (by kernel_rfl) (by kernel_rfl) (by kernel_rfl) (by kernel_rfl) (by kernel_rfl) (by kernel_rfl) rfl rfl (by kernel_rfl) (by kernel_rfl) rfl rfl rfl rfl (by kernel_rfl) (by kernel_rfl) (fun k l=>(show ev _ (.tmp 6)=(pt k)from by kernel_rfl)) (fun k l=>(show ev _ (.tmp 7)=(pt l)from by kernel_rfl)) (fun k l=>(show ev _ (.tmp 16) = .agg (aA 2 (bC (bC zS0 0 1 (fun _=>au v.o)) 1 1 (fun _=>aC v.req)))from by kernel_rfl)) (fun k l=>(show ev _ (.tmp 21) = .agg (aA 2 (bC (bC zS0 0 1 (fun _=>au v.o)) 1 1 (fun _=>aC v.of)))from by kernel_rfl)) (bK _ _) (bK _ _) (bB (bB (fun jq _=>by show(zS0 jq).oneCell'=true; simp only[zS0]; repeat (first|rfl|split)) (fun _ _=>rfl)) (fun _ _=>rfl)) (bB (bB (fun jq _=>by show(zS0 jq).oneCell'=true; simp only[zS0]; repeat (first|rfl|split)) (fun _ _=>rfl)) (fun _ _=>rfl)) (fun k l => ?_) ?_
 ·refine⟨?_,?_,?_,?_,?_,?_,?_,?_,?_,?_,?_,?_,?_,?_,trivial⟩
  ·exact .inr mI
  ·exact .inr (oP (au v.o) fun G u=>aZ (x:=bJ v) rfl (show ev _ (.tmp 12)=(pt n)from by kernel_rfl) (by kernel_rfl) (E.aH.below u (by have:=E.lt; omega)) (i:=0) (by omega) (by omega) rfl)
  ·exact .inr mI
  ·exact .inr (oP (aC v.req) fun G u=>aZ (x:=bJ v) rfl (show ev _ (.tmp 14)=(pf n 12)from by kernel_rfl) (by kernel_rfl) (E.aH.below u (by have:=E.lt; omega)) (i:=12) (by omega) (by omega) rfl)
  ·exact .inr (oP (.agg (aA 2 (bC (bC zS0 0 1 (fun _=>au v.o)) 1 1 (fun _=>aC v.req)))) fun G u=>gy (vs := [(0,au v.o),(1,aC v.req)]) (places := #[(0,1),(1,1)]) (m:=2) (x:=fun d=>if d<1 then au 0 else aC 0) rfl (Fx.Np (show ev _ (.tmp 13)=au v.o from by kernel_rfl) (show ev _ (.tmp 15)=aC v.req from by kernel_rfl)) Tryz.underlying117 (by kernel_rfl) (by kernel_rfl) (by rw[bf (off:=0) (s:=1) (y:=fun _=>au v.o) (by kernel_rfl) (cells_one (by rfl)) (by rfl)]; rw[bf (off:=1) (s:=1) (y:=fun _=>aC v.req) (by kernel_rfl) (cells_one (by rfl)) (by rfl)]; rfl))
  ·exact .inr mI
  ·exact .inr (oP (au v.o) fun G u=>aZ (x:=bJ v) rfl (show ev _ (.tmp 17)=(pt n)from by kernel_rfl) (by kernel_rfl) (E.aH.below u (by have:=E.lt; omega)) (i:=0) (by omega) (by omega) rfl)
  ·exact .inr mI
  ·exact .inr (oP (aC v.of) fun G u=>aZ (x:=bJ v) rfl (show ev _ (.tmp 19)=(pf n 13)from by kernel_rfl) (by kernel_rfl) (E.aH.below u (by have:=E.lt; omega)) (i:=13) (by omega) (by omega) rfl)
  ·exact .inr (oP (.agg (aA 2 (bC (bC zS0 0 1 (fun _=>au v.o)) 1 1 (fun _=>aC v.of)))) fun G u=>gy (vs := [(0,au v.o),(1,aC v.of)]) (places := #[(0,1),(1,1)]) (m:=2) (x:=fun d=>if d<1 then au 0 else aC 0) rfl (Fx.Np (show ev _ (.tmp 18)=au v.o from by kernel_rfl) (show ev _ (.tmp 20)=aC v.of from by kernel_rfl)) Tryz.underlying117 (by kernel_rfl) (by kernel_rfl) (by rw[bf (off:=0) (s:=1) (y:=fun _=>au v.o) (by kernel_rfl) (cells_one (by rfl)) (by rfl)]; rw[bf (off:=1) (s:=1) (y:=fun _=>aC v.of) (by kernel_rfl) (cells_one (by rfl)) (by rfl)]; rfl))
  ·exact .inl rfl
  ·exact .inl rfl
  ·exact .inl rfl
  exact .inl rfl
 rintro k l w3 Z Q H I ne1 m16 m17 hb1;have VN:A≠k:=u_ (n_ (m9.lt) H);have Ot:m.pb≠k:=u_ (n_ (m11.lt) H);have Ou:m.rb≠k:=u_ (n_ (m12.lt) H);have aeU:m.gb≠k:=u_ (n_ (m13.lt) H);have WL:m.ab≠k:=u_ (n_ (m14.lt) H);have aeV:K≠k:=u_ (n_ (m15.lt) H);have VL:n≠k:=u_ (n_ (E.lt) H);have aud:A≠l:=u_ (n_ (m9.lt) I);have aqt:m.pb≠l:=u_ (n_ (m11.lt) I);have aqu:m.rb≠l:=u_ (n_ (m12.lt) I);have aqv:m.gb≠l:=u_ (n_ (m13.lt) I);have aeW:m.ab≠l:=u_ (n_ (m14.lt) I);have WO:K≠l:=u_ (n_ (m15.lt) I);have aue:n≠l:=u_ (n_ (E.lt) I);have⟨m18,m20,m21,m22,m23,m24,mM,b3⟩:=nO hb1 m9 m11 m12 m13 m14 m15 E b2;have H:w.heap.size<=k:=m_ b2.size H;have Ed:=m16.lt;have I:w.heap.size<=l:=m_ b2.size I;have NS:=m17.lt;have q1:Z 2=(pt K):=by rw[Q]; kernel_rfl
 have q2:Z 3=(pt n):=by rw[Q]; kernel_rfl
 have q5:Z 6=(pt k):=by rw[Q]; kernel_rfl
 have q6:Z 7=(pt l):=by rw[Q]; kernel_rfl
 clear Q;refine sN<|Ws<|Ws ?_;refine ko [0,1,2,3,4,5] [4,0,0,4,4,4] [] fun qC dN iE => ?_;have⟨mU,ou,nG,nk,lI,m32,oU,nH,nR,b4⟩:=vH dN m18 m20 m21 m22 m23 m24 mM m16 m17 b3;refine Rs (pt A) (aL m32.aH 0 (ha:=q1)) ?_;refine aX (pt A)<|aX (pf A 28)<|Rs (.map (some m.ab)) (aL mU.aH 28) ?_;refine Rs (.agg (aA 2 (bC (bC zS0 0 1 (fun _=>au v.o)) 1 1 (fun _=>aC v.req)))) (eT nH.aH 0 (ha:=q5)) ?_
 rcases Fx.yH m.ao m.ar m.an v.o v.req with ⟨Wh,DL,DN,Mg⟩|jN
 ·refine Rs aG (Fx.KU (z := .bool false) rfl rfl ((show ev _ _ = .agg (aA 2 (bC (bC zS0 0 1 (fun _=>au v.o)) 1 1 (fun _=>aC v.req)))from rfl).trans (Fx.Ad (y:=bC (bC zS0 0 1 (fun _=>au v.o)) 1 1 (fun _=>aC v.req)) (a:=v.o) (b:=v.req) (Fx.Bl (by omega) (Fx.qV (j:=0) (by omega) (by omega) rfl)) (Fx.qV (j:=0) (by omega) (by omega) rfl))) ac.1 lI Tryz.underlying112 G9 (by rfl) DL DN Mg rfl) ?_;refine bQ<|aM<|ay<|av (.nilFunc)<|av (au 14)<|aD<|Wr<|sR<|aJ (.tuple #[.nilFunc,au 14]) ?_;have C:jK m v=14:=by unfold jK; exact d_ (tT DL DN Mg)
  exact⟨⟨.nilFunc,0,#[],by rw[C],rfl,fun L=>M_ (C.symm.trans L) (by first|decide|omega|assumption)⟩,b4⟩
 refine Rs aF (Fx.KT (z := .bool false) rfl rfl ((show ev _ _ = .agg (aA 2 (bC (bC zS0 0 1 (fun _=>au v.o)) 1 1 (fun _=>aC v.req)))from rfl).trans (Fx.Ad (y:=bC (bC zS0 0 1 (fun _=>au v.o)) 1 1 (fun _=>aC v.req)) (a:=v.o) (b:=v.req) (Fx.Bl (by omega) (Fx.qV (j:=0) (by omega) (by omega) rfl)) (Fx.qV (j:=0) (by omega) (by omega) rfl))) ac.1 lI Tryz.underlying112 G9 (by rfl) jN) ?_;refine bQ<|aK<|Wk<|sN<|Ws ?_;refine ko [0,1,2,3,4,5,6,7,8,9,10,11] [1,0,0,1,1,1,0,0,0,2,3,0] [(10,0,[0]),(10,3,[3]),(10,4,[4]),(10,5,[5]),(10,9,[9]),(11,9,[9]),(11,10,[10])] fun Cr gK nU => ?_;have⟨S,pX,pY,U,mP,V,mV,pI,W,X⟩:=vH gK mU ou nG nk lI m32 oU nH nR b4;refine Rd (v:=(pt A)) (by rfl) (by rfl) (uj _) (fun G u=>aZ (x:=fun _=>(pt A)) rfl q1 (by kernel_rfl) (V.aH.below u (by have:=V.lt; omega)) (i:=0) (by omega) (by omega) rfl) ?_;refine aX (pt A)<|aX (pf A 27)<|Rd (v := .map (some m.gb)) (by rfl) (by rfl) (uj _) (fun G u=>aZ (x:=vV m) rfl rfl (by kernel_rfl) (S.aH.below u (by have:=S.lt; omega)) (i:=27) (by omega) (by omega) rfl) ?_;refine Rd (v := .agg (aA 2 (bC (bC zS0 0 1 (fun _=>au v.o)) 1 1 (fun _=>aC v.of)))) (by rfl) (by rfl) (uj _) (fun G u=>dR (x:=bC (bC zS0 0 1 (fun _=>au v.o)) 1 1 (fun _=>aC v.of)) (y:=bC (bC zS0 0 1 (fun _=>au v.o)) 1 1 (fun _=>aC v.of)) rfl q6 (by kernel_rfl) (by kernel_rfl) (W.aH.below u (by have:=W.lt; omega)) (i:=0) (by omega) (by omega) (fun j _=>by rw[G_])) ?_
 rcases Fx.yH (fun i=>m.g i 0) (fun i=>m.g i 1) m.gn v.o v.of with ⟨f,P,M,N⟩|abu
 ·refine Rd (v := .tuple #[.agg (aA 5 (jf (m.g f))),.bool true]) (by rfl) (by rfl) (uj _) (fun G u=>Fx.QI (z := .agg (aA 5 zR0)) rfl rfl ((show ev _ _ = .agg (aA 2 (bC (bC zS0 0 1 (fun _=>au v.o)) 1 1 (fun _=>aC v.of)))from rfl).trans (Fx.Ad (y:=bC (bC zS0 0 1 (fun _=>au v.o)) 1 1 (fun _=>aC v.of)) (a:=v.o) (b:=v.of) (Fx.Bl (by omega) (Fx.qV (j:=0) (by omega) (by omega) rfl)) (Fx.qV (j:=0) (by omega) (by omega) rfl))) ac.2 (U.up u) Tryz.underlying111 G9 (by kernel_rfl) P M N rfl) ?_;refine aX (.tuple #[.agg (aA 5 (jf (m.g f))),.bool true])<|aX (.agg (aA 5 (jf (m.g f))))<|aX aG<|yw<|oC 5 zR0 fun D w4 ZB oV s6 z3 => ?_;have⟨sG,sH,qD,sI,uR,sJ,uS,wo,uf,b6⟩:=vH s6.old S pX pY U mP V mV pI W X;have lg5:=iw ZB X.size;have⟨aqw,aqx,aeY,aeZ,afa,afb,aqy,aqz,aqA⟩:=Yk ZB S.lt pX.lt pY.lt U.lt mP.lt V.lt mV.lt pI.lt W.lt;have tg5:=oV.lt;refine Ln ⟨s6.old,?_⟩;refine ig<|dG oV 0 (h1:=(fun j hj=>by rcases j with _|_|_|_|_|_|_|_|_|_|_|_|_|_|j <;> first|rfl|omega)) fun w5 sK s7 z4 => ?_
  have ug:aP w5 D 5 (jf (m.g f)) 106:=aN sK;have ad:aP w5 D 5 (jf (m.g f)) 106:=ug;have fO:=fQ s7 oV.ty;have⟨rz,pJ,uh,m64,wT,wu,uT,yh,sM⟩:=aco fO sG sH qD sI uR sJ uS wo uf;have b7:=s7.below b6 b6.size (by omega);refine Ln<|aX aG<|bQ<|Ws<|ay<|av aG<|av aF<|av aF<|av (pf D 4)<|Lv (aC ((m.g f) 4)) (aL ad.aH 4) ?_;by_cases TK:((m.g f) 4)=0
  ·refine Lv aF (iN TK)<|av aF<|aD<|aK<|Wk<|sN<|ay<|Lv (pt A) (aL wu.aH 0 (ha:=q1))<|av (pf D 2)<|Lv (aC ((m.g f) 2)) (aL ad.aH 2)<|Lv (.func (.func 223) #[] #[(pt n),(pt D)]) (Fx.mR (us := []) (vs := [(pt n),(pt D)]) rfl rfl (Fx.args2 q2 rfl))<|kU (WA m A B _ (h.up b7) ((m.g f) 2) v (m.g f) hvo n D uT ad) ?_;rintro e9 w6 ⟨⟨aa,fi1,QL,he,ho1,hD1⟩,F⟩;refine⟨_,he,?_⟩;clear he;have⟨wz,wB,wC,Ah,wD,zR,yJ,zw,xQ,wU,b8⟩:=EZ F rz pJ uh m64 wT wu uT yh sM ad b7;have bw1:Bw w6 w6:=⟨Below.refl _ _⟩;refine av (.tuple #[aa,au (dB m (fun x=>bI x v.o (m.g f 3)) (m.T.path ((m.g f) 2)))])<|av (aa)<|av (au (dB m (fun x=>bI x v.o (m.g f 3)) (m.T.path ((m.g f) 2))))<|oC 1 (fun _ => .nilFunc) fun O w7 eg6 wV s9 z5 => ?_;have⟨Au,Av,BD,Fp,Eh,CB,b9⟩:=kg s9.old zR yJ zw xQ wU bw1 b8;have lg6:=iw eg6 b8.size;have⟨aqB,aqC,aqD,aqE,aqF,aqG,aqH,aqI,aqJ,aqK⟩:=aaM eg6 wz.lt wB.lt wC.lt Ah.lt wD.lt zR.lt yJ.lt zw.lt xQ.lt wU.lt;have tg6:=wV.lt;have kg6:w6.heap.size<=O:=(by rw[eg6]; exact bw1.b.size);refine jv wV 0 aa (h1:=ho1) fun w8 Dz s10 z6 => ?_;have AB:aP w8 O 1 (fun _=>aa) 123:=dI Dz;have jJ:=fQ s10 wV.ty;have⟨xw,uU,qG,qj,rE⟩:=rT jJ Au Av BD Fp Eh;have qH:=(⟨s10.below CB.b CB.b.size kg6⟩:Bw w6 _);have b10:=s10.below b9 b9.size (by omega);refine av (au (dB m (fun x=>bI x v.o (m.g f 3)) (m.T.path ((m.g f) 2))))<|aD<|Ws<|ay<|av (au (dB m (fun x=>bI x v.o (m.g f 3)) (m.T.path ((m.g f) 2)))) ?_;by_cases Y:(dB m (fun x=>bI x v.o (m.g f 3)) (m.T.path ((m.g f) 2)))=0
   ·refine Lv aF (iN Y)<|aD<|aK<|Wk<|sN<|ay<|Lv (.func (.func 225) #[] #[(pt O),(pt K),(pt k),(pt n),(pt D),(pt l)]) (Fx.mR (us := []) (vs := [(pt O),(pt K),(pt k),(pt n),(pt D),(pt l)]) rfl rfl (Fx.aiM rfl q1 q5 q2 rfl q6))<|av (.func (.func 225) #[] #[(pt O),(pt K),(pt k),(pt n),(pt D),(pt l)])<|av (au 0)<|aD<|Wr<|aJ (.tuple #[.func (.func 225) #[] #[(pt O),(pt K),(pt k),(pt n),(pt D),(pt l)],au 0]) ?_;have J:fF m v.o v.of=f:=zH h.g.inj P M N;have hD0:=hD1 Y;have hfe:=hD0.e;subst hfe;have em:iR m v=P9 m (qo m (fun x=>bI x v.o (m.g f 3)) (m.T.path (m.g f 2))).R v f:=(by unfold iR WJ; rw[J]);rw[em];have C:jK m v=0:=by unfold jK; rw[b_ (show ¬ iD m v.o v.req=true by unfold iD; rw[qA jN]; decide)]; rw[b_ (show ¬ (jc m v.o v.of=false\/m.g (fF m v.o v.of) 4≠0) by rw[J,show jc m v.o v.of=true from tT P M N]; rintro (q|q) <;> first|(exact M_ q (by decide))|omega),J]; exact Y
    exact⟨⟨_,225,#[(pt O),(pt K),(pt k),(pt n),(pt D),(pt l)],by rw[C],rfl,fun _=>⟨rfl,⟨_,_,Tryz.func225,rfl,rfl⟩,fun w2 F=>(WH m A B w2 ((h.up b10).up F) v hv hwf _ w5.heap.size w.heap.size _ (by omega) _ (hD0.up (M5 qH.b F)) f _ _ _ _ _ _ (AB.bW (Sb F) (u_ AB.lt)) (xw.bW (Sb F) (u_ xw.lt)) (qG.bW (Sb F) (u_ qG.lt)) (uU.bW (Sb F) (u_ uU.lt)) (rE.bW (Sb F) (u_ rE.lt)) (qj.bW (Sb F) (u_ qj.lt)) lg5 ⟨by omega,by omega,by omega,by omega,by omega⟩ jN P M N).mono fun _ _ hc=>⟨hc.1,hc.2.1,hc.2.2.mono fun _ hk=>hk⟩⟩⟩,b10⟩
   refine Lv aG (jZ Y)<|aD<|aM<|ay<|av (au (dB m (fun x=>bI x v.o (m.g f 3)) (m.T.path ((m.g f) 2))))<|av (.nilFunc)<|av (au (dB m (fun x=>bI x v.o (m.g f 3)) (m.T.path ((m.g f) 2))))<|aD<|Wr<|sR<|aJ (.tuple #[.nilFunc,au (dB m (fun x=>bI x v.o (m.g f 3)) (m.T.path ((m.g f) 2)))]) ?_;have J:fF m v.o v.of=f:=zH h.g.inj P M N;have C:jK m v=dB m (fun x=>bI x v.o (m.g f 3)) (m.T.path ((m.g f) 2)):=by unfold jK; rw[b_ (show ¬ iD m v.o v.req=true by unfold iD; rw[qA jN]; decide)]; rw[b_ (show ¬ (jc m v.o v.of=false\/m.g (fF m v.o v.of) 4≠0) by rw[J,show jc m v.o v.of=true from tT P M N]; rintro (q|q) <;> first|(exact M_ q (by decide))|omega),J]
   exact⟨⟨.nilFunc,0,#[],by rw[C],rfl,fun L=>M_ (C.symm.trans L) (by first|decide|omega|assumption)⟩,b10⟩
  refine Lv aG (jZ TK)<|av aG<|aD<|aM<|ay<|av (.nilFunc)<|av (au 12)<|aD<|Wr<|sR<|aJ (.tuple #[.nilFunc,au 12]) ?_;have J:fF m v.o v.of=f:=zH h.g.inj P M N;have C:jK m v=12:=by unfold jK; rw[b_ (show ¬ iD m v.o v.req=true by unfold iD; rw[qA jN]; decide)]; exact d_ (.inr (by rw[J]; omega))
  exact⟨⟨.nilFunc,0,#[],by rw[C],rfl,fun L=>M_ (C.symm.trans L) (by first|decide|omega|assumption)⟩,b7⟩
 refine Rd (v := .tuple #[.agg (aA 5 zR0),.bool false]) (by rfl) (by rfl) (uj _) (fun G u=>Fx.QH (z := .agg (aA 5 zR0)) rfl rfl ((show ev _ _ = .agg (aA 2 (bC (bC zS0 0 1 (fun _=>au v.o)) 1 1 (fun _=>aC v.of)))from rfl).trans (Fx.Ad (y:=bC (bC zS0 0 1 (fun _=>au v.o)) 1 1 (fun _=>aC v.of)) (a:=v.o) (b:=v.of) (Fx.Bl (by omega) (Fx.qV (j:=0) (by omega) (by omega) rfl)) (Fx.qV (j:=0) (by omega) (by omega) rfl))) ac.2 (U.up u) Tryz.underlying111 G9 (by kernel_rfl) abu) ?_;refine aX (.tuple #[.agg (aA 5 zR0),.bool false])<|aX (.agg (aA 5 zR0))<|aX aF<|yw<|oC 5 zR0 fun g7 w9 eg7 rY s11 z7 => ?_;have b11:=bD s11.old X;have lg7:=iw eg7 X.size;have⟨akX,akY,akZ,ala,alb,alc,ald,ale,alf⟩:=Yk eg7 S.lt pX.lt pY.lt U.lt mP.lt V.lt mV.lt pI.lt W.lt;have tg7:=rY.lt;refine Ln ⟨s11.old,?_⟩;refine ig<|dG rY 0 (h1:=(fun j hj=>by rcases j with _|_|_|_|_|_|_|_|_|_|_|_|_|_|j <;> first|rfl|omega)) fun rW rF s12 z8 => ?_
 have yP:aP rW g7 5 zR0 106:=aN rF;have b12:=s12.below b11 b11.size (by omega);refine Ln<|aX aF<|bQ<|Ws<|ay<|av aF<|av aG<|av aG<|bF<|bF<|bF<|av aG<|aD<|aM<|ay<|av (.nilFunc)<|av (au 12)<|aD<|Wr<|sR<|aJ (.tuple #[.nilFunc,au 12]) ?_;have C:jK m v=12:=by unfold jK; rw[b_ (show ¬ iD m v.o v.req=true by unfold iD; rw[qA jN]; decide)]; exact d_ (.inl (qA abu))
 exact⟨⟨.nilFunc,0,#[],by rw[C],rfl,fun L=>M_ (C.symm.trans L) (by first|decide|omega|assumption)⟩,b12⟩
namespace Rt
noncomputable def jh(m:dQ)(v:EvM):dQ:=if v.kind=1 then DR m v else if v.kind=2 then vk m v else if v.kind=3 then kY m v else if v.kind=4 then iR m v else if v.kind=5 then DK m v else if v.kind=6 then IQ m v else C8 m v
def fM(m:dQ)(v:EvM):Int:=if v.kind=1 then jy m v else if v.kind=2 then jT m v else if v.kind=3 then kI m v else if v.kind=4 then jK m v else if v.kind=5 then kX m v else if v.kind=6 then 0 else 0
def cK(m:dQ)(v:EvM):Int:=if bR v=false then 1 else if lN m.known v=true then 14 else if dL m.known v=false then 13 else if m.inn (aO v)=false\/m.left (aO v)=true then 10 else fM m v
structure QlK(m:dQ):Prop where
 own : ∀ a,a<6->0<=m.own a/\m.own a<=1000
 row : ∀ i,i<m.T.n -> ∀ p,p<54->0<=m.R i p/\m.R i p<=1125899906842624
 ga:RH m
 kn:Ay m.known
def kfn(k:Nat):Nat:=if k=1 then 207 else if k=2 then 208 else if k=3 then 209 else if k=4 then 210 else if k=5 then 211 else if k=6 then 212 else 213
def A8:Nat->Value:=fun p=>if p=0 then .nilFunc else .func (.func (kfn p)) #[] #[]
theorem ZC{p:Nat}(h:1<=p):A8 p = .func (.func (kfn p)) #[] #[]:=b_ (by omega)
end Rt
theorem aiR {k : Nat} (h1 : 1 ≤ k) (b : k ≤ 7) : ∃ a c, Tryz.prog.funcs[kfn k]? = some a ∧ (a.name == "runtime.NumGoroutine") = false ∧ a.body = some c := by
 rcases(show k=1\/k=2\/k=3\/k=4\/k=5\/k=6\/k=7 by omega)with rfl|rfl|rfl|rfl|rfl|rfl|rfl
 ·exact⟨_,_,Tryz.func207,rfl,rfl⟩
 ·exact⟨_,_,Tryz.func208,rfl,rfl⟩
 ·exact⟨_,_,Tryz.func209,rfl,rfl⟩
 ·exact⟨_,_,Tryz.func210,rfl,rfl⟩
 ·exact⟨_,_,Tryz.func211,rfl,rfl⟩
 ·exact⟨_,_,Tryz.func212,rfl,rfl⟩
 exact⟨_,_,Tryz.func213,rfl,rfl⟩
theorem VF.low{w:World}{B f b c d:Nat}{m g:dQ}{e:Value}{cap:Array Value}(h:VF w B f m g b e d cap)(i:c<=b):VF w B f m g c e d cap := { h with s:=fun n j=>(h.s n j).mono fun _ _ a=>⟨a.1,a.2.1,a.2.2.mono fun k l=>l.imp id (m_ i)⟩ }
theorem ZE(m:dQ)(a B:Nat)(w:World)(h:mG w B a m)(v:EvM)(d:bR v=true)(f:gD v)(e:QlK m)(k:Nat)(l:v.kind=(k:Int))(j:1<=k/\k<=7) :
 Calls Tryz.prog (kfn k) #[(pt a),.agg (aA 14 (bJ v))] w (Si w B a m (jh m v) (fM m v)):=by
 rcases(show k=1\/k=2\/k=3\/k=4\/k=5\/k=6\/k=7 by omega)with rfl|rfl|rfl|rfl|rfl|rfl|rfl
 ·have c:v.kind=1:=by omega
  rw[show jh m v=DR m v by unfold jh; rw[d_ (by omega)],show fM m v=jy m v by unfold fM; rw[d_ (by omega)]];exact Zw m a B w h v d e.own
 ·have c:v.kind=2:=by omega
  rw[show jh m v=vk m v by unfold jh; rw[b_ (by omega),d_ (by omega)],show fM m v=jT m v by unfold fM; rw[b_ (by omega),d_ (by omega)]];exact VT m a B w h v d c e.row
 ·have c:v.kind=3:=by omega
  rw[show jh m v=kY m v by unfold jh; rw[b_ (by omega),b_ (by omega),d_ (by omega)],show fM m v=kI m v by unfold fM; rw[b_ (by omega),b_ (by omega),d_ (by omega)]];exact Zz m a B w h v d f e.ga
 ·have c:v.kind=4:=by omega
  rw[show jh m v=iR m v by unfold jh; rw[b_ (by omega),b_ (by omega),b_ (by omega),d_ (by omega)],show fM m v=jK m v by unfold fM; rw[b_ (by omega),b_ (by omega),b_ (by omega),d_ (by omega)]];exact ZA m a B w h v d f
 ·have c:v.kind=5:=by omega
  rw[show jh m v=DK m v by unfold jh; rw[b_ (by omega),b_ (by omega),b_ (by omega),b_ (by omega),d_ (by omega)],show fM m v=kX m v by unfold fM; rw[b_ (by omega),b_ (by omega),b_ (by omega),b_ (by omega),d_ (by omega)]];exact Zk m a B w h v d c
 ·have c:v.kind=6:=by omega
  rw[show jh m v=IQ m v by unfold jh; rw[b_ (by omega),b_ (by omega),b_ (by omega),b_ (by omega),b_ (by omega),d_ (by omega)],show fM m v=0 by unfold fM; rw[b_ (by omega),b_ (by omega),b_ (by omega),b_ (by omega),b_ (by omega),d_ (by omega)]];obtain⟨b,g,i⟩:=Iw d c;exact Zl m a B w h v d b g i
 have c:v.kind=7:=by omega
 rw[show jh m v=C8 m v by unfold jh; rw[b_ (by omega),b_ (by omega),b_ (by omega),b_ (by omega),b_ (by omega),b_ (by omega)],show fM m v=0 by unfold fM; rw[b_ (by omega),b_ (by omega),b_ (by omega),b_ (by omega),b_ (by omega),b_ (by omega)]];exact VX m a B w h v d
theorem Qa(m:dQ)(b B:Nat)(w:World)(h:mG w B b m)(v:EvM)(n:gD v)(R:QlK m)(hB:1<=B)(N:iV w 0 0 8 A8) :
 Calls Tryz.prog 52 #[(pt b),.agg (aA 14 (bJ v))] w fun e w'=>Si w B b m (jh m v) (cK m v) e w':=by
 have M:=h.c;have hT:=h.t;have hP:=h.p;have hR:=h.r;have hG:=h.g;have hA:=h.a;have hN:=h.ne;have lC:=h.c.lt;have lT:=h.t.lt;have lP:=h.p.lt;have lR:=h.r.lt;have lG:=h.g.lt;have lA:=h.a.lt;obtain⟨s,Q⟩ : ∃ s:Nat,v.kind=(s:Int):=⟨v.kind.toNat,by have:=n.kind; omega⟩;have O:Kr m.known:=fun i hi=>by have:=R.kn i hi; exact⟨by omega,by omega⟩
 refine Kent Tryz.func52 55 ?_;refine ay<|om fun y w1 A F s1 z1 => ?_;have⟨m2,m8,H⟩:=gL s1.old M N (Below.refl w.heap.size w);have qZ:=gI A;have⟨mJ,yV,xV,BR,yN⟩:=Ap A M.lt hP.lt hR.lt hG.lt hA.lt;have Ll:0≠y:=by rw[A]; exact u_ (N.lt (by omega))
 have sF:=F.lt;refine av (.nilFunc)<|av (au 0)<|aD<|Ws<|Wb<|ay<|av (pt b)<|Lv aF (Fx.nD rfl rfl rfl (by kernel_rfl))<|av aF<|aD<|aK<|ay<|Lv (.agg (aA 14 (bJ v))) (eT F.aH 0) ?_;by_cases k:(bR v)=true
 ·have D:bR v=true:=k;obtain⟨a,ha,ho⟩ : ∃ a:Nat,a<6/\v.o=(a:Int)+1:=fq (jk D);have E:aO v=a:=by unfold aO; omega
  have hkr:=jE D;refine dU (IK v _ n) aG (by rw[k]) ?_;intro w2 hb1;have⟨m9,m15,m16,b2⟩:=jw hb1 m2 m8 F H;refine av aF<|av aF<|aD<|aK<|Ws ?_;refine ko [0,1,2,3,4,5,6] [0,0,0,4,4,3,0] [(5,3,[3]),(5,4,[4]),(6,5,[5])] fun qC dN iE => ?_;have⟨S,m23,T,I⟩:=jw dN m9 m15 m16 b2;refine aX (pt b)<|aX (pt b)<|aX (pf b 12)<|Rs (.agg (aA 6 (rv .u64 m.known))) (eT S.aH 12 (fun j hj=>sO (p:=j) (by omega) (by omega))) ?_;refine Rs (.agg (aA 14 (bJ v))) (eT T.aH 0) ?_;refine ig ?_;by_cases l:(lN m.known v)=true
  ·refine dU (VP m.known v _ n) aG (by rw[l]) ?_;intro w3 hb2;have b4:=bD hb2 I;refine Ln<|aX aG<|bQ<|aM<|ay<|av (.nilFunc)<|av (au 14)<|aD<|Wr<|bM<|sR<|aJ (.tuple #[.nilFunc,au 14]) ?_;have d:cK m v=14:=(by unfold cK; rw[b_ (by rw[k]; decide)]; exact d_ l);exact⟨⟨.nilFunc,0,#[],by rw[d],rfl,fun f=>M_ (d.symm.trans f) (by first|decide|omega|assumption)⟩,b4⟩
  rw[T_]at l;refine dU (VP m.known v _ n) aF (by rw[l]) ?_;intro w4 hb3;have⟨oU,pY,tZ,b5⟩:=jw hb3 S m23 T I;refine Ln<|aX aF<|bQ<|aK<|Ws ?_;refine ko [0,1,2,3,4,5,6,7] [0,0,0,4,4,3,0,0] [(5,3,[3]),(5,4,[4]),(6,5,[5]),(7,5,[5])] fun Cr gK nU => ?_;have⟨U,sG,V,J⟩:=jw gK oU pY tZ b5;refine aX (pt b)<|aX (pt b)<|aX (pf b 12)<|Rs (.agg (aA 6 (rv .u64 m.known))) (eT U.aH 12 (fun j hj=>sO (p:=j) (by omega) (by omega))) ?_;refine Rs (.agg (aA 14 (bJ v))) (eT V.aH 0) ?_;refine ig ?_;by_cases q:(dL m.known v)=true
  ·refine dU (PW m.known v _ n O) aG (by rw[q]) ?_;intro w5 hb4;have⟨sH,wo,uf,b7⟩:=jw hb4 U sG V J;refine Ln<|aX aF<|aX aF<|bQ<|aK<|Ws<|Ws ?_;refine ko [0,1,4,5,2,3,6,7,8,9] [0,0,4,0,0,0,0,4,0,0] [] fun R9 mK Bv => ?_;have⟨G,uh,W,K⟩:=jw mK sH wo uf b7;refine aX (pt b)<|aX (pt y)<|aX (pt b)<|aX (pt b)<|Rs (au v.o) (aL W.aH 0) ?_;refine Rp (au a) (fun _=>gN)<|Rp (pf b a) (fun _=>jV 6 1) ?_;by_cases u:(m.inn a)=true
   ·refine Rs aG (aL G.aH a ((CY (by omega)).trans (L_ Value.bool u))) ?_;refine aX aF<|aX aF<|bQ<|aK ?_;refine ko [0,1,4,5,2,3,6,7,8] [0,0,4,0,0,0,0,4,0] [] fun wt4 rJ Ig => ?_;have⟨X,uH,Y,L⟩:=jw rJ G uh W K;refine aX (pt b)<|aX (pt y)<|aX (pt b)<|aX (pf b 6)<|Rs (au v.o) (aL Y.aH 0) ?_;refine Rp (au a) (fun _=>gN)<|Rp (pf b (a+6)) (fun _=>jV 6 1) ?_;by_cases x:(m.left a)=true
    ·refine Rs aG (aL X.aH (a+6) ((BP (p:=a) (by omega) (by omega)).trans (L_ Value.bool x))) ?_;refine aX aG<|bQ<|aM<|ay<|av (.nilFunc)<|av (au 10)<|aD<|Wr<|bM<|sR<|aJ (.tuple #[.nilFunc,au 10]) ?_;have d:cK m v=10:=(by unfold cK; rw[b_ (by rw[k]; decide)]; rw[b_ (by rw[l]; decide)]; rw[b_ (by rw[q]; decide)]; exact d_ (.inr (by rw[E]; exact x)));exact⟨⟨.nilFunc,0,#[],by rw[d],rfl,fun f=>M_ (d.symm.trans f) (by first|decide|omega|assumption)⟩,L⟩
    rw[T_]at x;refine Rs aF (aL X.aH (a+6) ((BP (p:=a) (by omega) (by omega)).trans (L_ Value.bool x))) ?_;refine aX aF<|bQ<|aK<|Wk<|bS<|sN<|Ws ?_;refine ko [0,4,1,2,3,5,6,7,8,9,10] [0,4,0,4,0,4,3,0,0,0,0] [(6,1,[3,2,1]),(6,3,[3]),(6,5,[5]),(7,6,[6]),(8,6,[6]),(9,6,[6]),(10,6,[6])] fun wt5 Ag TN => ?_;have⟨xQ,Z,z⟩:=gL Ag uH Y L;refine aX (pf y 8)<|aX (pt b)<|Rs (.int .u8 (s:Int)) (aL Z.aH 8 (L_ (Value.int IntKind.u8) Q)) ?_;refine Rp (pf 0 s) (fun _=>jV 8 1)<|Rs (.func (.func (kfn s)) #[] #[]) (aL xQ s (ZC (by omega))) ?_;refine Rs (.agg (aA 14 (bJ v))) (eT Z.aH 0) ?_;refine ig<|zX (by rfl) (Fx.PS (args := [(pt b),.agg (aA 14 (bJ v))]) rfl rfl rfl (by rfl) (aiR (by omega) (by omega))) rfl<|(ZE m b B _ (h.up z) v D n R s Q (by omega)).mono ?_;rintro e9 w6 ⟨⟨C,fi1,QL,P,ho1,hD1⟩,hb5⟩;refine⟨_,P,?_⟩;clear P;have aa:=bD hb5 z;refine Ln<|aX (C)<|aX (au (fM m v))<|aX (C)<|aX (au (fM m v))<|bQ<|Wr<|aJ (.tuple #[C,au (fM m v)]) ?_;have d:cK m v=fM m v:=(by unfold cK; rw[b_ (by rw[k]; decide)]; rw[b_ (by rw[l]; decide)]; rw[b_ (by rw[q]; decide)]; exact b_ (by rw[E,u,x]; decide));exact⟨⟨_,_,_,by rw[d],ho1,fun f=>(hD1 (d.symm.trans f)).low z.size⟩,aa⟩
   rw[T_]at u;refine Rs aF (aL G.aH a ((CY (by omega)).trans (L_ Value.bool u))) ?_;refine aX aG<|aX aG<|bQ<|aM<|Wk<|sN<|aM<|ay<|av (.nilFunc)<|av (au 10)<|aD<|Wr<|bM<|sR<|aJ (.tuple #[.nilFunc,au 10]) ?_;have d:cK m v=10:=(by unfold cK; rw[b_ (by rw[k]; decide)]; rw[b_ (by rw[l]; decide)]; rw[b_ (by rw[q]; decide)]; exact d_ (.inl (by rw[E]; exact u)));exact⟨⟨.nilFunc,0,#[],by rw[d],rfl,fun f=>M_ (d.symm.trans f) (by first|decide|omega|assumption)⟩,K⟩
  rw[T_]at q;refine dU (PW m.known v _ n O) aF (by rw[q]) ?_;intro w7 hb6;have ab:=bD hb6 J;refine Ln<|aX aG<|aX aG<|bQ<|aM<|ay<|av (.nilFunc)<|av (au 13)<|aD<|Wr<|bM<|sR<|aJ (.tuple #[.nilFunc,au 13]) ?_;have d:cK m v=13:=by unfold cK; rw[b_ (by rw[k]; decide)]; rw[b_ (by rw[l]; decide)]; exact d_ q
  exact⟨⟨.nilFunc,0,#[],by rw[d],rfl,fun f=>M_ (d.symm.trans f) (by first|decide|omega|assumption)⟩,ab⟩
 rw[T_]at k;refine dU (IK v _ n) aF (by rw[k]) ?_;intro w8 hb7;have ac:=bD hb7 H;refine av aG<|av aG<|aD<|aM<|ay<|av (.nilFunc)<|av (au 1)<|aD<|Wr<|bM<|sR<|aJ (.tuple #[.nilFunc,au 1]) ?_;have d:cK m v=1:=by unfold cK; exact d_ k
 exact⟨⟨.nilFunc,0,#[],by rw[d],rfl,fun f=>M_ (d.symm.trans f) (by first|decide|omega|assumption)⟩,ac⟩
namespace Rt
noncomputable def ji(m:dQ)(v:EvM):dQ:=if cK m v=0 then { jh m v with known:=aI (jh m v).known (aO v) ((jh m v).known (aO v)+1) } else m
theorem Mh(m:dQ)(v:EvM):(jh m v).known=m.known:=by
 unfold jh
 repeat (first|rfl|split)
def Gi:Nat->Int:=fun _=>0
def aY(m:dQ)(k:Int):Nat->Int:=if m.T.has k=true then DT m k else Gi
end Rt
theorem mG.known{w w':World}{B d:Nat}{m:dQ}{K:Nat->Int}(h:mG w B d m)(f:Stp d w w')(e:aP w' d 29 (vV { m with known:=K }) 114):mG w' B d { m with known:=K }:=by
 have b:=fQ f h.c.ty;exact { c:=e,t:=h.t.lu b (by decide),p:=h.p.lu b trivial,r:=h.r.lu b trivial,g:=h.g.lu b trivial,a:=h.a.lu b trivial,ne:=⟨h.ne.mp,h.ne.mr,h.ne.mg,h.ne.ma,h.ne.pr,h.ne.pg,h.ne.pa,h.ne.rg,h.ne.ra,h.ne.ga⟩,lB:=h.lB,pB:=h.pB,rB:=h.rB,gB:=h.gB,aB:=h.aB }
theorem qL{m:dQ}{v:EvM}(h:cK m v=0):bR v=true:=by
 cases hc:bR v with
 | true=>rfl
 | false=>unfold cK at h; rw[d_ hc]at h; cases h
theorem qM{m:dQ}{v:EvM}(h:cK m v=0):v.seq=m.known (aO v)+1/\fM m v=0/\m.inn (aO v)=true/\m.left (aO v)=false:=by
 have d:=qL h;unfold cK at h;rw[b_ (by rw[d]; decide)]at h;by_cases c:lN m.known v=true
 ·rw[d_ c]at h; cases h
 rw[b_ c]at h;by_cases a:dL m.known v=false
 ·rw[d_ a]at h; cases h
 rw[b_ a]at h;by_cases b:m.inn (aO v)=false\/m.left (aO v)=true
 ·rw[d_ b]at h; cases h
 rw[b_ b]at h;refine⟨?_,h,?_,?_⟩
 ·have a:dL m.known v=true:=by cases e:dL m.known v with|true=>rfl|false=>exact M_ e a
  unfold dL at a;simp only[S_,P_]at a;exact a.1.2
 ·cases e:m.inn (aO v)with|true=>rfl|false=>exact M_ (.inl e) b
 cases e:m.left (aO v)with|false=>rfl|true=>exact M_ (.inr e) b
theorem aqL(m:dQ)(b B:Nat)(w:World)(h:mG w B b m)(v:EvM)(D:gD v)(C:QlK m)(s:1<=B)(j:iV w 0 0 8 A8) :
 Calls Tryz.prog 19 #[(pt b),.agg (aA 14 (bJ v))] w fun e G=>e = .returned (au (cK m v))/\Below w.heap.size w G:=by
 have u:=h.c;have M:=h.t;have y:=h.p;have z:=h.r;have x:=h.g;have q:=h.a;have L:=h.ne;have P:=h.c.lt;have T:=h.t.lt;have R:=h.p.lt;have S:=h.r.lt;have Q:=h.g.lt;have O:=h.a.lt;refine Kent Tryz.func19 14 ?_;refine ay<|om fun o w1 d l F z1 => ?_;have⟨E,i⟩:=fC F.old j (Below.refl w.heap.size w);have U:=gI d;have⟨V,W,X,Y,Z⟩:=Ap d u.lt y.lt z.lt x.lt q.lt;have aa:0≠o:=by rw[d]; exact u_ (j.lt (by omega))
 have ab:=l.lt;refine av (au 0)<|aD<|ay<|av (pt b)<|Lv (.agg (aA 14 (bJ v))) (eT l.aH 0)<|kU (Qa m b B _ (h.up i) v D C s E) ?_;rintro I w2 ⟨⟨f,J,H,k,N,K⟩,A⟩;refine⟨_,k,?_⟩;clear k;have n:=bD A i;refine av (.tuple #[f,au (cK m v)])<|av (f)<|av (au (cK m v))<|av (f)<|av (au (cK m v))<|aD<|ay<|av (au (cK m v))<|av (au (cK m v))<|aD<|Wr<|aJ (au (cK m v)) ?_;exact⟨rfl,n⟩
theorem ZF(m:dQ)(b B:Nat)(w:World)(h:mG w B b m)(v:EvM)(hwf:gD v)(M:QlK m)(hB:1<=B)(I:iV w 0 0 8 A8) :
 Calls Tryz.prog 20 #[(pt b),.agg (aA 14 (bJ v))] w fun e S=>e = .returned (au (cK m v))/\mG S B b (ji m v)/\jR (Ry m b w.heap.size) w S:=by
 have F:=h.c;have hT:=h.t;have hP:=h.p;have hR:=h.r;have hG:=h.g;have Z:=h.a;have hN:=h.ne;have lC:=h.c.lt;have lT:=h.t.lt;have lP:=h.p.lt;have lR:=h.r.lt;have lG:=h.g.lt;have lA:=h.a.lt;refine Kent Tryz.func20 30 ?_;refine ay<|om fun E w1 x D s1 z1 => ?_;have⟨d,m8,l⟩:=gL s1.old F I (Below.refl w.heap.size w);have qZ:=gI x;have⟨mJ,yV,xV,BR,yN⟩:=Ap x F.lt hP.lt hR.lt hG.lt Z.lt;have Ll:0≠E:=by rw[x]; exact u_ (I.lt (by omega))
 have sF:=D.lt;refine av (au 0)<|aD<|ay<|av (pt b)<|Lv (.agg (aA 14 (bJ v))) (eT D.aH 0)<|kU (Qa m b B _ (h.up l) v hwf M hB m8) ?_;rintro W w2 ⟨⟨z,Y,V,j,ho1,hD1⟩,hb1⟩;refine⟨_,j,?_⟩;clear j;have⟨O,n⟩:=fC hb1 D l;refine av (.tuple #[z,au (cK m v)])<|av (z)<|av (au (cK m v))<|av (z)<|av (au (cK m v))<|aD<|Ws<|ay<|av (au (cK m v)) ?_;by_cases i:(cK m v)=0
 ·refine Lv aF (iN i)<|aD<|aK<|Wk<|sN<|Ws ?_;have A:=hD1 i;have hfe:=A.e;subst hfe;refine Wl<|av (.func (.func Y) #[] V)<|zX (by rfl) (Fx.PS (args := []) rfl rfl rfl (by simp) A.f) rfl<|(A.s _ (Below.refl _ _)).mono ?_;rintro W u ⟨j,C,G⟩;refine⟨_,j,?_⟩;clear j;have J:jR (Ry m b w.heap.size) w u:=(Fx.jR.of_below n) |> fun q=>Fx.jR.trans _ _ _ q (G.mono fun k hk=>hk.imp id (m_ l.size));obtain⟨d,y⟩ : ∃ q,q=jh m v:=⟨_,rfl⟩;rw[<- y]at C;have X:d.known=m.known:=by rw[y,Mh]
  have H:=C.c;have lC2:=H.lt;have hkb:=(qM i).1;have N:=qL i;obtain⟨a,K,ho⟩ : ∃ a:Nat,a<6/\v.o=(a:Int)+1:=fq (jk N);have hra:aO v=a:=by unfold aO; omega
  have hbd:=oJ N;have hka:=M.kn a K;have P:=(h.up n).J3 (w':=u) (O) (by decide) G (by have:=O.lt; have:=l.size; omega);have axI:=P.lt;refine aD<|Ws ?_;refine ko [0,1,4,5,9,10,2,3,6,7,8,11,12] [0,0,4,0,0,0,0,4,0,0,0,0,3] [(12,2,[2]),(12,7,[7])] fun qC L iE => ?_;have s3:Stp u.heap.size u qC:=Sb L;have⟨Q,m19,m20⟩:=gL L H C P;have T:=J.then s3 (.inr J.size);refine aX (pt b)<|aX (pt E)<|aX (pt b)<|aX (pf b 12)<|aX (pt b)<|aX (pf b 12)<|Rs (au v.o) (aL m20.aH 0) ?_;refine Rp (au a) (fun _=>gN)<|Rp (pf b (a+12)) (fun _=>jV 6 1)<|Rs (aC (d.known a)) (aL Q.aH (a+12) (sO (p:=a) (by omega) (by omega))) ?_;refine Rp (aC (d.known a+1)) (fun v1=>Fx.Hq rfl rfl rfl (jU (by rw[X]; omega) rfl))<|Rp (pf b (a+12)) (fun _=>jV 6 1)<|ig<|jv Q (a+12) (aC (d.known a+1)) fun w4 m21 R z2 => ?_;have m22:aP w4 b 29 (vV { d with known:=aI d.known a (d.known a+1) }) 114:=m21.to (Rx K (by omega) _);have U:=T.then R (.inl (.inl (.inl rfl)));refine Ln (bQ (ay (av (au 0) (aD (Wr (aJ (au 0) (⟨by rw[i],?_,U⟩)))))));rw[show ji m v = { d with known:=aI d.known a (d.known a+1) } by unfold ji; rw[d_ i,<- y,hra]];exact m19.known R m22
 refine Lv aG (jZ i) (aD (aM (ay (av (au (cK m v)) (av (au (cK m v)) (aD (Wr (sR (aJ (au (cK m v)) (⟨rfl,?_,Fx.jR.of_below n⟩))))))))));rw[show ji m v=m by unfold ji; exact b_ i]; exact h.up n
namespace Rt
def yt(k f c d e b a:Nat):dQ := { inn:=fun i=>decide (i<k),left:=fun _=>false,known:=fun _=>0,own:=fun _=>0,T:=dS.zero,R:=fun _ _=>0,gn:=0,g:=fun _ _=>0,an:=0,ao:=fun _=>0,ar:=fun _=>0,tp:=f,mb:=c,pb:=d,rb:=e,gb:=b,ab:=a }
end Rt
theorem WQ(k g c d f b a:Nat)(h:k<6):dF (vV (yt k g c d f b a)) k (.bool true)=vV (yt (k+1) g c d f b a):=by
 rw[VD h];have:aI (yt k g c d f b a).inn k true=(yt (k+1) g c d f b a).inn:=by
  funext i
  show(if i=k then true else decide (i<k))=decide (i<k+1);by_cases e:i=k
  ·subst e; rw[d_ rfl]; exact(f_ (by omega)).symm
  ·rw[b_ e]; exact decide_eq_decide.2 (by omega)
 show vV { yt k g c d f b a with inn:=_ }=_;rw[this]; rfl
theorem ZG(m:dQ)(b B:Nat)(w:World)(h:mG w B b m) :
 Calls Tryz.prog 21 #[(pt b)] w fun e D=>e = .returned (.agg (aA 6 (rv .u64 m.known)))/\Below w.heap.size w D:=by
 have i:=h.c;have G:=h.t;have s:=h.p;have u:=h.r;have q:=h.g;have o:=h.a;have F:=h.ne;have J:=h.c.lt;have N:=h.t.lt;have L:=h.p.lt;have M:=h.r.lt;have K:=h.g.lt;have I:=h.a.lt;refine Kent Tryz.func21 10 ?_;refine ay<|Cg (m:=6) (y:=rv .u64 (fun _=>0)) (by rfl) rfl (by kernel_rfl) rfl fun n V f k A W => ?_;have⟨v,d⟩:=fC A.old i (Below.refl w.heap.size w);have O:=gI f;have⟨P,Q,R,S,T⟩:=Ap f i.lt s.lt u.lt q.lt o.lt;have U:=k.lt;refine aD<|Ws<|ay<|av (pt b)<|Lv aF (Fx.nD rfl rfl rfl (by kernel_rfl))<|aD<|aK<|Wk<|sN<|ay<|av (pt b)<|av (pt b)<|av (pf b 12)<|Lv (.agg (aA 6 (rv .u64 m.known))) (eT v.aH 12 (fun j H=>sO (p:=j) (by omega) (by omega)))<|dG k 0 fun E x C X => ?_;have z:aP E n 6 (rv .u64 m.known) 35:=aN x;have l:=C.below d d.size (by omega);refine aD (Wr (⟨.agg (aA 6 (rv .u64 m.known)),rV Tryz.results21 ⟨_,rfl,aR z.aH (by kernel_rfl) (by kernel_rfl)⟩,?_⟩));exact⟨rfl,l⟩
theorem ZH(m:dQ)(f B:Nat)(w:World)(h:mG w B f m)(i b:Int)(hi : -9223372036854775808<=i/\i<=9223372036854775807) :
 Calls Tryz.prog 31 #[(pt f),au i,aC b] w fun e C=>e = .returned (au (gF (aY m b) i))/\Below w.heap.size w C:=by
 have v:=h.c;have H:=h.t;have G:=h.p;have o:=h.r;have E:=h.g;have D:=h.a;have F:=h.ne;have J:=h.c.lt;have N:=h.t.lt;have L:=h.p.lt;have M:=h.r.lt;have K:=h.g.lt;have I:=h.a.lt;refine Kent Tryz.func31 17 ?_;refine ay<|av (au 0)<|aD<|Ws<|ay<|av (pt f)<|Lv aF (Fx.nD rfl rfl rfl (by kernel_rfl))<|aD<|aK<|Wk<|sN<|ay<|av (pt f)<|av (pt f)<|av (pf f 20)<|Lv (.map (some m.rb)) (aL v.aH 20)<|av (aC b) ?_
 rcases Fx.sZ m.T.x m.T.n b with ⟨d,l,j⟩|jN
 ·refine Lv (.agg (aA 54 (rv .i64 (m.R d)))) (Fx.wN (z := .agg (aA 54 (rv .i64 (fun _=>0)))) rfl rfl rfl o Tryz.underlying109 Tryz.underlying23 (by kernel_rfl) l j rfl)<|av (au i)<|dU (wY (m.R d) i _ hi) _ rfl ?_;intro O y;have s:=bD y (Below.refl w.heap.size w);refine av (au (gF (m.R d) i))<|aD<|Wr<|aJ (au (gF (m.R d) i)) ?_;have k:aY m b=m.R d:=by unfold aY DT; rw[d_ (show m.T.has b=true from jW l j),show m.idx b=d from nJ h.t.inv.inj l j]
  exact⟨L_ (fun q=>Ending.returned (Value.int .i64 (gF q i))) k.symm,s⟩
 refine Lv (.agg (aA 54 (rv .i64 (fun _=>0)))) (Fx.O5 (z := .agg (aA 54 (rv .i64 (fun _=>0)))) rfl rfl rfl o Tryz.underlying109 Tryz.underlying23 (by kernel_rfl) jN)<|av (au i)<|dU (wY (fun _=>0) i _ hi) _ rfl ?_;intro P A;have u:=bD A (Below.refl w.heap.size w);refine av (au (gF (fun _=>0) i))<|aD<|Wr<|aJ (au (gF (fun _=>0) i)) ?_;have k:aY m b=Gi:=by unfold aY; exact b_ (by rw[show m.T.has b=false from zo jN]; decide)
 exact⟨L_ (fun q=>Ending.returned (Value.int .i64 (gF q i))) k.symm,u⟩
theorem aiS(k:Nat)(hk:1<=k/\k<=6)(w:World) :
 Calls Tryz.prog 29 #[au (k:Int)] w fun e w' => ∃ W m,e = .returned (.tuple #[(pt W),au 0])/\(∃ tp mb pb rb gb ab,m=yt k tp mb pb rb gb ab)/\mG w' w.heap.size W m/\Below w.heap.size w w':=by
 refine Kent Tryz.func29 30 ?_;refine ay<|av (.pointer none)<|av (au 0)<|aD<|Ws<|ay<|av (au k)<|Lv aF HY<|av aF<|av (au k)<|Lv aF yF<|av aF<|aD<|aK<|Wk<|sN<|ay<|kU (abd _) ?_;rintro e9 w1 ⟨n,x,V,hg1,X,hb1⟩;refine⟨_,V,?_⟩;clear V;have J:=bD hb1 (Below.refl w.heap.size w);have m2:tC w1 (w.heap.size) n x dS.zero:=X.weak (Below.refl w.heap.size w).size;clear X hg1;refine Fx.L.KQ (by rfl) rfl rfl fun o w2 Q G s2 z1 => ?_;have⟨m4,K⟩:=fC s2.old m2 J;have qZ:=iw Q J.size;have afc:=cu Q m2.lt;have sF:=G.lt;refine Fx.L.KQ (by rfl) rfl rfl fun q w3 R H s3 z2 => ?_;have⟨m6,m7,M⟩:=gL s3.old m4 G K;have pK:=iw R K.size;have⟨afd,Iq⟩:=oQ R m4.lt G.lt;have xR:=H.lt;refine Fx.L.Ti (by rfl) rfl rfl fun s w4 S I s4 z3 => ?_;have⟨m9,Y,Z,N⟩:=jw s4.old m6 m7 H M;have Ae:=iw S M.size;have⟨afe,aff,Ot⟩:=Bq S m6.lt m7.lt H.lt;have Ed:=I.lt;refine Fx.L.Ti (by rfl) rfl rfl fun u w5 T E s5 z4 => ?_;have⟨m13,aa,ac,ad,O⟩:=lJ s5.old m9 Y Z I N;have PE:=iw T N.size;have⟨afg,aeW,WO,Ov⟩:=Nu T m9.lt Y.lt Z.lt I.lt;have NS:=E.lt;refine av (.agg (aA 29 (bC (bC (bC (bC (bC (fun d=>if d<12 then .bool false else if d<18 then aC 0 else if d<19 then .pointer none else if d<21 then .map none else if d<27 then au 0 else .map none) 18 1 (fun _=>(pt n))) 19 1 (fun _ => .map (some o))) 20 1 (fun _ => .map (some q))) 27 1 (fun _ => .map (some s))) 28 1 (fun _ => .map (some u)))))<|D6 (m:=29) (y:=bC (bC (bC (bC (bC (fun d=>if d<12 then .bool false else if d<18 then aC 0 else if d<19 then .pointer none else if d<21 then .map none else if d<27 then au 0 else .map none) 18 1 (fun _=>(pt n))) 19 1 (fun _ => .map (some o))) 20 1 (fun _ => .map (some q))) 27 1 (fun _ => .map (some s))) 28 1 (fun _ => .map (some u))) (by rfl) rfl rfl (bK _ _) rfl fun b w6 U ae s6 z5 => ?_;have⟨m18,m19,m20,m21,m22,b6⟩:=qY s6.old m13 aa ac ad E O;have lg5:=iw U O.size;have⟨aqM,aqN,aqO,aqP⟩:=Nu U aa.lt ac.lt ad.lt E.lt;have tg5:=ae.lt;have l:QlN (yt 0 n x o q s u):=⟨afc,afd,afe,afg,by assumption,by assumption,by assumption,by assumption,by assumption,by assumption⟩;have m23:aP w6 b 29 (vV (yt 0 n x o q s u)) 114:=ae.congr (fun j hj=>match j,hj with|0,_=>rfl|1,_=>rfl|2,_=>rfl|3,_=>rfl|4,_=>rfl|5,_=>rfl|6,_=>rfl|7,_=>rfl|8,_=>rfl|9,_=>rfl|10,_=>rfl|11,_=>rfl|12,_=>rfl|13,_=>rfl|14,_=>rfl|15,_=>rfl|16,_=>rfl|17,_=>rfl|18,_=>rfl|19,_=>rfl|20,_=>rfl|21,_=>rfl|22,_=>rfl|23,_=>rfl|24,_=>rfl|25,_=>rfl|26,_=>rfl|27,_=>rfl|28,_=>rfl|j+29,h=>M_ h (by omega))
 refine av (pt b)<|aD<|Ws<|ay<|av (au k)<|av (au 0)<|aD<|Wb<|Wo (fun f z => ∃ i:Nat,i<=k/\f 4=(pt b)/\f 19=au (k:Int)/\f 20=au (i:Int)/\tC z (w.heap.size) n x dS.zero/\Mp z o 0 (fun _=>0) (fun _ => .pointer none)/\Mp z q 0 (fun _=>0) (fun _ => .pointer none)/\iL z s 0 (fun _=>0) (fun _=>0) (fun _ => .pointer none)/\iL z u 0 (fun _=>0) (fun _=>0) (fun _ => .pointer none)/\aP z b 29 (vV (yt i n x o q s u)) 114/\Below w.heap.size w z) (fun f _=>((k:Int)-intOf (f 20)).toNat) ⟨0,(by omega),(by rfl),Fx.ic,Fx.ic,m18,m19,m20,m21,m22,m23,b6⟩ ?_;rintro f1 w7 ⟨i,v,C,D,A,m24,mM,mU,oo,ou,F,B⟩;refine ay ?_;by_cases P:(i:Int)<(k:Int)
 ·refine Lv aG (gY P (hx:=A) (hy:=D))<|aD<|Ws<|aM<|Wk<|sN<|Ws<|Wb<|ay<|aW A<|av (au i)<|aD<|Wl<|aW C<|av (au i)<|av (pt b)<|av (pt b)<|Lv (pf b i) (jV 6 1)<|jv F i aG fun w8 nk s7 z6 => ?_;have lI:aP w8 b 29 (vV (yt (i+1) n x o q s u)) 114:=nk.to (WQ i _ _ _ _ _ _ (by omega));have fO:=fQ s7 F.ty;have⟨m32,oU,nH,nR,mO⟩:=rT fO m24 mM mU oo ou;have b8:=s7.below B B.size (by omega);refine Ln<|bS<|sN<|Wl<|Lv (au ((i:Int)+1)) (fH (hx:=A))<|av (au ((i:Int)+1))<|Ln<|iG ⟨i+1,(by omega),C,(D.trans Fx.ic),Fx.ic,m32,oU,nH,nR,mO,lI,b8⟩ ?_;show((k:Int)-intOf (au ((i:Int)+1))).toNat<_;simp only[A,intOf]; omega
 refine Lv aF (gZ P (hx:=A) (hy:=D))<|aD<|Ws<|aK<|Wx<|cB<|gW<|bZ<|sN<|ay<|aW C<|av (pt b)<|av (au 0)<|aD<|Wr<|aJ (.tuple #[(pt b),au 0]) ?_;have eik:i=k:=by omega
 subst eik;exact⟨b,yt i n x o q s u,rfl,⟨_,_,_,_,_,_,rfl⟩,{ c:=F,t:=m24,p:=mM.um fun i v=>M_ v (z_ _),r:=mU.um fun i v=>M_ v (z_ _),g:=oo.um fun i v=>M_ v (z_ _),a:=ou.um fun i v=>M_ v (z_ _),ne:=⟨l.mp,l.mr,l.mg,l.ma,l.pr,l.pg,l.pa,l.rg,l.ra,l.ga⟩,lB:=lg5,pB:=qZ,rB:=pK,gB:=Ae,aB:=PE },B⟩
end Go.Proofs.YtcbedgfikejkoaaGreatDoor
namespace Go.Proofs.YtcbedgfikejkoaaGreatDoor.Fx
open Go.RowKit Go.Shelf Go.Sort Go.Lib
def kZ(a b:Int):Int:=if a<b then -1 else if b<a then 1 else 0
theorem Qb(a b:Int):kZ a b<0<->a<b:=by
 unfold kZ;split
 ·simp_all
 split <;> simp_all
theorem ZI{c:Type}(ky:c->Int):SWO (ltOf fun x y=>kZ (ky x) (ky y)):=by
 have e : ∀ x y,(ltOf fun x y=>kZ (ky x) (ky y)) x y=decide (ky x<ky y):=fun x y=>by
  unfold ltOf;exact decide_eq_decide.2 (Qb _ _)
 refine⟨fun x => ?_,fun x y z a b => ?_,fun x y z a b => ?_⟩ <;> simp only[e,decide_eq_true_eq,decide_eq_false_iff_not]at * <;> omega
end Go.Proofs.YtcbedgfikejkoaaGreatDoor.Fx
namespace Go.Proofs.YtcbedgfikejkoaaGreatDoor.Fx
open Go.RowKit Go.Shelf Go.Sort Go.Lib
theorem Mi{w:World}{B g cap m N s:Nat}{E:TypeId}(a:Array Value)(os:Array Obj){x:Nat->Value}(h:Own w B E s (.slice (some ⟨g,0,none⟩) m cap) m x)(f:a.size=m*s) :
 Own (sortWorld id w g 0 N a os) B E s (.slice (some ⟨g,0,none⟩) m cap) m (fun q=>a[q]!)/\Stp g w (sortWorld id w g 0 N a os):=by
 rcases h.2 with ⟨b,_⟩|⟨g',cap',cur,b,hB,hg,hn,hm,hs,ht⟩
 ·cases b
 simp only[Value.slice.injEq,Option.some.injEq,Addr.mk.injEq]at b;obtain⟨⟨rfl,_⟩,_,rfl⟩:=b;have n:g<w.heap.size:=(t_.1 hg).1;have d:(sortWorld id w g 0 N a os).heap=(w.heap.modify g (onCells (putCells id 0 a)))++os:=rfl;have e : ∀ k,k<w.heap.size->(sortWorld id w g 0 N a os).heap[k]? = (w.heap.modify g (onCells (putCells id 0 a)))[k]? := fun k c=>by
  rw[d,Array.getElem?_append_left (by simpa using c)]
 have p:m*s<=cap*s:=Nat.mul_le_mul_right s hn;refine⟨⟨by simp,.inr ⟨g,cap,putCells id 0 a cur,rfl,hB,?_,hn,hm,?_,?_⟩⟩,⟨rfl,rfl,rfl,by rw[d]; simp,fun k c o => ?_⟩⟩
 ·rw[e g n,Array.getElem?_modify,d_ rfl,hg]; rfl
 ·simp[putCells,hs]
 ·apply List.ext_getElem?;intro i;by_cases j:i<m*s
  ·have l:i<cur.size:=(by omega);rw[List.getElem?_take_of_lt (by omega),Array.getElem?_toList];unfold putCells;rw[Array.getElem?_mapIdx,Array.getElem?_eq_getElem l];simp[j,f]
  rw[List.getElem?_eq_none (by simp; omega),List.getElem?_eq_none (by simp; omega)]
 rw[e k c,Array.getElem?_modify,b_ (Ne.symm o)]
theorem Ow{w:World}{B g cap m s:Nat}{E:TypeId}(d:Array Value){x:Nat->Value}(h:Own w B E s (.slice (some ⟨g,0,none⟩) m cap) m x)(n:d.size=m*s)(hx : ∀ q,q<m*s->x q=d[q]!)(i:0<m) :
 Holds id w g 0 d/\g<w.heap.size:=by
 obtain⟨l,k,e,_,f,_,c⟩:=h.form i
 rcases h.2 with ⟨a,_⟩|⟨g2,cap2,cur,a,hB,hg,hn,hm,hs,ht⟩
 ·cases a
 simp only[Value.slice.injEq,Option.some.injEq,Addr.mk.injEq]at a e;obtain⟨⟨rfl,_⟩,_,rfl⟩:=a;obtain⟨⟨rfl,_⟩,_,rfl⟩:=e;refine⟨fun j o=>⟨?_,?_⟩,f⟩
 ·have b:=c j (by omega);rw[b,hx j (by omega)]; rfl
 simp[World.frozen?,hg]
theorem IZ{a:Type} [Inhabited a]{s:Nat}{enc:a->Nat->Value}{e0:a}{l:List a}(f:0<s) : ∀ q,q<l.length*s->flat s (fun k=>enc (l.getD k e0)) q=(Go.Sort.flatK (fun x=>(List.range s).map (enc x)) s l.toArray)[q]! := fun q b=>by
 have d:q / s<l.length:=Nat.div_lt_of_lt_mul (by rw[Nat.mul_comm]; exact b);have e:q % s<s:=J_ _ f;rw[Go.Sort.get_flatK _ _ _ q (by simpa using b)];unfold flat;have c:l.toArray[q / s]! = l.getD (q / s) e0:=by simp[d]
 rw[c];simp[e]
theorem WR{P:Program}{ρ:Ren}(I:SlLaysF0.n6 P ρ){p:Nat}(U : ∀ J w,(callFunc p J).run P w = .ok (.enter p J) w){w:World}{B cap s:Nat}{a:Option Addr}{E:TypeId}(L:0<s)
 (S : ∀ w,(isAgg (ρ.t 24)).run P w = .ok true w) (zE : ∀ w,(Go.sizeOf (ρ.t 24)).run P w = .ok s w) {o:Type} [Inhabited o] {enc:o->Nat->Value} {e0:o} (h1 : ∀ x j,j<s->(enc x j).oneCell'=true) {ky:o->Int} {l:List o}
 (h:Own w B E s (.slice a l.length cap) l.length (flat s fun q=>enc (l.getD q e0)))
 (Y : ∀ O x y,Calls P p #[.agg (aA s (enc x)),.agg (aA s (enc y))] O fun e c=>e = .returned (.int .i64 (kZ (ky x) (ky y))) /\ ∃ q os',c=grow (O.drewN q) os') (hm:l.length<4611686018427387904) :
 Calls P (ρ.f 6) #[.slice a l.length cap,.func (.func p) #[] #[]] w fun e c=>e = .returned (.tuple #[]) /\ ∃ H:List o,H.Perm l/\H.Pairwise (fun x y=>ky x<=ky y)/\Own c B E s (.slice a l.length cap) l.length (flat s fun q=>enc (H.getD q e0))/\(∀ k,k<w.heap.size->(Value.slice a l.length cap).ownBlock≠some k->c.heap[k]? = w.heap[k]?)/\jm [E] w c/\Below B w c:=by
 by_cases V:l.length=0
 ·have F:l = []:=List.length_eq_zero_iff.1 V;subst F;refine(AnyF.slices_SortFunc_none I a cap _ w).mono ?_;rintro e c ⟨D,rfl⟩;exact⟨D,[],List.Perm.refl _,List.Pairwise.nil,h,fun _ _ _=>rfl,wm _,Below.refl _ _⟩
 obtain⟨g,c2,u,hB,hg,hmc,_⟩:=h.form (by omega);simp only[Value.slice.injEq]at u;obtain⟨rfl,_,rfl⟩:=u;have A : ∀ x,((fun x=>(List.range s).map (enc x)) x).length=s:=fun x=>by simp
 have hsz:(Go.Sort.flatK (fun x=>(List.range s).map (enc x)) s l.toArray).size=l.length*s:=by simp
 obtain⟨X,F⟩:=Ow _ h hsz (IZ L) (by omega);have hty:Ty w g E:=h.ty rfl;have C : ∀ x,((List.range s).map (enc x)).toArray=aA s (enc x):=fun x=>by
  apply Array.ext
  ·simp[bY]
  ·intro i h1 W;have m:i<s:=(by simpa using h1);have:=gM (enc x) m;rw[Array.getElem?_eq_getElem W]at this;rw[C_ this]; simp
 have K:=AnyQ.slices_SortFunc I s S zE (fun x=>(List.range s).map (enc x)) A (fun x v C=>by
  obtain⟨j,z,rfl⟩:=List.mem_map.1 C;exact h1 x j (O_.1 z)) (fun x y=>kZ (ky x) (ky y)) (ZI _) p #[] g 0 cap l.toArray w U
  (fun N r dk hdk x y=>by rw[C,C]; exact Y _ x y) X F (by simpa using hm)
 rw[show l.toArray.size=l.length by simp]at K;refine K.mono ?_;rintro e c ⟨D,b,N,r,⟨n,_,M⟩,hso,rfl⟩;have n:b.size=l.length:=by simpa using n
 have hw:sortWorldK (fun x=>(List.range s).map (enc x)) s w g 0 N b r=sortWorld id w g 0 N (Go.Sort.flatK (fun x=>(List.range s).map (enc x)) s b) r:=rfl;rw[hw];obtain⟨o1,d⟩:=Mi (N:=N) (Go.Sort.flatK (fun x=>(List.range s).map (enc x)) s b) r h (by simp[n]);have u:(b.extract 0 l.length).toList=b.toList:=by
  rw[<- n]; simp
 have T:(l.toArray.extract 0 l.length).toList=l:=by simp
 rw[u,T]at M;refine⟨D,b.toList,M,?_,?_,fun k A hne=>d.block k A (fun e=>hne (by rw[e]; rfl)),fQ d hty,⟨d.os,d.tape,d.output,d.size,fun k A=>d.block k (by omega) (by omega)⟩⟩
 ·rw[List.pairwise_iff_getElem];intro i j Z z aa;have m:=hso i j (K_ _) aa (by rw[<- n]; simpa using z);unfold ltOf at m;rw[decide_eq_false_iff_not,Qb]at m;have Q:b[i]! = b.toList[i]:=by rw[getElem!_pos b i (by simpa using Z)]; simp
  have R:b[j]! = b.toList[j]:=by rw[getElem!_pos b j (by simpa using z)]; simp
  rw[Q,R]at m;exact Int.not_lt.1 m
 have:=fun q (G:q<l.length*s)=>IZ (enc:=enc) (e0:=e0) (l:=b.toList) L q (by simpa [n] using G);have o3:Own (sortWorld id w g 0 N (Go.Sort.flatK (fun x=>(List.range s).map (enc x)) s b) r) B E s (.slice (some ⟨g,0,none⟩) l.length cap) l.length (flat s fun q=>enc (b.toList.getD q e0)):=o1.congr fun q G=>by
  have:=this q G;simp only[Array.toArray_toList]at this;exact this.symm
 exact o3
end Go.Proofs.YtcbedgfikejkoaaGreatDoor.Fx
namespace Go.Proofs.YtcbedgfikejkoaaGreatDoor
open Go.Shelf
def RI:Go.Shelf.Ren:=⟨fun|6=>47|15=>87|14=>86|28=>137|29=>138|20=>129|21=>130|22=>131|23=>132|24=>133|25=>134|26=>135|27=>136|46=>164|47=>165|48=>166|49=>167|50=>168|57=>185|n=>n,fun|22=>48|24=>106|25=>122|3=>3|39=>161|0=>0|53=>181|55=>23|4=>4|46=>208|45=>207|50=>212|5=>5|9=>9|66=>237|70=>241|76=>251|77=>252|n=>n,fun|n=>n⟩
theorem aiT:Go.Proofs.SlLaysF0.n6 Tryz.prog RI := {
 mixed:=by kernel_rfl
 f6:=⟨Tryz.f47.name,by decide,Tryz.func47.trans (L_ some (by kernel_rfl))⟩
 f14:=⟨Tryz.f86.name,by decide,Tryz.func86.trans (L_ some (by kernel_rfl))⟩
 f15:=Tryz.func87.trans (L_ some (by kernel_rfl))
 f20:=⟨Tryz.f129.name,by decide,Tryz.func129.trans (L_ some (by kernel_rfl))⟩
 f21:=⟨Tryz.f130.name,by decide,Tryz.func130.trans (L_ some (by kernel_rfl))⟩
 f22:=⟨Tryz.f131.name,by decide,Tryz.func131.trans (L_ some (by kernel_rfl))⟩
 f23:=⟨Tryz.f132.name,by decide,Tryz.func132.trans (L_ some (by kernel_rfl))⟩
 f24:=⟨Tryz.f133.name,by decide,Tryz.func133.trans (L_ some (by kernel_rfl))⟩
 f25:=⟨Tryz.f134.name,by decide,Tryz.func134.trans (L_ some (by kernel_rfl))⟩
 f26:=⟨Tryz.f135.name,by decide,Tryz.func135.trans (L_ some (by kernel_rfl))⟩
 f27:=⟨Tryz.f136.name,by decide,Tryz.func136.trans (L_ some (by kernel_rfl))⟩
 f28:=Tryz.func137.trans (L_ some (by kernel_rfl))
 f29:=Tryz.func138.trans (L_ some (by kernel_rfl))
 f46:=⟨Tryz.f164.name,by decide,Tryz.func164.trans (L_ some (by kernel_rfl))⟩
 f47:=Tryz.func165.trans (L_ some (by kernel_rfl))
 f48:=Tryz.func166.trans (L_ some (by kernel_rfl))
 f49:=⟨Tryz.f167.name,by decide,Tryz.func167.trans (L_ some (by kernel_rfl))⟩
 f50:=⟨Tryz.f168.name,by decide,Tryz.func168.trans (L_ some (by kernel_rfl))⟩
 f57:=⟨Tryz.f185.name,by decide,Tryz.func185.trans (L_ some (by kernel_rfl))⟩
 t0:=Tryz.underlying0
 a0:=Tryz.isAgg0
 z0:=Tryz.sizeOf0
 v0:=Tryz.zeroValue0
 t3:=Tryz.underlying3
 a3:=Tryz.isAgg3
 z3:=Tryz.sizeOf3
 v3:=Tryz.zeroValue3
 t4:=Tryz.underlying4
 a4:=Tryz.isAgg4
 z4:=Tryz.sizeOf4
 v4:=Tryz.zeroValue4
 t5:=Tryz.underlying5
 a5:=Tryz.isAgg5
 z5:=Tryz.sizeOf5
 v5:=Tryz.zeroValue5
 t9:=Tryz.underlying9
 a9:=Tryz.isAgg9
 z9:=Tryz.sizeOf9
 v9:=Tryz.zeroValue9
 t22:=Tryz.underlying48
 a22:=Tryz.isAgg48
 z22:=Tryz.sizeOf48
 v22:=Tryz.zeroValue48
 t25:=Tryz.underlying122
 a25:=Tryz.isAgg122
 z25:=Tryz.sizeOf122
 v25:=Tryz.zeroValue122
 t39:=Tryz.underlying161
 a39:=Tryz.isAgg161
 z39:=Tryz.sizeOf161
 v39:=Tryz.zeroValue161
 t45:=Tryz.underlying207
 a45:=Tryz.isAgg207
 z45:=Tryz.sizeOf207
 v45:=Tryz.zeroValue207
 t46:=Tryz.underlying208
 a46:=Tryz.isAgg208
 z46:=Tryz.sizeOf208
 v46:=Tryz.zeroValue208
 t50:=Tryz.underlying212
 a50:=Tryz.isAgg212
 z50:=Tryz.sizeOf212
 v50:=Tryz.zeroValue212
 t53:=Tryz.underlying181
 a53:=Tryz.isAgg181
 z53:=Tryz.sizeOf181
 v53:=Tryz.zeroValue181
 t55:=Tryz.underlying23
 a55:=Tryz.isAgg23
 z55:=Tryz.sizeOf23
 v55:=Tryz.zeroValue23
 t66:=Tryz.underlying237
 a66:=Tryz.isAgg237
 z66:=Tryz.sizeOf237
 v66:=Tryz.zeroValue237
 t70:=Tryz.underlying241
 a70:=Tryz.isAgg241
 z70:=Tryz.sizeOf241
 v70:=Tryz.zeroValue241
 t76:=Tryz.underlying251
 a76:=Tryz.isAgg251
 z76:=Tryz.sizeOf251
 v76:=Tryz.zeroValue251
 t77:=Tryz.underlying252
 a77:=Tryz.isAgg252
 z77:=Tryz.sizeOf252
 v77:=Tryz.zeroValue252 }
end Go.Proofs.YtcbedgfikejkoaaGreatDoor
namespace Go.Proofs.YtcbedgfikejkoaaGreatDoor
open Go.RowKit Go.Sort Rt
namespace Fx
def ZJ(w w':World):Prop := ∃ q a,w'=grow (w.drewN q) a
theorem ZJ.refl(w:World):ZJ w w:=⟨0,#[],by rw[grow_empty]; rfl⟩
theorem ZJ.alloc{w a b:World}(h:ZJ w a)(z : ∃ o,b=a.alloc o):ZJ w b:=by
 obtain⟨q,c,rfl⟩:=h;obtain⟨o,rfl⟩:=z;exact⟨q,c ++ #[o],by rw[alloc_eq_grow,grow_grow]⟩
theorem ZJ.drew{w a b:World}(h:ZJ w a)(z:b=a.drew):ZJ w b:=by
 obtain⟨q,c,rfl⟩:=h;subst z;exact⟨q+1,c,rfl⟩
section
variable {P:Program} {n:Nat} {Q:Post} {f:Nat->Value} {w:World} {ops:Array Oper} {rest:List Oper} {o:Oper}
theorem L.aiU{T:TypeId}{x:Operand}{v:Value}{m:Nat}{y:Nat->Value}(i:Region.wanted o (yf ops f)=true)(d:o.op = .box T x)(hx:ev f x=v)(b:v.cells=aA m y)(c:inn n o.dst=true)
 (h : ∀ g a,g=w.heap.size->aP a g m y T->Stp w.heap.size w a->(∃ o,a=w.alloc o)->L P n ops Q rest (put f o.dst (.pointer (some ⟨g,0,none⟩))) a):L P n ops Q (o::rest) f w:=by
 have e:(execOp (ev f) o).run P w = .ok (.value (.pointer (some ⟨w.heap.size,0,none⟩))) (w.alloc (.cells v.cells T)):=by
  unfold execOp;simp[d,hx,Instr.box,newVar,newRow]
 refine L.val i e c (h _ _ rfl ?_ (Stp.alloc _ _) ⟨_,rfl⟩);show(w.alloc _).heap[w.heap.size]? = _;rw[alloc_at,d_ rfl,b]
theorem L.ZK{T E:TypeId}{len s:Nat}{l:List (Nat × Operand)}{vs:List (Nat × Value)}{zc y:Nat->Value}(I:Region.wanted o (yf ops f)=true)(B:o.op = .buildSlice T len l.toArray)(C:l.map (fun p=>(p.1,ev f p.2))=vs)(H:P.underlying T=some (.slice E))(k:(P.info? E).map (·.size)=some s)
 (q:Nat.ble (len*s) 16777216=true) (d:Nat.beq (len*s) 0=false) (J:((P.info? E).bind (·.zero)).map (·.cells)=some (aA s zc)) (u:Instr.fill (fun i=>some (i*s,s)) (aA (len*s) (fun j=>zc (j % s))) vs=some (aA (len*s) y)) (t:inn n o.dst=true)
 (h : ∀ g a,g=w.heap.size->aP a g (len*s) y E->Stp w.heap.size w a->(∃ o,a=w.alloc o)->L P n ops Q rest (put f o.dst (.slice (some ⟨g,0,none⟩) len len)) a):L P n ops Q (o::rest) f w:=by
 obtain⟨z,K,M⟩:=Option.map_eq_some_iff.1 J;obtain⟨i,c,N⟩:=Option.bind_eq_some_iff.1 K;have G:i.size=s:=by rw[c]at k; simpa using k
 have O : ¬ len*s>2^24:=by have:=Nat.le_of_ble_eq_true q; omega
 have b:len*s≠0:=fun e=>by rw[e]at d; exact M_ d (by decide)
 have F:0<s:=Nat.pos_of_ne_zero fun e=>b (by rw[e,Nat.mul_zero]);have r:(Array.range (len*s)).map (fun j=>z.cells[j % z.cells.size]!)=aA (len*s) (fun j=>zc (j % s)):=by
  refine vE (by simp) fun j x => ?_;have A:j % s<s:=J_ _ F;have v:=gM zc A;rw[M];simp[x,bY];rw[getElem!_def,v]
 have D:(execOp (ev f) o).run P w = .ok (.value (.slice (some ⟨w.heap.size,0,none⟩) len len)) (w.alloc (.cells (aA (len*s) y) E)):=by
  unfold execOp;simp only[B,List.map_toArray,C];unfold Instr.buildSlice;have m : ¬ 16777216<len*s:=by omega
  simp[underlying,sizeOf,typeInfo,zeroValue,H,c,G,N,m];simp[b,r,u,newRow]
 refine L.val I D t (h _ _ rfl ?_ (Stp.alloc _ _) ⟨_,rfl⟩);show(w.alloc _).heap[w.heap.size]? = _;rw[alloc_at,d_ rfl]
end
section
variable {P:Program} {n:Nat} {ops:List Oper} {Q:Post}
theorem W.afh{f:Nat->Value}{w:World}{id:Nat}(l:List Nat)(cs:List Nat)(S:World->World->Prop)(j : ∀ w,S w w)(m : ∀ a b c,S a b->S b c->S a c)(fK:List (Nat × Nat × List Nat))(t:P.follows .mixedOrders=true)(u:mH n ops=true)(x:Region.noSelect ops.toArray=true)(e:Am ops l=true)(v:wK ops cs fK l=true)
 (h : ∀ g,Below w.heap.size w g->g=w.drew->R P n ops cs S Q l f g):W P n (.region id ops.toArray true) Q f w:=fun a o=>by
 refine wp_region_any t ?_;unfold Am at e;rw[S_,S_,S_,List.all_eq_true,List.all_eq_true]at e;obtain⟨⟨⟨y,z⟩,p3⟩,p4⟩:=e;have s:=B_ y;have A:l.Nodup:=h_ p3;have:=R.any (P:=P) (Q:=Q) (fK:=fK) u x j m ops.length l (Array.replicate ops.length false) a f w.drew s (by simp) (Kt.start _ _ _) (fun i=>by
  have p : ∀ i,(Array.replicate ops.length false).getD i false=false:=fun i=>getD_replicate_false _ _;constructor
  ·intro d; exact⟨by simpa [Nat.blt_eq] using z i d,p i⟩
  ·intro d;obtain⟨k,q,r⟩:=List.any_eq_true.1 (p4 i (by simpa using d.1));rw[B_ r]; exact q) A (wL v) o (h w.drew (Below.refl _ _).drew rfl)
 simpa using this
end
end Fx
namespace Rt
structure Ke where
 x:Nat->Int
 h:0<=x 1/\x 1<=18446744073709551615
def g0:Ke:=⟨fun _=>0,by decide⟩
instance:Inhabited Ke:=⟨g0⟩
def KA(x:Nat->Int):Ke:=if h:0<=x 1/\x 1<=18446744073709551615 then⟨x,h⟩else g0
def Mj(x:Ke):Int:=x.x 0*18446744073709551616+x.x 1
theorem abv{x:Nat->Int}(h:0<=x 1/\x 1<=18446744073709551615):(KA x).x=x:=by unfold KA; rw[dif_pos h]
def Sk(a b:Int):Int:=if a=0 then b else a
def Ox(a b:Int)(i:Nat):Int:=if i=0 then a else b
def orW(a b:Int):Nat->Value:=fun j => .int .i64 (Ox a b j)
section
variable {a b:Int} {i:Nat}
theorem aqQ(d:i=0\/a=0)(c:Ox a b i=0):i+1=0\/a=0:=by
 unfold Ox at c
 rcases d with rfl|e
 ·exact .inr (by simpa using c)
 exact .inr e
theorem aqR(d:i=0\/a=0)(c:Ox a b i=0):i+1<2\/Sk a b=0:=by
 unfold Ox at c;by_cases e:i=0
 ·exact .inl (by omega)
 rw[b_ e]at c
 rcases d with h|h
 ·exact M_ h e
 exact .inr (by unfold Sk; rw[d_ h]; exact c)
theorem aqS(d:i=0\/a=0)(c : ¬ Ox a b i=0):Sk a b=Ox a b i:=by
 unfold Ox at c ⊢;unfold Sk;by_cases e:i=0
 ·rw[d_ e]at c ⊢; rw[b_ c]
 rw[b_ e]
 rcases d with h|h
 ·exact M_ h e
 rw[d_ h]
theorem aqT(h:i<2\/Sk a b=0)(c : ¬ (i:Int)<2):Sk a b=0:=by
 rcases h with h|h
 ·omega
 exact h
end
theorem afi(x y:Ke):Sk (Fx.kZ (x.x 0) (y.x 0)) (Fx.kZ (x.x 1) (y.x 1))=Fx.kZ (Mj x) (Mj y):=by
 have a:=x.h;have b:=y.h;unfold Sk Fx.kZ Mj
 repeat' split
 all_goals first|rfl|omega
structure RJ(n:Nat)(S:Nat->Bool)(il:List Nat):Prop where
 nd:il.Nodup
 mem : ∀ i,i∈il<->(i<n/\S i=true)
theorem RJ.start(n:Nat):RJ n (fun _=>false) []:=⟨List.nodup_nil,fun i=>⟨fun h=>(nomatch h),fun h=>(nomatch h.2)⟩⟩
theorem RJ.step{n i:Nat}{S:Nat->Bool}{c:List Nat}(h:RJ n S c)(hi:i<n)(l:S i=false):RJ n (Fx.aQ S i true) (c ++ [i]):=by
 have k:i ∉ c:=fun g=>by have:=((h.mem i).1 g).2; rw[l]at this; cases this
 refine⟨List.nodup_append.2 ⟨h.nd,by simp,fun a f b d e => ?_⟩,fun j => ?_⟩
 ·rw[List.mem_singleton]at d; subst d; subst e; exact k f
 rw[List.mem_append,List.mem_singleton,h.mem];show _<->(j<n/\(if j=i then true else S j)=true);by_cases e:j=i
 ·subst e; rw[d_ rfl]; exact⟨fun _=>⟨hi,rfl⟩,fun _ => .inr rfl⟩
 rw[b_ e]; exact⟨fun h=>h.elim id fun h=>M_ h e,fun h => .inl h⟩
theorem RJ.len{n:Nat}{S:Nat->Bool}{c:List Nat}(h:RJ n S c):c.length<=n :=
 C9 n c.length (fun q=>c.getD q 0) (fun q d=>by
  have:c.getD q 0∈c:=by rw[r_,o_ d]; exact Q_ d
  exact((h.mem _).1 this).1) fun a b f g e=>by
  have e:c.getD a 0=c.getD b 0:=e;rw[r_,r_,o_ f,o_ g]at e;exact(List.getElem_inj h.nd).1 e
structure GrS(m:dQ)(l:List Ke):Prop where
 mem : ∀ x,x∈l -> ∃ i,i<m.gn/\x.x=m.g i
 all : ∀ i,i<m.gn -> ∃ x,x∈l/\x.x=m.g i
 up:l.Pairwise fun x y=>Mj x<Mj y
theorem GrS.of{m:dQ}{w:World}{b:Nat}{t:List Nat}{l:List Ke}{S:Nat->Bool}(o:Fx.iL w b m.gn (fun i=>m.g i 0) (fun i=>m.g i 1) (uZ m.g))(hi:RJ m.gn S t)(z : ∀ i,i<m.gn->S i=true)(r:l.Perm (t.map fun i=>KA (m.g i)))(B:l.Pairwise fun x y=>Mj x<=Mj y):GrS m l:=by
 have k : ∀ i,i<m.gn->(KA (m.g i)).x=m.g i:=fun i hi=>abv (o.ok hi).b;have f : ∀ i,i∈t<->i<m.gn:=fun i=>by rw[hi.mem]; exact⟨fun h=>h.1,fun h=>⟨h,z i h⟩⟩
 have p : ∀ x,x∈l -> ∃ i,i<m.gn/\x=KA (m.g i):=fun x s=>by
  obtain⟨i,c,d⟩:=List.mem_map.1 (r.mem_iff.1 s);exact⟨i,(f i).1 c,d.symm⟩
 have A:l.Nodup:=by
  rw[r.nodup_iff,List.nodup_iff_pairwise_ne,List.pairwise_map];refine(List.nodup_iff_pairwise_ne.1 hi.nd).imp_of_mem fun {a b} ha hb q e=>q ?_;have c:=L_ Ke.x e;rw[k a ((f a).1 ha),k b ((f b).1 hb)]at c;exact o.inj a b ((f a).1 ha) ((f b).1 hb) (by show m.g a 0=m.g b 0; rw[c]) (by show m.g a 1=m.g b 1; rw[c])
 refine⟨fun x s => ?_,fun i c => ?_,?_⟩
 ·obtain⟨i,c,d⟩:=p x s;exact⟨i,c,by rw[d,k i c]⟩
 ·exact⟨KA (m.g i),r.mem_iff.2 (List.mem_map.2 ⟨i,(f i).2 c,rfl⟩),k i c⟩
 refine(B.and (List.nodup_iff_pairwise_ne.1 A)).imp_of_mem fun {a b} ha hb h => ?_;obtain⟨i,c,u⟩:=p a ha;obtain⟨j,d,v⟩:=p b hb;have q:=h.2
 rcases Int.lt_or_eq_of_le h.1 with h3|h3
 ·exact h3
 exfalso;have C:=a.h;have D:=b.h;unfold Mj at h3;refine q ?_;have n:a.x 0=b.x 0/\a.x 1=b.x 1:=by omega
 rw[u,v,k i c,k j d]at n;have:=o.inj i j c d n.1 n.2;rw[u,v,this]
def WS(m:dQ)(l:List Int)(k:Nat):Nat->Value:=mZ (l.getD k 0) (m.T.par (l.getD k 0)) (DT m (l.getD k 0))
def X7(l:List Ke)(k:Nat):Nat->Value:=jf (l.getD k g0).x
theorem Ml{id par:Int}{R:Nat->Int}{z:Nat->Value} : ∀ j,j<56->Fx.bC (Fx.bC (Fx.bC z 0 1 (fun _ => .int .u64 id)) 1 1 (fun _ => .int .u64 par)) 2 54 (Fx.rv .i64 R) j=mZ id par R j:=fun j a=>by
 unfold Fx.bC mZ
 rcases(show j=0\/j=1\/2<=j by omega)with rfl|rfl|h
 ·rfl
 ·rfl
 ·rw[d_ (by omega),b_ (by omega),b_ (by omega)]; rfl
theorem ZL{m:dQ}{l:List Int}{n:Nat}{id par:Int}{R:Nat->Int}{z z2:Nat->Value}(b:l.getD n 0=id)(c:m.T.par id=par)(d:DT m id=R) : ∀ j,j<(n+1)*56->Fx.iM (Fx.flat 56 (WS m l)) (n*56) (Fx.bC z (0*56) 56 (Fx.bC (Fx.bC (Fx.bC z2 0 1 (fun _ => .int .u64 id)) 1 1 (fun _ => .int .u64 par)) 2 54 (Fx.rv .i64 R))) j=Fx.flat 56 (WS m l) j:=fun j a =>
 (Fx.yD j a).trans (Fx.bL (fun k _ q f=>by
  unfold Fx.rR;by_cases e:k=n
  ·subst e; rw[d_ rfl,Ml q f]; unfold WS; rw[b,c,d]
  ·rw[b_ e]) j a)
theorem ZM{g:Nat->Nat->Int}{a:List Nat}{i:Nat}{z:Nat->Value} : ∀ j,j<(a.length+1)*5->Fx.iM (Fx.flat 5 fun k=>jf (g (a.getD k 0))) (a.length*5) (Fx.bC z (0*5) 5 (jf (g i))) j=Fx.flat 5 (fun k=>jf (g ((a ++ [i]).getD k 0))) j:=fun j b =>
 (Fx.yD j b).trans (Fx.bL (fun k c q _=>by
  unfold Fx.rR;by_cases e:k=a.length
  ·subst e; rw[d_ rfl]; simp[r_]
  ·rw[b_ e]; show jf (g (a.getD k 0)) q=_; rw[r_,r_,List.getElem?_append_left (by omega)]) j b)
theorem ZN{m:dQ}{a:List Nat}{S:Nat->Bool}{w:World}{b:Nat}(d:Fx.iL w b m.gn (fun i=>m.g i 0) (fun i=>m.g i 1) (uZ m.g))(hi:RJ m.gn S a) : ∀ j,j<(a.map fun i=>KA (m.g i)).length*5->Fx.flat 5 (fun k=>jf (m.g (a.getD k 0))) j=Fx.flat 5 (X7 (a.map fun i=>KA (m.g i))) j:=fun j f =>
 Fx.bL (n:=(a.map fun i=>KA (m.g i)).length) (fun k c q _=>by
  rw[List.length_map]at c;unfold X7;have h:a.getD k 0∈a:=by rw[r_,o_ c]; exact Q_ c
  have e:((a.map fun i=>KA (m.g i)).getD k g0)=KA (m.g (a.getD k 0)):=by
   rw[r_,r_,o_ (by rw[List.length_map]; exact c),o_ c,List.getElem_map]; rfl
  rw[e,abv (d.ok ((hi.mem _).1 h).1).b]) j f
theorem RL(s:Ef)(a:Option Addr)(n c:Nat):Fx.dF (lS s) 18 (.slice a n c)=lS { s with na:=a,nn:=n,nc:=c }:=by
 funext p
 unfold Fx.dF lS;by_cases e:p=18
 ·subst e; rw[d_ rfl,b_ (by omega),b_ (by omega),b_ (by omega),d_ rfl]
 rw[b_ e]
 repeat' split
 all_goals first|rfl|omega
theorem Oy(s:Ef)(a:Option Addr)(n c:Nat) : ∀ p,p<20->Fx.dF (lS s) 19 (.slice a n c) p=lS { s with ga:=a,gn:=n,gc:=c } p:=fun p b=>by
 unfold Fx.dF lS;by_cases e:p=19
 ·subst e; rw[d_ rfl,b_ (by omega),b_ (by omega),b_ (by omega),b_ (by omega)]
 ·rw[b_ e]
  repeat' split
  all_goals first|rfl|omega
def WT(m:dQ)(d:Option Addr)(f e:Nat)(a:Option Addr)(c b:Nat):Ef:=⟨m.inn,m.left,m.known,d,f,e,a,c,b⟩
theorem ZO{id par:Int}{R:Nat->Int}{z z2:Nat->Value} : ∀ j,j<1*56->(Fx.bC z (0*56) 56 (Fx.bC (Fx.bC (Fx.bC z2 0 1 (fun _ => .int .u64 id)) 1 1 (fun _ => .int .u64 par)) 2 54 (Fx.rv .i64 R)) j).oneCell'=true:=fun j a=>by
 rw[show Fx.bC z (0*56) 56 (Fx.bC (Fx.bC (Fx.bC z2 0 1 (fun _ => .int .u64 id)) 1 1 (fun _ => .int .u64 par)) 2 54 (Fx.rv .i64 R)) j=Fx.bC (Fx.bC (Fx.bC z2 0 1 (fun _ => .int .u64 id)) 1 1 (fun _ => .int .u64 par)) 2 54 (Fx.rv .i64 R) (j-0*56) by unfold Fx.bC; rw[d_ (by omega)],Ml _ (by omega)];exact vN _ _ _ _
theorem ZP{x:Nat->Int}{z:Nat->Value} : ∀ j,j<1*5->(Fx.bC z (0*5) 5 (jf x) j).oneCell'=true:=fun j a=>by
 unfold Fx.bC; rw[d_ (by omega)]; exact qz x _
theorem afj{m:dQ}{c:List Nat}{S:Nat->Bool}{w f:World}{b B cap d:Nat}{a:Option Addr}{T:TypeId}(l:Fx.iL w b m.gn (fun i=>m.g i 0) (fun i=>m.g i 1) (uZ m.g))(hi:RJ m.gn S c)(e:d=c.length)(n:Fx.Own f B T 5 (.slice a d cap) d (Fx.flat 5 fun k=>jf (m.g (c.getD k 0)))) :
 Fx.Own f B T 5 (.slice a (c.map fun i=>KA (m.g i)).length cap) (c.map fun i=>KA (m.g i)).length (Fx.flat 5 (X7 (c.map fun i=>KA (m.g i)))):=by
 have h:=n.congr (y:=Fx.flat 5 (X7 (c.map fun i=>KA (m.g i)))) (fun j o=>ZN l hi j (by rw[List.length_map,<- e]; exact o));rw[List.length_map,<- e]; exact h
theorem WU(m:dQ){z:Nat->Value}(e : ∀ j,18<=j->z j = .slice none 0 0){x1 x2:Nat->Value}(h1 : ∀ j,j<6->x1 j = .bool (m.inn j))(d : ∀ j,j<6->x2 j = .bool (m.left j)) : ∀ j,j<20->Fx.bC (Fx.bC (Fx.bC z 0 6 x1) 6 6 x2) 12 6 (Fx.rv .u64 m.known) j=lS (WT m none 0 0 none 0 0) j:=fun j f=>by
 unfold Fx.bC lS;by_cases a:j<6
 ·rw[b_ (by omega),b_ (by omega),d_ (by omega),d_ a]; exact h1 _ (by omega)
 ·by_cases b:j<12
  ·rw[b_ (by omega),d_ (by omega),b_ a,d_ b]; exact d _ (by omega)
  ·by_cases c:j<18
   ·rw[d_ (by omega),b_ a,b_ b,d_ c]; rfl
   ·rw[b_ (by omega),b_ (by omega),b_ (by omega),b_ a,b_ b,b_ c,e j (by omega)];split <;> rfl
end Rt
structure StQ(w:World)(B:Nat)(m:dQ)(s:Ef)(l:List Int)(gl:List Ke):Prop where
 inn:s.inn=m.inn
 left:s.left=m.left
 known:s.known=m.known
 nn:s.nn=l.length
 gn:s.gn=gl.length
 ls:l.Pairwise (· < ·) /\ ∀ k,k∈l<->m.T.has k=true
 len:l.length<=32
 gs:GrS m gl
 glb:gl.length<=m.gn
 n:Fx.Own w B 84 56 (.slice s.na s.nn s.nc) s.nn (Fx.flat 56 (WS m l))
 g:Fx.Own w B 106 5 (.slice s.ga s.gn s.gc) s.gn (Fx.flat 5 (X7 gl))
end Go.Proofs.YtcbedgfikejkoaaGreatDoor
namespace Go.Proofs.YtcbedgfikejkoaaGreatDoor
open Go.RowKit Rt
open Fx (aZ Lv sN Ln Ws Wl Rp Wr Wk rV sR Rs Rn Rd Wb Wx Wo D8 Wt zi zP Cg qU fQ zQ uj wm xM zO zY rv aA aP bC aQ aN flat Mp aR iL iV bf kZ bK cells_one jm bB unseen bM bS cB bZ gW iG pE)
theorem Qc(n:Int)(w:World) :
 Calls Tryz.prog 88 #[au n] w fun e a=>e = .returned (.bool false)/\a=w:=by
 refine Kent Tryz.func88 6 ?_;refine ay<|av aF<|aD<|ay<|av (au n)<|av (au n)<|Lv aF (iN rfl)<|av aF<|aD<|Wr<|aJ aF ?_;exact⟨rfl,rfl⟩
theorem ZQ(a b:Int)(w:World) :
 Calls Tryz.prog 50 #[au a,au b] w fun e f=>e = .returned (au (kZ a b))/\f=w:=by
 refine Kent Tryz.func50 20 ?_;refine ay<|av (au 0)<|aD<|ay<|av (au a)<|mE (Qc a _) _ rfl<|av aF<|aD<|ay<|av (au b)<|mE (Qc b _) _ rfl<|av aF<|aD<|Ws<|ay<|av aF<|aD<|aK<|Wk<|sN<|Ws<|ay<|av aF<|aD<|aK<|Wk<|sN<|Ws<|ay<|av (au a)<|av (au b) ?_;by_cases c:a<b
 ·refine Lv aG (gY c)<|aD<|aM<|ay<|av (au (-1))<|aD<|Wr<|sR<|aJ (au (-1)) ?_;exact⟨by unfold kZ; simp[c],rfl⟩
 refine Lv aF (gZ c)<|aD<|aK<|Wk<|sN<|Ws<|ay<|av (au a)<|av (au b) ?_;by_cases d:b<a
 ·refine Lv aG (mo d)<|aD<|aM<|ay<|av (au 1)<|aD<|Wr<|sR<|aJ (au 1) ?_;exact⟨by unfold kZ; simp[c,d],rfl⟩
 refine Lv aF (mD d)<|aD<|aK<|Wk<|sN<|ay<|av (au 0)<|aD<|Wr<|aJ (au 0) ?_;exact⟨by unfold kZ; simp[c,d],rfl⟩
theorem Qd(n:Int)(w:World) :
 Calls Tryz.prog 89 #[aC n] w fun e a=>e = .returned (.bool false)/\a=w:=by
 refine Kent Tryz.func89 6 ?_;refine ay<|av aF<|aD<|ay<|av (aC n)<|av (aC n)<|Lv aF (iN rfl)<|av aF<|aD<|Wr<|aJ aF ?_;exact⟨rfl,rfl⟩
theorem ZR(a b:Int)(w:World) :
 Calls Tryz.prog 51 #[aC a,aC b] w fun e f=>e = .returned (au (kZ a b))/\f=w:=by
 refine Kent Tryz.func51 20 ?_;refine ay<|av (au 0)<|aD<|ay<|av (aC a)<|mE (Qd a _) _ rfl<|av aF<|aD<|ay<|av (aC b)<|mE (Qd b _) _ rfl<|av aF<|aD<|Ws<|ay<|av aF<|aD<|aK<|Wk<|sN<|Ws<|ay<|av aF<|aD<|aK<|Wk<|sN<|Ws<|ay<|av (aC a)<|av (aC b) ?_;by_cases c:a<b
 ·refine Lv aG (gY c)<|aD<|aM<|ay<|av (au (-1))<|aD<|Wr<|sR<|aJ (au (-1)) ?_;exact⟨by unfold kZ; simp[c],rfl⟩
 refine Lv aF (gZ c)<|aD<|aK<|Wk<|sN<|Ws<|ay<|av (aC a)<|av (aC b) ?_;by_cases d:b<a
 ·refine Lv aG (mo d)<|aD<|aM<|ay<|av (au 1)<|aD<|Wr<|sR<|aJ (au 1) ?_;exact⟨by unfold kZ; simp[c,d],rfl⟩
 refine Lv aF (mD d)<|aD<|aK<|Wk<|sN<|ay<|av (au 0)<|aD<|Wr<|aJ (au 0) ?_;exact⟨by unfold kZ; simp[c,d],rfl⟩
theorem aqU(a b:Int)(c:Nat)(w:World)(q:iV w c 0 2 (orW a b)) :
 Calls Tryz.prog 49 #[bO c 2 2] w fun e s=>e = .returned (au (Sk a b))/\s=w:=by
 refine Kent Tryz.func49 18 ?_;refine ay<|av (au 0)<|aD<|ay<|av (au 0)<|aD<|Ws<|ay<|av (bO c 2 2)<|av (au 2)<|av (au 0)<|aD<|Wb<|Wo (fun f p => ∃ i:Nat,i<=2/\(i=0\/a=0)/\(i<2\/Sk a b=0)/\p=w/\f 3=au 0/\f 6=bO c 2 2/\f 7=au 2/\f 8=au (i:Int)/\iV p c 0 2 (orW a b)) (fun f _=>(2-intOf (f 8)).toNat) ⟨0,(by omega),(.inl rfl),(.inl (by decide)),rfl,Fx.ic,(by rfl),Fx.ic,Fx.ic,q⟩ ?_;rintro t v ⟨i,u,m,r,l,j,n,k,g,o⟩;refine ay ?_;by_cases h:(i:Int)<2
 ·refine Lv aG (gY h (hx:=g) (hy:=k))<|aD<|Ws<|aM<|Wk<|sN<|Ws<|Wb<|ay<|Lv (pf c i) (dh 1 (hx:=n) (hi:=g))<|Lv (au (Ox a b i)) (aL o i)<|av (au (Ox a b i))<|aD<|ay<|av (au (Ox a b i))<|aW j ?_;by_cases d:(Ox a b i)=0
  ·refine Lv aF (iN d)<|aD<|aK<|Wk<|bS<|sN<|Wl<|Lv (au ((i:Int)+1)) (fH (hx:=g))<|av (au ((i:Int)+1))<|Ln<|iG ⟨i+1,(by omega),(aqQ m d),(aqR m d),l,(j.trans Fx.ic),n,(k.trans Fx.ic),Fx.ic,o⟩ ?_;show(2-intOf (au ((i:Int)+1))).toNat<_;simp only[g,intOf]; omega
  refine Lv aG (jZ d)<|aD<|aM<|ay<|av (au (Ox a b i))<|av (au (Ox a b i))<|aD<|Wr<|bM<|sR<|pE<|bM<|sR<|aJ (au (Ox a b i)) ?_;exact⟨by rw[aqS m d],l⟩
 refine Lv aF (gZ h (hx:=g) (hy:=k))<|aD<|Ws<|aK<|Wx<|cB<|gW<|bZ<|sN<|ay<|aW j<|av (au 0)<|aD<|Wr<|aJ (au 0) ?_;exact⟨by rw[aqT r h],l⟩
theorem Rt.afk{w:World}{g:Nat}{a b:Int}{z:Nat->Value}{T:TypeId}(h:aP w g 2 (bC (bC z (0*1) 1 (fun _=>au a)) (1*1) 1 (fun _=>au b)) T):iV w g 0 2 (orW a b):=(h.congr (y:=orW a b) fun j c=>by
 rcases(show j=0\/j=1 by omega)with rfl|rfl <;> rfl).aH
theorem afl(x y:Ke)(w:World) :
 Calls Tryz.prog 48 #[.agg (aA 5 (jf x.x)),.agg (aA 5 (jf y.x))] w fun e H=>e = .returned (au (kZ (Mj x) (Mj y))) /\ ∃ q C,H=Go.Sort.grow (w.drewN q) C:=by
 refine Kent Tryz.func48 17 ?_;refine ay<|Fx.L.aiU (m:=5) (y:=jf x.x) (by rfl) rfl rfl (bK _ _) rfl fun k V t d D I => ?_;have f:=bD D.old (Below.refl w.heap.size w);have M:=gI t;have S:=d.lt;refine Fx.L.aiU (m:=5) (y:=jf y.x) (by rfl) rfl rfl (bK _ _) rfl fun l X g n E J => ?_;have⟨B,p⟩:=fC E.old d f;have N:=iw g f.size;have P:=cu g d.lt;have T:=n.lt;refine av (au 0)<|aD<|Ws ?_;refine Fx.W.afh [0,2,5,7,1,3,6,8,4,9,10,11,12] [0,4,0,4,2,0,1,0,1,2,2,3,0] Fx.Mk uj Fx.Mk.trans (fK := [(4,1,[1]),(9,1,[4,1]),(10,1,[4,1]),(11,1,[10,4,1]),(4,3,[3]),(9,3,[4,3]),(10,3,[4,3]),(11,3,[10,4,3]),(11,6,[9,6]),(11,8,[9,8]),(9,4,[4]),(10,4,[4]),(11,4,[10,4]),(12,4,[4]),(10,9,[9]),(11,9,[9]),(12,9,[9]),(11,10,[10]),(12,10,[10]),(12,11,[11])]) (by kernel_rfl) (by kernel_rfl) (by kernel_rfl) (by kernel_rfl) (by kernel_rfl) fun Z z A => ?_;have⟨a,b,r⟩:=gL z B n p;refine aX (pt k)<|aX (pt l)<|aX (pf k 1)<|aX (pf l 1)<|Rs (au (x.x 0)) (aL a.aH 0) ?_;refine Rs (au (y.x 0)) (aL b.aH 0) ?_;refine Rd (v:=aC (x.x 1)) (by rfl) (by rfl) (uj _) (fun G c=>aZ (x:=jf x.x) rfl rfl (by kernel_rfl) (a.aH.below c (by have:=a.lt; omega)) (i:=1) (by omega) (by omega) rfl) ?_;refine Rd (v:=aC (y.x 1)) (by rfl) (by rfl) (uj _) (fun G c=>aZ (x:=jf y.x) rfl rfl (by kernel_rfl) (b.aH.below c (by have:=b.lt; omega)) (i:=1) (by omega) (by omega) rfl) ?_;refine yw (mE (ZQ (x.x 0) (y.x 0) _) _ rfl (Ln ⟨Below.refl _ _,?_⟩));refine yw (mE (ZR (x.x 1) (y.x 1) _) _ rfl (Ln ⟨Below.refl _ _,?_⟩));refine yw<|Fx.L.ZK (vs := [(0,au (kZ (x.x 0) (y.x 0))),(1,au (kZ (x.x 1) (y.x 1)))]) (s:=1) (zc:=rv .i64 (fun _=>0)) (y:=bC (bC (fun j=>(rv .i64 (fun _=>0)) (j % 1)) (0*1) 1 (fun _=>au (kZ (x.x 0) (y.x 0)))) (1*1) 1 (fun _=>au (kZ (x.x 1) (y.x 1)))) (by rfl) rfl rfl Tryz.underlying90 (by kernel_rfl) (by rfl) (by rfl) (by kernel_rfl) (by rw[bf (off:=0*1) (s:=1) (y:=fun _=>au (kZ (x.x 0) (y.x 0))) rfl (cells_one (by rfl)) (by rfl)]; rw[bf (off:=1*1) (s:=1) (y:=fun _=>au (kZ (x.x 1) (y.x 1))) rfl (cells_one (by rfl)) (by rfl)]; rfl) rfl fun u Y h o F K => ?_;have O:=iw h r.size;have⟨Q,R⟩:=oQ h a.lt b.lt;have U:=o.lt;refine Ln ⟨F.old,?_⟩;refine ig<|mE (aqU (kZ (x.x 0) (y.x 0)) (kZ (x.x 1) (y.x 1)) u _ (afk o)) _ rfl<|Ln<|aX (au (Sk (kZ (x.x 0) (y.x 0)) (kZ (x.x 1) (y.x 1))))<|bQ<|Wr<|aJ (au (Sk (kZ (x.x 0) (y.x 0)) (kZ (x.x 1) (y.x 1)))) ?_;exact⟨by rw[<- afi],(((((Fx.ZJ.refl w).alloc I).alloc J).drew A).alloc K)⟩
theorem afm{w:World}{B cap:Nat}{a:Option Addr}{l:List Ke}(h:Fx.Own w B 106 5 (.slice a l.length cap) l.length (flat 5 (X7 l)))(i:l.length<=1000000) :
 Calls Tryz.prog 47 #[.slice a l.length cap,.func (.func 48) #[] #[]] w fun e b=>e = .returned (.tuple #[]) /\ ∃ c:List Ke,c.Perm l/\c.Pairwise (fun x y=>Mj x<=Mj y)/\Fx.Own b B 106 5 (.slice a l.length cap) l.length (flat 5 (X7 c))/\(∀ k,k<w.heap.size->(Value.slice a l.length cap).ownBlock≠some k->b.heap[k]? = w.heap[k]?)/\jm [106] w b/\Below B w b:=by
 have f:Fx.Own w B 106 5 (.slice a l.length cap) l.length (flat 5 fun q=>(fun x:Ke=>jf x.x) (l.getD q g0)):=h
 have:=Fx.WR aiT (fun d w=>enters_of Tryz.func48 (by kernel_rfl) rfl d w) (by decide) Tryz.isAgg106 Tryz.sizeOf106 (enc:=fun x:Ke=>jf x.x) (e0:=g0) (ky:=Mj) (fun x j _=>qz x.x j) f
  (by intro g x y; refine(afl x y g).mono fun e b h => ?_; exact h) (by omega)
 exact this
theorem ZT{m:dQ}{d:List Nat}{S:Nat->Bool}{p w:World}{b B cap c:Nat}{a:Option Addr}(n:iL p b m.gn (fun i=>m.g i 0) (fun i=>m.g i 1) (uZ m.g))(hi:RJ m.gn S d)(e:c=d.length)(o:Fx.Own w B 106 5 (.slice a c cap) c (flat 5 fun k=>jf (m.g (d.getD k 0))))(q:c<=1000000) :
 Calls Tryz.prog 47 #[.slice a c cap,.func (.func 48) #[] #[]] w fun e f=>e = .returned (.tuple #[]) /\ ∃ h:List Ke,h.Perm (d.map fun i=>KA (m.g i))/\h.Pairwise (fun x y=>Mj x<=Mj y)/\Fx.Own f B 106 5 (.slice a c cap) c (flat 5 (X7 h))/\(∀ k,k<w.heap.size->(Value.slice a c cap).ownBlock≠some k->f.heap[k]? = w.heap[k]?)/\jm [106] w f/\Below B w f:=by
 have j:(d.map fun i=>KA (m.g i)).length=c:=by rw[List.length_map]; exact e.symm
 have l:=afm (afj n hi e o) (by rw[j]; omega);rw[j]at l;exact l
set_option maxHeartbeats 1000000 in
theorem ZU(m:dQ)(u B:Nat)(w:World)(h:mG w B u m)(hgn:m.gn<=900000) :
 Calls Tryz.prog 18 #[(pt u)] w fun e w' => ∃ s l gl,e = .returned (.agg (aA 20 (lS s)))/\StQ w' w.heap.size m s l gl/\Below w.heap.size w w':=by
 have hC:=h.c;have hT:=h.t;have hP:=h.p;have hR:=h.r;have hG:=h.g;have hA:=h.a;have hN:=h.ne;have lC:=h.c.lt;have lT:=h.t.lt;have lP:=h.p.lt;have lR:=h.r.lt;have lG:=h.g.lt;have lA:=h.a.lt;refine Kent Tryz.func18 72 ?_;refine ay<|Cg (m:=20) (y:=fun d=>if d<12 then .bool false else if d<18 then aC 0 else .slice none 0 0) (by rfl) rfl (by kernel_rfl) rfl fun D w1 kM m1 s1 z1 => ?_;have⟨m2,m3,m4,m5,m6,m7,b1⟩:=kg s1.old hC hT hP hR hG hA (Below.refl w.heap.size w);have qZ:=gI kM;have⟨mJ,yV,xV,BR,yN⟩:=Ap kM hC.lt hP.lt hR.lt hG.lt hA.lt;have sF:=m1.lt;refine aD<|Ws<|ay<|av (pt u)<|Lv aF (Fx.nD rfl rfl rfl (by kernel_rfl))<|aD<|aK<|Wk<|sN<|Ws ?_;refine Wt 13 (by kernel_rfl) (by kernel_rfl) fun qC dN iE => ?_;have⟨m8,m9,m10,m11,m12,m13,m14,b2⟩:=nO dN m2 m3 m4 m5 m6 m7 m1 b1;refine EY (pt u)<|EY (pt u)<|EY (pt u)<|qU (.agg (aA 6 (fun j => .bool (m.inn j)))) (eT m8.aH 0 (fun j J=>by rw[G_]; exact CY J))<|EY (pt u)<|EY (pt u)<|EY (pf u 6)<|qU (.agg (aA 6 (fun j => .bool (m.left j)))) (eT m8.aH 6 (fun j J=>BP (p:=j) J (by omega)))<|EY (pt u)<|EY (pt u)<|EY (pf u 12)<|qU (.agg (aA 6 (rv .u64 m.known))) (eT m8.aH 12 (fun j J=>sO (p:=j) (by omega) (by omega)))<|EY (.agg (aA 20 (bC (bC (bC zP0 0 6 (fun j => .bool (m.inn j))) 6 6 (fun j => .bool (m.left j))) 12 6 (rv .u64 m.known))))<|Fx.St.nil ?_;refine dG m14 0 (h1:=(bB (bB (bB (fun jq _=>by show(zP0 jq).oneCell'=true; simp only[zP0]; repeat (first|rfl|split)) (fun _ _=>rfl)) (fun _ _=>rfl)) (fun _ _=>rfl))) fun V m15 s3 z2 => ?_
 have m16:aP V D 20 (bC (bC (bC zP0 0 6 (fun j => .bool (m.inn j))) 6 6 (fun j => .bool (m.left j))) 12 6 (rv .u64 m.known)) 50:=aN m15;have m17:aP V D 20 (lS (WT m none 0 0 none 0 0)) 50:=m16.congr (WU m (fun j J=>by show(if j<12 then _ else if j<18 then _ else _)=_; rw[b_ (by omega),b_ (by omega)]) (fun _ _=>rfl) (fun _ _=>rfl));have fO:=fQ s3 m14.ty;have⟨m18,m19,m20,m21,m22,m23⟩:=S9 fO m8 m9 m10 m11 m12 m13;have b3:=s3.below b2 b2.size (by omega);refine aD<|Ws<|ay<|av (pt u)<|av (pt u)<|av (pf u 18)<|Lv (pt m.tp) (aL m18.aH 18)<|kU (Ut m19) ?_;rintro e9 w3 ⟨la1,N,b,he,m24,hq1,aiF,hb1⟩;refine⟨_,he,?_⟩;clear he;have⟨mM,mU,oo,ou,nG,nk,lI,b4⟩:=nO hb1 m18 m19 m20 m21 m22 m23 m17 b3;refine av (au b.length)<|av (au 0)<|aD<|Wb ?_;have m32:Fx.Own w3 w.heap.size 84 56 (.slice none 0 0) 0 (flat 56 (WS m b)):=xM _ _ _ _ _;have kll:=aiF;refine Wo (fun f A => ∃ i:Nat,∃ E:Option Addr,∃ F:Nat,i<=b.length/\f 0=(pt u)/\f 2=(pt D)/\f 27 = .slice la1 (b.length) (N)/\f 28=au (b.length:Int)/\f 29=au (i:Int)/\aP A u 29 (vV m) 114/\tC A B m.tp m.mb m.T/\Mp A m.pb m.T.n m.T.x (Ej m.T)/\Mp A m.rb m.T.n m.T.x (xD m.R)/\iL A m.gb m.gn (fun i=>m.g i 0) (fun i=>m.g i 1) (uZ m.g)/\iL A m.ab m.an m.ao m.ar El/\Fx.Own A V.heap.size 23 1 (.slice la1 (b.length) (N)) b.length (yx b)/\aP A D 20 (lS (WT m E i F none 0 0)) 50/\Fx.Own A w.heap.size 84 56 (.slice E (i) (F)) i (flat 56 (WS m b))/\Below w.heap.size w A) (fun f _=>((b.length:Int)-intOf (f 29)).toNat) ⟨0,none,0,(by omega),(by rfl),(by rfl),(by rfl),Fx.ic,Fx.ic,mM,mU,oo,ou,nG,nk,m24,lI,m32,b4⟩ ?_;rintro f1 w4 ⟨i,E,F,hi,P,h2,h3,h4,Q,oU,nH,nR,mO,qy,pX,pY,tZ,mP,b5⟩;refine ay ?_;by_cases c30:(i:Int)<(b.length:Int)
 ·refine Lv aG (gY c30 (hx:=Q) (hy:=h4))<|aD<|Ws<|aM<|Wk<|sN<|Ws<|Wb<|ay ?_;obtain⟨GN,eq1⟩:=pY.addr (by omega);have mQ:Fx.Own w4 V.heap.size 23 1 (bO GN b.length N) b.length (yx b):=pY.fU (L_ (fun q=>Value.slice q b.length N) eq1);refine Lv (pf GN i) (dh 1 (hx:=(h3.trans (L_ (fun q=>Value.slice q (b.length) (N)) eq1))) (hi:=Q))<|Lv (aC (b.getD i 0)) (aL mQ.aH i)<|av (aC (b.getD i 0))<|aD ?_;obtain⟨I,hjz,aa⟩:=iB ((hq1.2 _).1 (vJ (show i<b.length by omega) rfl));have ejx:DT m (b.getD i 0)=m.R I:=by unfold DT dQ.idx; rw[nJ h.t.inv.inj hjz aa]
  have ejp:m.T.par (b.getD i 0)=m.T.p I:=Br h.t.inv.inj hjz aa;refine zY [0,2,3,4,5,7,9,10,11,13,1,6,8,12,14,15,16,17,18,19] [0,1,0,0,0,0,4,0,4,0,0,0,4,0,4,0,2,2,0,3] (jm [84]) wm Fx.jm.trans (fK := [(19,1,[1]),(16,6,[15,8,6]),(17,6,[16,15,8,6]),(19,6,[6]),(16,8,[15,8]),(17,8,[16,15,8]),(19,8,[8]),(16,12,[15,14,12]),(17,12,[16,15,14,12]),(19,12,[12]),(16,14,[15,14]),(17,14,[16,15,14]),(19,14,[14]),(17,16,[16]),(18,16,[16]),(19,16,[16]),(18,17,[17]),(19,17,[17])]) (by kernel_rfl) (by kernel_rfl) (by kernel_rfl) (by kernel_rfl) (by kernel_rfl) fun Cr gK nU => ?_;have⟨mV,pI,qb,oV,sG,uQ,sH,qD,sI,b6⟩:=vH gK oU nH nR mO qy pX tZ mP mQ b5;refine Rp (pf D 18) (fun _=>gP h2 18)<|aX (aC (b.getD i 0))<|bV P<|aX (pt u)<|aX (pf u 19)<|aX (aC (b.getD i 0))<|bV P<|aX (pt u)<|aX (pf u 20)<|aX (aC (b.getD i 0))<|Rd (v := .slice E (i) (F)) (by rfl) (by rfl) (wm _) (fun v1 hv1=>aZ (x:=lS (WT m E i F none 0 0)) rfl rfl (by kernel_rfl) (sH.lu hv1 (by decide)).aH (i:=18) (by omega) (by omega) rfl) ?_;refine Rs (.map (some m.pb)) (aL mV.aH 19) ?_;refine Rs (aC (m.T.p I)) (Fx.wN (z:=aC 0) rfl rfl rfl qb Tryz.underlying108 Tryz.underlying23 (by rfl) hjz aa rfl) ?_;refine Rs (.map (some m.rb)) (aL mV.aH 20) ?_;refine Rs (.agg (aA 54 (rv .i64 (m.R I)))) (Fx.wN (z := .agg (aA 54 (rv .i64 (fun _=>0)))) rfl rfl rfl oV Tryz.underlying109 Tryz.underlying23 (by kernel_rfl) hjz aa rfl) ?_;refine aX (.agg (aA 56 (bC (bC (bC zK0 0 1 (fun _=>aC (b.getD i 0))) 1 1 (fun _=>aC (m.T.p I))) 2 54 (rv .i64 (m.R I)))))<|yw<|zi (vs := [(0,.agg (aA 56 (bC (bC (bC zK0 0 1 (fun _=>aC (b.getD i 0))) 1 1 (fun _=>aC (m.T.p I))) 2 54 (rv .i64 (m.R I)))))]) (s:=56) (zc:=fun d=>if d<2 then aC 0 else au 0) (y:=bC (fun j=>zK0 (j % 56)) (0*56) 56 (bC (bC (bC zK0 0 1 (fun _=>aC (b.getD i 0))) 1 1 (fun _=>aC (m.T.p I))) 2 54 (rv .i64 (m.R I)))) (by rfl) rfl rfl Tryz.underlying47 (by kernel_rfl) (by rfl) (by rfl) (by kernel_rfl) (by rw[bf (off:=0*56) (s:=56) (y:=bC (bC (bC zK0 0 1 (fun _=>aC (b.getD i 0))) 1 1 (fun _=>aC (m.T.p I))) 2 54 (rv .i64 (m.R I))) rfl (bK _ _) (by rfl)]; rfl) rfl fun g2 w5 Y uR s6 z3 => ?_;have⟨sJ,uS,wo,uf,sK,ug,wS,rz,uo,b7⟩:=vH s6.old mV pI qb oV sG uQ sH qD sI b6;have pK:=iw Y b6.size;have⟨aqV,adN,adO,aqW,aqX,adP⟩:=Ju Y mV.lt qb.lt oV.lt sG.lt uQ.lt sH.lt;have aqY:(.slice E (i) (F):Value).ownBlock≠some g2:=by rw[Y]; exact qD.kP (A_ _)
  have aqZ:=cu Y sI.lt;have xR:=uR.lt;refine Ln ⟨Fx.jm.of_below s6.old,?_⟩;refine yw<|zP (B:=w.heap.size) (s:=56) (bytes:=448) (k:=i) (m:=1) (v := .slice E (i) (F)) (x:=flat 56 (WS m b)) (by rfl) rfl rfl rfl Tryz.underlying47 (by kernel_rfl) (by kernel_rfl) rfl rfl rz uR.aH ZO (by omega) (by omega) (by omega) b7.size fun g3 W w6 ho1 hg1 wR hlt1 => ?_;have jJ:=zQ hg1 rz;have⟨uh,m64,wT,wu,uT,yh,sM,wz⟩:=acn jJ sJ uS wo uf sK ug wS uo;have pJ:Fx.Own w6 w.heap.size 84 56 (bO g3 (i+1) W) (i+1) (flat 56 (WS m b)):=(ho1.congr (fun j J=>ZL rfl ejp ejx j J));have b8:Below w.heap.size w w6:=zO b7 hg1 b7.size (fun q hq=>(rz.ge hq).1);refine Ln ⟨jJ,?_⟩;refine Rp (pf D 18) (fun _=>gP h2 18)<|ig<|jv sM 18 (bO g3 (i+1) W) fun w7 uH s7 z4 => ?_;have wB:aP w7 D 20 (lS (WT m (some ⟨g3,0,none⟩) (i+1) W none 0 0)) 50:=uH.to (RL _ _ _ _);have nQ:=fQ s7 sM.ty;have⟨wC,Ah,wD,zR,yJ,zw,xQ,wU⟩:=acn nQ uh m64 wT wu uT yh wz pJ;have b9:=s7.below b8 b8.size (by omega);refine Ln<|Rn<|bS<|sN<|Wl<|Lv (au ((i:Int)+1)) (fH (hx:=Q))<|av (au ((i:Int)+1))<|Ln ?_;have wV:Fx.Own w7 V.heap.size 23 1 (.slice la1 (b.length) (N)) b.length (yx b):=xQ.fU (L_ (fun q=>Value.slice q b.length N) eq1.symm)
  skip
  refine iG ⟨i+1,(some ⟨g3,0,none⟩),W,(by omega),P,h2,h3,(h4.trans Fx.ic),Fx.ic,wC,Ah,wD,zR,yJ,zw,wV,wB,wU,b9⟩ ?_;show((b.length:Int)-intOf (au ((i:Int)+1))).toNat<_;simp only[Q,intOf]; omega
 refine Lv aF (gZ c30 (hx:=Q) (hy:=h4))<|aD<|Ws<|aK<|Wx<|cB<|gW<|bZ<|sN<|Ws<|ay<|aW P<|av (pt u)<|av (pf u 27)<|Lv (.map (some m.gb)) (aL oU.aH 27)<|Fx.L.acs (by rfl) rfl rfl rfl qy Tryz.underlying111 fun g4 w8 Ku yK s8 z5 => ?_;have⟨Bg,BD,Fp,b10⟩:=jw s8.old qy tZ mP b5;have PE:=iw Ku b5.size;have NS:=yK.lt;refine aD<|Wb ?_;have Eh:Fx.Own w8 w.heap.size 106 5 (.slice none 0 0) 0 (flat 5 (fun k=>jf (m.g (([]:List Nat).getD k 0)))):=xM _ _ _ _ _;refine D8 (fun kE f A => ∃ S:Nat->Bool,∃ kk:Nat,∃ K:List Nat,∃ o:Nat,∃ G:Option Addr,∃ H:Nat,kk=unseen S m.gn/\kk=kE/\RJ m.gn S K/\o=K.length/\f 2=(pt D)/\f 57=(pt g4)/\iL A m.gb m.gn (fun i=>m.g i 0) (fun i=>m.g i 1) (uZ m.g)/\Fx.Own A w.heap.size 84 56 (.slice E (i) (F)) i (flat 56 (WS m b))/\aP A D 20 (lS (WT m E i F G o H)) 50/\Fx.Own A w.heap.size 106 5 (.slice G (o) (H)) o (flat 5 (fun k=>jf (m.g (K.getD k 0))))/\Fx.It A g4 m.gb m.gn S/\Below w.heap.size w A) (unseen (fun _=>false) m.gn) ⟨(fun _=>false),(unseen (fun _=>false) m.gn),[],0,none,0,rfl,rfl,(RJ.start _),rfl,h2,(by rfl),Bg,Fp,BD,Eh,yK,b10⟩ ?_;rintro kE f2 w9 ⟨S,kk,K,o,G,H,hkk,hkE,U,hgl,M,h7,CB,Dz,AB,GJ,EA,b11⟩;refine ay<|Fx.L.agL (by rfl) rfl rfl h7 CB EA (fun tu => ?_)<|fun C rW hi1 hS1 GL mc1 s9 z6 => ?_
 ·skip
  refine av aF<|aD<|Ws<|aK<|Wx<|cB<|gW<|bZ<|sN<|Ws ?_;have eL:(K.map fun i=>KA (m.g i)).length=o:=by rw[List.length_map]; exact hgl.symm
  have ara:=U.len;refine Wl<|Lv (pf D 19) (gP M 19)<|Lv (.slice G (o) (H)) (aL AB.aH 19)<|dU (ZT h.g U hgl GJ (by omega)) _ rfl ?_;rintro Ec ⟨gl,hpm,hup,GZ,_,ru,hb2⟩;have b12:=b11.trans hb2;have⟨xu,yO⟩:=xZ ru Dz AB;have aui:=yO.lt;refine aD<|ay<|Lv (.agg (aA 20 (lS (WT m E i F G o H)))) (eT yO.aH 0 (ha:=M))<|dG yO 0 (ha:=M) (h1:=(fun j _=>YL _ j)) fun Bd xw s10 z7 => ?_;have uU:aP Bd D 20 (lS (WT m E i F G o H)) 50:=aN xw;have yc:=fQ s10 yO.ty;have⟨qj,rE⟩:=xZ yc xu GZ;have b13:=s10.below b12 b12.size (by omega);refine aD (Wr (⟨.agg (aA 20 (lS (WT m E i F G o H))),rV Tryz.results18 ⟨_,M,aR uU.aH (by kernel_rfl) (by kernel_rfl)⟩,?_⟩));have eil:i=b.length:=by omega
  have egl:o=gl.length:=by rw[hpm.length_eq,eL]
  exact⟨WT m E i F G o H,b,gl,rfl,{ inn:=rfl,left:=rfl,known:=rfl,nn:=eil,gn:=egl,ls:=hq1,len:=kll,gs:=GrS.of h.g U tu hpm hup,glb:=by omega,n:=qj,g:=rE },b13⟩
 skip
 have hcm1:=EA.Cm s9;have qH:=CB.eG hcm1 (EA.rb.symm);have rY:=Dz.eG hcm1;have tN:=AB.eG hcm1;have vO:=GJ.eG hcm1;have b14:=s9.below b11 b11.size (by omega);refine av aG<|aD<|Ws<|aM<|Wk<|sN<|Wb<|ay<|Lv (.tuple #[Fx.kS (m.g C 0) (m.g C 1),.agg (aA 5 (jf (m.g C)))]) (Fx.Tj (k1:=fun i=>m.g i 0) (k2:=fun i=>m.g i 1) (val:=uZ m.g) (i:=C) rfl h7 qH mc1 hi1)<|av (.agg (aA 5 (jf (m.g C))))<|oC 5 zR0 fun g5 Fh ZB rZ s11 z8 => ?_;have⟨uV,zS,vP,zT,yj,b15⟩:=qY s11.old qH rY tN vO GL b14;have lg5:=iw ZB b14.size;have⟨alh,ali⟩:=oQ ZB qH.lt tN.lt;have Qe:(.slice G (o) (H):Value).ownBlock≠some g5:=by rw[ZB]; exact vO.kP (A_ _)
 have tg5:=rZ.lt;refine dG rZ 0 (h1:=(fun j _=>qz _ j)) fun K8 uW s12 z9 => ?_;have rF:aP K8 g5 5 (jf (m.g C)) 106:=aN uW;have yg:=fQ s12 rZ.ty;have⟨yP,yQ,uX⟩:=Bp yg uV zS vP;have CG:=zT.bW s12 Qe;have FD:=iW yg yj;have b16:=s12.below b15 b15.size (by omega);refine aD ?_;have ara:=U.len;have hgn1:o<=m.gn:=by omega
 refine Wl<|Lv (pf D 19) (gP M 19)<|Lv (.slice G (o) (H)) (aL uX.aH 19)<|Lv (.agg (aA 5 (jf (m.g C)))) (eT rF.aH 0)<|zi (vs := [(0,.agg (aA 5 (jf (m.g C))))]) (s:=5) (zc:=fun d=>if d<1 then au 0 else if d<3 then aC 0 else if d<4 then au 0 else aC 0) (y:=bC (fun j=>zR0 (j % 5)) (0*5) 5 (jf (m.g C))) (by rfl) rfl rfl Tryz.underlying48 (by kernel_rfl) (by rfl) (by rfl) (by kernel_rfl) (by rw[bf (off:=0*5) (s:=5) (y:=jf (m.g C)) rfl (bK _ _) (by rfl)]; rfl) rfl fun g6 Kv Z BI s13 z10 => ?_;have⟨FE,G6,CJ,AJ,JV,Lu,b17⟩:=kg s13.old yP yQ uX CG FD rF b16;have lg6:=iw Z b16.size;have⟨alj,alk⟩:=oQ Z yP.lt uX.lt;have alm:(.slice G (o) (H):Value).ownBlock≠some g6:=by rw[Z]; exact CG.kP (A_ _)
 have aln:=cu Z rF.lt;have tg6:=BI.lt;refine zP (B:=w.heap.size) (s:=5) (bytes:=40) (k:=o) (m:=1) (v := .slice G (o) (H)) (x:=flat 5 (fun k=>jf (m.g (K.getD k 0)))) (by rfl) rfl rfl rfl Tryz.underlying48 (by kernel_rfl) (by kernel_rfl) rfl rfl AJ BI.aH ZP (by omega) (by omega) (by omega) b17.size fun O X w16 ho2 hg2 NI hlt2 => ?_;have BH:=zQ hg2 AJ;have⟨FI,G7,G8,CK⟩:=Jt BH FE G6 CJ JV;have alo:g5≠O:=fun e=>NI.elim (fun e2=>Qe (by rw[e]; exact e2)) (fun e2=>by have:=Lu.lt; omega);have FH:Fx.Own w16 w.heap.size 106 5 (bO O (o+1) X) (o+1) (flat 5 (fun k=>jf (m.g ((K ++ [C]).getD k 0)))):=(ho2.congr (fun j J=>by rw[hgl]at J ⊢; exact ZM j J));have b18:Below w.heap.size w w16:=zO b17 hg2 b17.size (fun q hq=>(AJ.ge hq).1);refine Lv (pf D 19) (gP M 19)<|jv G8 19 (bO O (o+1) X) fun Sd CO Af z11 => ?_;have FV:aP Sd D 20 (lS (WT m E i F (some ⟨O,0,none⟩) (o+1) X)) 50:=CO.congr (Oy _ _ _ _);have FB:=fQ Af G8.ty;have⟨FK,AL,CP,JN⟩:=Jt FB FI G7 CK FH;have b19:=Af.below b18 b18.size (by omega);refine Ln<|bS ?_
 skip
 refine iG ⟨unseen (aQ S C true) m.gn,(by have P:=Fx.pV hS1 m.gn hi1; omega),(aQ S C true),(unseen (aQ S C true) m.gn),(K ++ [C]),o+1,(some ⟨O,0,none⟩),X,rfl,rfl,(U.step hi1 hS1),(by rw[E_,<- hgl]; rfl),M,h7,FK,AL,FV,JN,CP,b19⟩ (by decide)
end Go.Proofs.YtcbedgfikejkoaaGreatDoor
namespace Go.Proofs.YtcbedgfikejkoaaGreatDoor
open Go.RowKit Go
namespace Rt
section
variable {f:(Nat->Int)->(Nat->Int) × Int} {idx:Nat->Nat} {R:Nat->Nat->Int} {r r':Nat->Nat->Int} {n K k:Nat}
theorem DV : ∀ {n:Nat},(∀ i,i<n->r i=r' i)->jY f r n=jY f r' n
 | 0,_=>rfl
 | n+1,h=>by unfold jY; rw[DV (n:=n) fun i a=>h i (by omega),h n (by omega)]
theorem Gj : ∀ {K:Nat},(∀ i j,i<K->j<K->idx i=idx j->i=j)->(dn f idx R K).2=jY f (fun i=>R (idx i)) K/\((dn f idx R K).2=0 -> ∀ k,(dn f idx R K).1 k=R k/\(∀ i,i<K->idx i≠k)\/(dn f idx R K).1 k=(f (R k)).1 /\ ∃ i,i<K/\idx i=k)
 | 0,_=>⟨rfl,fun _ k => .inl ⟨rfl,fun _ h=>M_ h (z_ _)⟩⟩
 | K+1,hi=>by
   obtain⟨q,r⟩:=Gj (K:=K) fun i j a b=>hi i j (by omega) (by omega);unfold jY;rw[<- q];by_cases c:(dn f idx R K).2=0
   ·have n:=r c;have p:(dn f idx R K).1 (idx K)=R (idx K):=by
     rcases n (idx K)with h|⟨_,i,d,g⟩
     ·exact h.1
     ·have:=hi i K (by omega) (by omega) g; omega
    rw[d_ c];have e:dn f idx R (K+1)=(if(f ((dn f idx R K).1 (idx K))).2=0 then(aI (dn f idx R K).1 (idx K) (f ((dn f idx R K).1 (idx K))).1,0)else((dn f idx R K).1,(f ((dn f idx R K).1 (idx K))).2)):=(by show(if _ then _ else _)=_; rw[d_ c]);rw[e,p];by_cases l:(f (R (idx K))).2=0
    ·rw[d_ l];refine⟨l.symm,fun _ k => ?_⟩;show aI (dn f idx R K).1 (idx K) _ k=R k/\_\/aI (dn f idx R K).1 (idx K) _ k=(f (R k)).1/\_;unfold aI;by_cases e:k=idx K
     ·subst e; rw[d_ rfl]; exact .inr ⟨rfl,K,by omega,rfl⟩
     ·rw[b_ e]
      rcases n k with ⟨d,g⟩|⟨d,i,g,h5⟩
      ·refine .inl ⟨d,fun i s m => ?_⟩;by_cases o:i=K
       ·subst o; exact e m.symm
       ·exact g i (by omega) m
      ·exact .inr ⟨d,i,by omega,h5⟩
    ·rw[b_ l]; exact⟨rfl,fun h=>M_ h l⟩
   ·rw[b_ c];have e:dn f idx R (K+1)=dn f idx R K:=(by show(if _ then _ else _)=_; rw[b_ c]);rw[e];exact⟨rfl,fun h=>M_ h c⟩
end
structure Dh(T:dS)(L:eP):Prop where
 has : ∀ k,T.has k=true <-> ∃ i,i<L.nn/\L.id i=k
 n:T.n=L.nn
 par : ∀ i,i<L.nn->T.par (L.id i)=L.par i
section
variable {T:dS} {L:eP} {N:Nat} {x:Int}
theorem Dh.find(h:Dh T L)(b:Inv0 L N)(x:Int):T.has x=true<->0<=bE L.t L.tn x:=by
 rw[h.has,iZ,b.CV];constructor
 ·rintro ⟨i,a,e⟩; exact⟨i,a,by rw[(b.tid i a).1]; exact e⟩
 rintro ⟨i,a,e⟩; exact⟨i,a,by rw[<- (b.tid i a).1]; exact e⟩
theorem Dh.findF(h:Dh T L)(a:Inv0 L N)(x:Int):T.has x=false<->bE L.t L.tn x<0:=by
 have:=h.find a x
 cases e:T.has x with
 | false=>rw[e]at this; exact⟨fun _=>by rcases ilt (bE L.t L.tn x)with h1|h1; exact h1; exact M_ (this.2 h1) (by decide),fun _=>rfl⟩
 | true=>rw[e]at this; have:=this.1 rfl; exact⟨fun h=>(nomatch h),fun h=>by omega⟩
theorem Inv0.at(c:Inv0 L N){i:Nat}(hi:i<L.nn):L.node (L.id i)=(i:Int):=by
 rw[c.node,<- (c.tid i hi).1];exact vT (fun a b d f e=>c.aii a b d f e) (by rw[c.CV]; exact hi)
theorem Dh.next(h:Dh T L)(a:Inv0 L N)(hx:T.has x=true):T.par x=L.t (bE L.t L.tn x).toNat 1:=by
 obtain⟨i,b,rfl⟩:=(h.has x).1 hx;have e:=a.at b;rw[a.node]at e;rw[e,h.par i b];exact((a.tid i b).2).symm
theorem Dh.path(h:Dh T L)(f:T.ok)(a:Inv0 L N)(x:Int):(T.path x).length=fB L.t L.tn x /\ ∀ q,q<(T.path x).length->(T.path x).getD q 0=bH L.t L.tn q x:=by
 have g : ∀ q,q<(T.path x).length->T.has ((T.path x).getD q 0)=true/\(q+1<(T.path x).length->(T.path x).getD (q+1) 0=T.par ((T.path x).getD q 0))/\(q+1=(T.path x).length->T.has (T.par ((T.path x).getD q 0))=false):=sP (f.stop x);have j : ∀ q,q<(T.path x).length->(T.path x).getD q 0=bH L.t L.tn q x:=by
  intro q
  induction q with
  | zero =>
    intro b
    cases hx:T.has x with
    | false=>rw[show T.path x = []from lK hx]at b; exact M_ b (z_ _)
    | true=>rw[dS.step f hx]; rfl
  | succ q ih =>
    intro b;have l:=ih (by omega);have c:=(g q (by show q<(T.path x).length; omega));have e:=c.2.1 b;show(T.path x).getD (q+1) 0=L.t (bE L.t L.tn (bH L.t L.tn q x)).toNat 1;rw[<- l,<- h.next a c.1]
    exact e
 refine⟨?_,j⟩;obtain⟨D,n,m⟩:=a.dep x;refine vQ (D:=D) (fun i k => ?_) ?_ m (by omega)
 ·rw[<- j i k,<- h.find a]; exact(g i k).1
 by_cases d:(T.path x).length=0
 ·rw[d];show bE L.t L.tn x<0;rw[<- h.findF a]
  cases hx:T.has x with
  | false=>rfl
  | true=>rw[dS.step f hx]at d; simp at d
 obtain⟨q,b⟩ : ∃ q,(T.path x).length=q+1:=⟨(T.path x).length-1,by omega⟩;have c:=g q (by show q<(T.path x).length; omega);have e:=c.2.2 (by show q+1=(T.path x).length; omega);rw[b];show bE L.t L.tn (L.t (bE L.t L.tn (bH L.t L.tn q x)).toNat 1)<0;rw[<- j q (by omega),<- h.next a c.1,<- h.findF a]
 exact e
theorem ZV(d:Inv0 L N)(x:Int):bE L.t L.tn (bH L.t L.tn (fB L.t L.tn x) x)<0:=by
 obtain⟨D,e,b⟩:=d.dep x;obtain⟨K,f,a,c⟩:=vU D b;rw[<- vQ c a b (by omega)]; exact a
theorem Dh.mem(h:Dh T L)(f:T.ok)(d:Inv0 L N)(x y:Int):y∈T.path x <-> ∃ i,i<fB L.t L.tn x/\bH L.t L.tn i x=y:=by
 obtain⟨c,b⟩:=h.path f d x;rw[<- c];constructor
 ·intro g;obtain⟨i,a,e⟩:=List.getElem_of_mem g;refine⟨i,a,?_⟩;rw[<- b i a,r_,o_ a]; exact e
 rintro ⟨i,a,rfl⟩;rw[<- b i a,r_,o_ a]; exact Q_ a
theorem Dh.err(h:Dh T L)(l:T.ok)(a:Inv0 L N)(id pa:Int):T.err id pa=jQ L.t L.tn id pa:=by
 unfold dS.err rU jQ;by_cases c:id=0
 ·rw[d_ c,d_ c]
 rw[b_ c,b_ c];by_cases d:dZ T.x T.n id=true
 ·rw[d_ d,d_ ((h.find a id).1 d)]
 rw[b_ d,b_ (fun e=>d ((h.find a id).2 e))];have j:(¬ pa=0/\dZ T.x T.n pa=false)<->(pa≠0/\bE L.t L.tn pa<0):=by
  rw[<- h.findF a]; exact Iff.rfl
 by_cases f : ¬ pa=0/\dZ T.x T.n pa=false
 ·rw[d_ f,d_ (j.1 f)]
 rw[b_ f,b_ (fun e=>f (j.2 e))];have k:(32<=T.n\/4<=(jO T.x T.p T.n 4 pa).length)<->(32<=L.tn\/Dy L.t L.tn pa):=by
  obtain⟨q,r⟩:=h.path l a pa;have v:(T.path pa).length<=4:=dS.zG;have:4<=(T.path pa).length<->Dy L.t L.tn pa:=by
   constructor
   ·intro s i u;have b:=(sP (l.stop pa)) i (by show i<(T.path pa).length; omega);rw[<- r i (by omega),<- h.find a]; exact b.1
   ·intro o
    rcases Nat.lt_or_ge (T.path pa).length 4 with b|b
    ·exfalso;have m:=o _ b;rw[q]at m;have:=ZV a pa;omega
    ·exact b
  show(32<=T.n\/4<=(T.path pa).length)<->_;rw[this,h.n,a.CV]
 by_cases g:32<=T.n\/4<=(jO T.x T.p T.n 4 pa).length
 ·rw[d_ g,d_ (k.1 g)]
 rw[b_ g,b_ (fun e=>g (k.2 e))]
end
end Rt
namespace Rt
section
variable {m:dQ} {k:Int} {i:Nat}
theorem dQ.DW(b:m.T.ok)(c:m.T.has k=true):m.idx k<m.T.n/\m.T.x (m.idx k)=k:=by
 obtain⟨j,a,e⟩:=iB c;have:m.idx k=j:=nJ b.inj a e;rw[this]; exact⟨a,e⟩
theorem Mq(x:Nat->Int)(id:Int) : ∀ n,(∀ i,i<n->x i≠id)->zV (Fx.aQ x n id) (n+1) id=n:=fun n _=>by
 unfold zV;rw[d_];unfold Fx.aQ;rw[d_ rfl]
theorem I4{x y:Nat->Int}{k:Int} : ∀ {n:Nat},(∀ i,i<n->x i=y i)->zV x n k=zV y n k
 | 0,_=>rfl
 | n+1,h=>by unfold zV; rw[h n (by omega),I4 (n:=n) fun i a=>h i (by omega)]
theorem Mr(x:Nat->Int){id k:Int}(n:Nat)(b:id≠k):zV (Fx.aQ x n id) (n+1) k=zV x n k:=by
 have a:Fx.aQ x n id n=id:=by unfold Fx.aQ; rw[d_ rfl]
 show(if Fx.aQ x n id n=k then n else zV (Fx.aQ x n id) n k)=_;rw[a,b_ b];exact I4 fun i c=>by unfold Fx.aQ; rw[b_ (by omega)]
theorem I5{f g:Nat->Int}{o:Int} : ∀ {n:Nat},(∀ i,i<n->f i=g i)->ny f o n=ny g o n
 | 0,_=>rfl
 | n+1,h=>by unfold ny; rw[I5 (n:=n) fun i a=>h i (by omega),h n (by omega)]
theorem Ms{f:Nat->Int}{o v:Int}{k:Nat} : ∀ n,k<=n->ny (Fx.cO f k v) o (n+1)=ny f o n+if v / 1099511627776=o then 1 else 0
 | 0,h=>by
   obtain rfl:k=0:=(by omega);show 0+(if Fx.cO f 0 v 0 / 1099511627776=o then 1 else 0)=0+_;rw[dA]
 | n+1,h=>by
   by_cases e:k=n+1
   ·subst e;show ny (Fx.cO f (n+1) v) o (n+1)+(if Fx.cO f (n+1) v (n+1) / 1099511627776=o then 1 else 0)=_;rw[dA,I5 (g:=f) fun i a=>ED a]
   ·show ny (Fx.cO f k v) o (n+1)+(if Fx.cO f k v (n+1) / 1099511627776=o then 1 else 0)=ny f o n+(if f n / 1099511627776=o then 1 else 0)+_;rw[Ms n (by omega),EF (by omega)];show _+(if f n / 1099511627776=o then 1 else 0)=_;omega
theorem Qf{f:Nat->Int}{o:Int} : ∀ n,ny f o n<=n
 | 0=>A_ _
 | n+1=>by have:=Qf (f:=f) (o:=o) n; unfold ny; split <;> omega
theorem vW{P:Nat->Bool}{n:Nat}:0<=iq P n <-> ∃ j,j<n/\P j=true:=by
 rcases iF P n with ⟨k,c,e,a⟩|⟨e,h⟩
 ·rw[e]; exact⟨fun _=>⟨k,c,a⟩,fun _=>by omega⟩
 rw[e]; exact⟨fun h=>by omega,fun⟨j,b,a⟩=>by rw[h j b]at a; cases a⟩
end
structure fV(m:dQ)(L:eP):Prop where
 T:Dh m.T L
 inn:m.inn=L.inn
 left:m.left=L.left
 known:m.known=L.known
 row : ∀ i,i<L.nn->DT m (L.id i)=L.R i
 own : ∀ a,a<6->m.own a=((ny L.id ((a:Int)+1) L.nn:Nat):Int)
 gi : ∀ i j,i<m.gn->j<m.gn->m.g i 0=m.g j 0->m.g i 1=m.g j 1->i=j
 gn:m.gn=L.gn
 g1 : ∀ q,q<L.gn -> ∃ j,j<m.gn/\m.g j=L.g q
 g2 : ∀ j,j<m.gn -> ∃ q,q<L.gn/\L.g q=m.g j
 ask : ∀(a:Nat) (r:Int),a<6->(iD m ((a:Int)+1) r=true <-> ∃ j,j<L.rn a/\L.rq a j=r)
 ga:RH m
 li : ∀ p q,p<L.gn->q<L.gn->L.g p 0=L.g q 0->L.g p 1=L.g q 1->p=q
section
variable {m:dQ} {L:eP} {N:Nat} {v:EvM} {x:Int}
theorem fV.node(h:fV m L)(a:Inv0 L N)(x:Int):m.T.has x=true<->0<=L.node x:=by rw[h.T.find a,a.node]
theorem fV.Mt(h:fV m L)(a:Inv0 L N)(x:Int):m.T.has x=false<->L.node x<0:=by rw[h.T.findF a,a.node]
theorem Inv0.ZW(a:Inv0 L N)(hx:0<=L.node x):(L.node x).toNat<L.nn/\L.id (L.node x).toNat=x:=by
 rw[a.node]at hx ⊢;obtain⟨j,b,e,c⟩:=vM hx;rw[e];rw[a.CV]at b;exact⟨b,by show L.id j=x; rw[<- (a.tid j b).1]; exact c⟩
theorem fV.rk(h:fV m L)(c:Inv0 L N)(hx:0<=L.node x):DT m x=L.R (L.node x).toNat:=by
 obtain⟨a,b⟩:=c.ZW hx;rw[<- h.row _ a,b]
theorem fV.CZ(h:fV m L)(f:m.T.ok)(a:Inv0 L N)(hx:m.T.has x=true)(r:Nat->Int):fV (CZ m x r) { L with R:=aI L.R (L.node x).toNat r }:=by
 have l:=(h.node a x).1 hx;obtain⟨j,c⟩:=a.ZW l;refine { h with row:=fun i b => ?_,T:=⟨h.T.has,h.T.n,h.T.par⟩ };show Fx.aQ m.R (m.idx x) r (m.idx (L.id i))=aI L.R (L.node x).toNat r i;unfold Fx.aQ aI;by_cases e:i=(L.node x).toNat
 ·subst e; rw[c,d_ rfl,d_ rfl]
 rw[b_ e,b_]
 ·exact h.row i b
 intro g;have d:=(dQ.DW f ((h.T.has _).2 ⟨i,b,rfl⟩)).2;have k:=(dQ.DW f hx).2;rw[g,k]at d;exact e (a.inj i _ b j (by rw[c]; exact d.symm))
theorem fV.along(h:fV m L)(l:m.T.ok)(g:Inv0 L N)(f:(Nat->Int)->(Nat->Int) × Int)(x:Int) :
 dB m f (m.T.path x)=(dn f (oZ L x) L.R (fB L.t L.tn x)).2/\((dn f (oZ L x) L.R (fB L.t L.tn x)).2=0 -> ∀ i,i<L.nn->(qo m f (m.T.path x)).R (m.idx (L.id i))=(dn f (oZ L x) L.R (fB L.t L.tn x)).1 i):=by
 obtain⟨z,p⟩:=h.T.path l g x;have w:(m.T.path x).Nodup:=dS.AY l x;have o : ∀ i,i<fB L.t L.tn x->0<=L.node (bH L.t L.tn i x):=fun i c=>by rw[g.node]; exact BM c
 have y : ∀ i j,i<fB L.t L.tn x->j<fB L.t L.tn x->oZ L x i=oZ L x j->i=j:=fun i j c v e=>by
  have a:=g.ZW (o i c);have b:=g.ZW (o j v);have e:(L.node (bH L.t L.tn i x)).toNat=(L.node (bH L.t L.tn j x)).toNat:=e;rw[e]at a;have k:bH L.t L.tn i x=bH L.t L.tn j x:=a.2.symm.trans b.2;rw[<- p i (by omega),<- p j (by omega)]at k;exact Dc w (by omega) (by omega) k
 obtain⟨A,B⟩:=Gj (f:=f) (idx:=oZ L x) (R:=L.R) y;refine⟨?_,fun s i c => ?_⟩
 ·rw[A];unfold dB;rw[z];exact DV fun i c=>by
   rw[p i (by omega)];exact h.rk g (o i c)
 have u:=(dQ.DW l ((h.T.has _).2 ⟨i,c,rfl⟩)).2;show(if m.T.x (m.idx (L.id i))∈m.T.path x then(f (m.R (m.idx (L.id i)))).1 else m.R (m.idx (L.id i)))=_;rw[u,show m.R (m.idx (L.id i))=L.R i from h.row i c];have r:L.id i∈m.T.path x <-> ∃ q,q<fB L.t L.tn x/\oZ L x q=i:=by
  rw[h.T.mem l g];constructor
  ·rintro ⟨q,d,e⟩;exact⟨q,d,(EG g c d).2 e⟩
  ·rintro ⟨q,d,e⟩;exact⟨q,d,(EG g c d).1 e⟩
 rcases B s i with ⟨n,k⟩|⟨n,q,d,k⟩
 ·rw[n,b_];rw[r]; rintro ⟨q,d,e⟩; exact k q d e
 rw[n,d_ (r.2 ⟨q,d,k⟩)]
theorem fV.asked(h:fV m L)(f:bR v=true)(r:Int):iD m v.o r=true<->0<=L.kF (aO v) r:=by
 obtain⟨a,c,d⟩:=fq (jk f);have:aO v=a:=by unfold aO; omega
 rw[this,d,h.ask a r c];unfold eP.kF;rw[vW];constructor
 ·rintro ⟨j,b,e⟩; exact⟨j,b,f_ e⟩
 rintro ⟨j,b,e⟩; exact⟨j,b,h_ e⟩
theorem fV.grant(h:fV m L)(o r:Int):(jc m o r=true<->0<=L.grant o r)/\(0<=L.grant o r->(L.grant o r).toNat<L.gn/\fF m o r<m.gn/\m.g (fF m o r)=L.g (L.grant o r).toNat/\L.g (L.grant o r).toNat 0=o/\L.g (L.grant o r).toNat 1=r):=by
 have k1:jc m o r=true <-> ∃ j,j<m.gn/\m.g j 0=o/\m.g j 1=r:=lY;have k2:0<=L.grant o r <-> ∃ q,q<L.gn/\L.g q 0=o/\L.g q 1=r:=by
  unfold eP.grant;rw[vW];constructor
  ·rintro ⟨j,a,e⟩; rw[S_]at e; exact⟨j,a,h_ e.1,h_ e.2⟩
  ·rintro ⟨j,a,b,c⟩; exact⟨j,a,by rw[f_ b,f_ c]; rfl⟩
 refine⟨?_,fun l => ?_⟩
 ·rw[k1,k2];constructor
  ·rintro ⟨j,a,b,c⟩;obtain⟨q,d,e⟩:=h.g2 j a;exact⟨q,d,by rw[e]; exact b,by rw[e]; exact c⟩
  rintro ⟨q,d,b,c⟩;obtain⟨j,a,e⟩:=h.g1 q d;exact⟨j,a,by rw[e]; exact b,by rw[e]; exact c⟩
 have : ∃ q,q<L.gn/\L.grant o r=(q:Int)/\L.g q 0=o/\L.g q 1=r:=by
  unfold eP.grant at l ⊢
  rcases iF (fun i=>decide (L.g i 0=o)&&decide (L.g i 1=r)) L.gn with ⟨q,d,e,k⟩|⟨e,_⟩
  ·rw[S_]at k; exact⟨q,d,e,h_ k.1,h_ k.2⟩
  ·omega
 obtain⟨q,d,e,b,c⟩:=this;rw[e];obtain⟨j,a,f⟩:=h.g1 q d;have:fF m o r=j:=zH h.gi a (by show m.g j 0=o; rw[f]; exact b) (by show m.g j 1=r; rw[f]; exact c);rw[this];exact⟨d,a,f,b,c⟩
theorem fV.aiW(h:fV m L)(i:m.T.ok)(g:Inv0 L N)(e:bR v=true)(l:v.kind=1):jy m v=kW L v:=by
 obtain⟨a,j,d⟩:=fq (jk e);have k:aO v=a:=by unfold aO; omega
 unfold jy kW;rw[k,h.own a j,d];have b:(5<=((ny L.id ((a:Int)+1) L.nn:Nat):Int)\/140737488355328<v.aT)<->(5<=ny L.id ((a:Int)+1) L.nn\/140737488355328<v.aT):=by omega
 have f:oq v=jF ((a:Int)+1) v.seq:=by rw[<- d,su e]; rfl
 by_cases c:5<=ny L.id ((a:Int)+1) L.nn\/140737488355328<v.aT
 ·rw[d_ c,d_ (b.2 c)]
 rw[b_ c,b_ (fun q=>c (b.1 q)),h.T.err i g,f]
theorem fV.make(h:fV m L)(A:m.T.ok)(r:Inv0 L N)(l:bR v=true)(D:v.kind=1)(z:kW L v=0):fV (DR m v) (rD L v):=by
 obtain⟨k,g,H,I,J,K,M,y,P,Q,G⟩:=xC r l D z;have t:=su l;have O:=oJ l;have f:oq v=jF v.o v.seq:=by rw[t]; rfl
 have w:m.T.has (oq v)=false:=by
  rw[h.T.findF r,f,vS];exact G.no
 have E : ∀ i,i<m.T.n->m.T.x i≠oq v:=fun i d e=>by
  have:=dS.Aj d; rw[e,w]at this; cases this
 rw[y];have C : ∀ q,(m.T.put (oq v) v.node).has q=true<->(m.T.has q=true\/q=oq v):=fun q=>by
  rw[dS.jS,Bool.or_eq_true,P_];exact⟨fun h=>h.imp id Eq.symm,fun h=>h.imp id Eq.symm⟩
 have u : ∀ q,q<L.nn->L.id q≠oq v:=fun q F e=>by
  have:=(h.T.has _).2 ⟨q,F,rfl⟩; rw[e,w]at this; cases this
 refine {
  T:=⟨fun q => ?_,?_,fun i d => ?_⟩
  inn:=h.inn
  left:=h.left
  known:=h.known
  row:=fun i d => ?_
  own:=fun a s => ?_
  gi:=h.gi
  gn:=h.gn
  g1:=h.g1
  g2:=h.g2
  ask:=h.ask
  ga:=h.ga
  li:=h.li }
 ·show(m.T.put (oq v) v.node).has q=true <-> ∃ i,i<L.nn+1/\Fx.cO L.id k (jF v.o v.seq) i=q;rw[C,h.T.has];constructor
  ·rintro (⟨i,d,e⟩|e)
   ·obtain⟨j,b,_,c⟩:=yS (k:=k) d;exact⟨j,b,by rw[c]; exact e⟩
   exact⟨k,by omega,by rw[dA,e,f]⟩
  rintro ⟨i,d,e⟩
  rcases dH g d with rfl|⟨j,b,c,_,_⟩
  ·rw[dA]at e; exact .inr (by rw[<- e,f])
  rw[c]at e; exact .inl ⟨j,b,e⟩
 ·show m.T.n+1=L.nn+1;rw[h.T.n]
 ·show(m.T.put (oq v) v.node).par (Fx.cO L.id k (jF v.o v.seq) i)=Fx.cO L.par k v.node i;rw[dS.uE]
  rcases dH g d with rfl|⟨j,b,c,_,_⟩
  ·rw[dA,dA,d_ f]
  rw[c,c,b_ (fun e=>u j b e.symm)]; exact h.T.par j b
 ·show Fx.aQ m.R m.T.n _ (zV (Fx.aQ m.T.x m.T.n (oq v)) (m.T.n+1) (Fx.cO L.id k (jF v.o v.seq) i))=Fx.cO L.R k _ i
  rcases dH g d with rfl|⟨j,b,c,_,_⟩
  ·rw[dA,dA,<- f,Mq _ _ _ E]; unfold Fx.aQ; rw[d_ rfl]
  rw[c,c,Mr _ _ (fun e=>u j b e.symm)];have p:=(dQ.DW A ((h.T.has _).2 ⟨j,b,rfl⟩)).1;have p:zV m.T.x m.T.n (L.id j)<m.T.n:=p;unfold Fx.aQ;rw[b_ (by omega)];exact h.row j b
 show aI m.own (aO v) (m.own (aO v)+1) a=((ny (Fx.cO L.id k (jF v.o v.seq)) ((a:Int)+1) (L.nn+1):Nat):Int);rw[Ms _ g,t];have B:(1099511627776*v.o+v.seq) / 1099511627776=v.o:=by omega
 rw[B];unfold aI;by_cases e:a=aO v
 ·rw[d_ e,<- e,h.own a s,d_ (by unfold aO at e; omega)]; rfl
 rw[b_ e,h.own a s,b_ (by unfold aO at e; omega)]; rfl
attribute [local irreducible] fB dn dB in
theorem fV.qE(h:fV m L)(d:m.T.ok)(g:Inv0 L N)(i:bR v=true):kI m v=iQ L v:=by
 unfold kI iQ;by_cases c:iD m v.o v.req=true
 ·rw[d_ c,d_ ((h.asked i _).1 c)]
 rw[b_ c,b_ (fun e=>c ((h.asked i _).2 e))];obtain⟨j,_⟩:=h.T.path d g v.node;have f:m.T.has v.node=false<->fB L.t L.tn v.node=0:=by
  rw[<- j];constructor
  ·intro b; rw[show m.T.path v.node = []from lK b]; rfl
  ·intro b
   cases e:m.T.has v.node with
   | false=>rfl
   | true=>rw[dS.step d e]at b; simp at b
 by_cases a:m.T.has v.node=false
 ·rw[d_ a,d_ (f.1 a)]
 rw[b_ a,b_ (fun e=>a (f.2 e))];exact(h.along d g _ _).1
theorem Gl{k1 k2:Nat->Int}{n:Nat}{a b o r:Int}:BU (Fx.aQ k1 n a) (Fx.aQ k2 n b) (n+1) o r=true<->(BU k1 k2 n o r=true\/(a=o/\b=r)):=by
 rw[lY,lY];unfold Fx.aQ;constructor
 ·rintro ⟨j,f,c,d⟩;by_cases e:j=n
  ·subst e; rw[d_ rfl]at c d; exact .inr ⟨c,d⟩
  rw[b_ e]at c d; exact .inl ⟨j,by omega,c,d⟩
 rintro (⟨j,f,c,d⟩|⟨c,d⟩)
 ·exact⟨j,by omega,by rw[b_ (by omega)]; exact c,by rw[b_ (by omega)]; exact d⟩
 exact⟨n,by omega,by rw[d_ rfl]; exact c,by rw[d_ rfl]; exact d⟩
theorem fV.Qg(h:fV m L)(w:bR v=true)(d:dQ)(f:eP)(i:d.an=m.an+1)(k:d.ao=Fx.aQ m.ao m.an v.o)(l:d.ar=Fx.aQ m.ar m.an v.req)(n:f.rn=aI L.rn (aO v) (L.rn (aO v)+1))(p:f.rq=aI L.rq (aO v) (aI (L.rq (aO v)) (L.rn (aO v)) v.req)) :
 (∀(a:Nat) (r:Int),a<6->(iD d ((a:Int)+1) r=true <-> ∃ j,j<f.rn a/\f.rq a j=r))/\(∀ o r,iD m o r=true->iD d o r=true)/\iD d v.o v.req=true:=by
 obtain⟨b,x,t⟩:=fq (jk w);have u:aO v=b:=by unfold aO; omega
 have g : ∀ o r,iD d o r=true<->(iD m o r=true\/(v.o=o/\v.req=r)):=fun o r=>by
  unfold iD; rw[i,k,l]; exact Gl
 refine⟨fun a r q => ?_,fun o r h=>(g o r).2 (.inl h),(g _ _).2 (.inr ⟨rfl,rfl⟩)⟩;rw[g,h.ask a r q,n,p,u];unfold aI;by_cases e:a=b
 ·subst e;rw[d_ rfl,d_ rfl];constructor
  ·rintro (⟨j,s,e⟩|⟨_,e⟩)
   ·exact⟨j,by omega,by show(if j=L.rn a then v.req else L.rq a j)=r; rw[b_ (by omega)]; exact e⟩
   exact⟨L.rn a,by omega,by show(if L.rn a=L.rn a then v.req else _)=r; rw[d_ rfl]; exact e⟩
  rintro ⟨j,s,e⟩;have e:(if j=L.rn a then v.req else L.rq a j)=r:=e;by_cases c:j=L.rn a
  ·rw[d_ c]at e; exact .inr ⟨t,e⟩
  rw[b_ c]at e; exact .inl ⟨j,by omega,e⟩
 rw[b_ e,b_ e];exact⟨fun h=>h.elim id fun h=>by omega,.inl⟩
attribute [local irreducible] fB dn dB in
theorem fV.take(h:fV m L)(F:m.T.ok)(E:Inv0 L N)(D:bR v=true)(t:iQ L v=0):fV (kY m v) (jg L v):=by
 unfold iQ at t;split at t
 ·cases t
 rename_i c1;split at t
 ·cases t
 have I:=(h.along F E (fun x=>bG x v.o v.aT) v.node).2 t;have G : ¬ iD m v.o v.req=true:=fun e=>c1 ((h.asked D _).1 e);obtain⟨k1,k2,J⟩:=h.Qg D (kY m v) (jg L v) rfl rfl rfl rfl rfl;have s : ∀ j,(kY m v).g j=if j=m.gn then pz v else m.g j:=fun j=>rfl;have A:pz v 0=v.o:=rfl;have B:pz v 1=v.req:=rfl;have y : ∀ j,j<m.gn -> ¬ (m.g j 0=v.o/\m.g j 1=v.req):=fun j d e=>G (by have:=h.ga j d; rw[e.1,e.2]at this; exact this);have u:=Fx.uD (fun i=>CQ v (L.g i)) L.gn
 refine {
  T:=⟨h.T.has,h.T.n,h.T.par⟩
  inn:=h.inn
  left:=h.left
  known:=h.known
  row:=I
  own:=h.own
  gi:=fun i j r d b a => ?_
  gn:=by show m.gn+1=L.gn+1; rw[h.gn]
  g1:=fun q f => ?_
  g2:=fun j d => ?_
  ask:=k1
  ga:=fun i r => ?_
  li:=fun p q z f b a => ?_ }
 ·have r:i<m.gn+1:=r;have d:j<m.gn+1:=d;rw[s,s]at b a;by_cases c:i=m.gn
  ·by_cases l:j=m.gn
   ·omega
   rw[d_ c,b_ l,A]at b; rw[d_ c,b_ l,B]at a;exact M_ ⟨b.symm,a.symm⟩ (y j (by omega))
  by_cases l:j=m.gn
  ·rw[b_ c,d_ l,A]at b; rw[b_ c,d_ l,B]at a;exact M_ ⟨b,a⟩ (y i (by omega))
  rw[b_ c,b_ l]at b a; exact h.gi i j (by omega) (by omega) b a
 ·have f:q<L.gn+1:=f;show ∃ j,j<m.gn+1/\(kY m v).g j=Fx.cO L.g (Fx.down (fun i=>CQ v (L.g i)) L.gn) (pz v) q
  rcases dH u f with e|⟨j,d,a,_,_⟩
  ·rw[e,dA]; exact⟨m.gn,by omega,by rw[s,d_ rfl]⟩
  rw[a];obtain⟨i,r,w⟩:=h.g1 j d;exact⟨i,by omega,by rw[s,b_ (by omega)]; exact w⟩
 ·have d:j<m.gn+1:=d;show ∃ q,q<L.gn+1/\Fx.cO L.g (Fx.down (fun i=>CQ v (L.g i)) L.gn) (pz v) q=(kY m v).g j;rw[s];by_cases c:j=m.gn
  ·rw[d_ c]; exact⟨_,by omega,dA⟩
  rw[b_ c];obtain⟨q,f,e⟩:=h.g2 j (by omega);obtain⟨K,H,_,a⟩:=yS (k:=Fx.down (fun i=>CQ v (L.g i)) L.gn) f;exact⟨K,H,by rw[a]; exact e⟩
 ·have r:i<m.gn+1:=r;rw[s];by_cases c:i=m.gn
  ·rw[d_ c]; exact J
  rw[b_ c]; exact k2 _ _ (h.ga i (by omega))
 have z:p<L.gn+1:=z;have f:q<L.gn+1:=f;have C : ∀ j,j<L.gn -> ¬ (L.g j 0=v.o/\L.g j 1=v.req):=fun j d e=>by
  obtain⟨i,r,w⟩:=h.g1 j d;rw[<- w]at e;exact y i r e
 have b:Fx.cO L.g (Fx.down (fun i=>CQ v (L.g i)) L.gn) (pz v) p 0=Fx.cO L.g (Fx.down (fun i=>CQ v (L.g i)) L.gn) (pz v) q 0:=b;have a:Fx.cO L.g (Fx.down (fun i=>CQ v (L.g i)) L.gn) (pz v) p 1=Fx.cO L.g (Fx.down (fun i=>CQ v (L.g i)) L.gn) (pz v) q 1:=a;generalize Fx.down (fun i=>CQ v (L.g i)) L.gn=k at b a u
 rcases dH u z with c|⟨j,d,f1,f2,f3⟩
 ·rcases dH u f with l|⟨j',hj',f1',f2',f3'⟩
  ·omega
  rw[c,dA,f1']at b a; exact M_ ⟨b.symm,a.symm⟩ (C j' hj')
 rcases dH u f with l|⟨j',hj',f1',f2',f3'⟩
 ·rw[l,dA,f1]at b a; exact M_ ⟨b,a⟩ (C j d)
 rw[f1,f1']at b a;have:=h.li j j' d hj' b a;omega
attribute [local irreducible] fB dn dB in
theorem fV.qF(h:fV m L)(l:m.T.ok)(k:Inv0 L N)(f:bR v=true):jK m v=iJ L v:=by
 unfold jK iJ;by_cases c:iD m v.o v.req=true
 ·rw[d_ c,d_ ((h.asked f _).1 c)]
 rw[b_ c,b_ (fun e=>c ((h.asked f _).2 e))];obtain⟨d,j⟩:=h.grant v.o v.of;by_cases b:0<=L.grant v.o v.of
 ·obtain⟨p,r,i,s,t⟩:=j b;have n:=d.2 b;have e:(jc m v.o v.of=false\/m.g (fF m v.o v.of) 4≠0)<->(L.grant v.o v.of<0\/L.g (xW L v) 4≠0):=by
   rw[i,n];show _<->_\/L.g (L.grant v.o v.of).toNat 4≠0;constructor
   ·rintro (h|h)
    ·cases h
    ·exact .inr h
   ·rintro (h|h)
    ·omega
    ·exact .inr h
  by_cases a:L.grant v.o v.of<0\/L.g (xW L v) 4≠0
  ·rw[d_ a,d_ (e.2 a)]
  rw[b_ a,b_ (fun q=>a (e.1 q)),i];exact(h.along l k _ _).1
 rw[d_ (.inl (by
  cases e:jc m v.o v.of with
  | false=>rfl
  | true=>exact M_ (d.1 e) b)),d_ (.inl (by omega))]
attribute [local irreducible] fB dn dB in
theorem fV.free(h:fV m L)(G:m.T.ok)(F:Inv0 L N)(I:bR v=true)(k:iJ L v=0):fV (iR m v) (gG L v):=by
 unfold iJ at k;split at k
 ·cases k
 split at k
 ·cases k
 rename_i c2;have E:0<=L.grant v.o v.of:=by rcases ilt (L.grant v.o v.of)with h1|h1; exact M_ (.inl h1) c2; exact h1
 obtain⟨C,D,t,K,M⟩:=(h.grant v.o v.of).2 E;have H:=(h.along G F (fun x=>bI x v.o (L.g (xW L v) 3)) (L.g (xW L v) 2)).2 k;obtain⟨k1,k2,J⟩:=h.Qg I (iR m v) (gG L v) rfl rfl rfl rfl rfl;have A:xW L v=(L.grant v.o v.of).toNat:=rfl;have w : ∀ j,(iR m v).g j=if j=fF m v.o v.of then upd (m.g (fF m v.o v.of)) 4 v.req else m.g j:=fun j=>rfl;have u : ∀ q,(gG L v).g q=if q=xW L v then aI (L.g (xW L v)) 4 v.req else L.g q:=fun q=>rfl;have B:upd (m.g (fF m v.o v.of)) 4 v.req=aI (L.g (xW L v)) 4 v.req:=by rw[t]; rfl
 have f : ∀ j p,(p=0\/p=1)->(iR m v).g j p=m.g j p:=fun j p s=>by
  rw[w];by_cases c:j=fF m v.o v.of
  ·subst c; rw[d_ rfl]; rcases s with rfl|rfl <;> rfl
  ·rw[b_ c]
 have z : ∀ j p,(p=0\/p=1)->(gG L v).g j p=L.g j p:=fun j p s=>by
  rw[u];by_cases c:j=xW L v
  ·subst c; rw[d_ rfl]; rcases s with rfl|rfl <;> rfl
  ·rw[b_ c]
 refine {
  T:=⟨h.T.has,h.T.n,h.T.par⟩
  inn:=h.inn
  left:=h.left
  known:=h.known
  row:=fun i r => ?_
  own:=h.own
  gi:=fun i j r a l d=>h.gi i j r a (by rw[f i 0 (.inl rfl),f j 0 (.inl rfl)]at l; exact l) (by rw[f i 1 (.inr rfl),f j 1 (.inr rfl)]at d; exact d)
  gn:=h.gn
  g1:=fun q b => ?_
  g2:=fun j a => ?_
  ask:=k1
  ga:=fun i r=>by rw[f i 0 (.inl rfl),f i 1 (.inr rfl)]; exact k2 _ _ (h.ga i r)
  li:=fun p q s b l d=>h.li p q s b (by rw[z p 0 (.inl rfl),z q 0 (.inl rfl)]at l; exact l) (by rw[z p 1 (.inr rfl),z q 1 (.inr rfl)]at d; exact d) }
 ·have:=H i r;show(qo m (fun x=>bI x v.o (m.g (fF m v.o v.of) 3)) (m.T.path (m.g (fF m v.o v.of) 2))).R (m.idx (L.id i))=_;rw[t]; exact this
 ·have b:q<L.gn:=b;rw[u];by_cases c:q=xW L v
  ·rw[d_ c]; exact⟨fF m v.o v.of,D,by rw[w,d_ rfl,B]⟩
  rw[b_ c];obtain⟨j,a,y⟩:=h.g1 q b;refine⟨j,a,?_⟩;rw[w,b_]
  ·exact y
  intro e;rw[e,t]at y;exact c (h.li q _ b C (congrFun y.symm 0) (congrFun y.symm 1))
 have a:j<m.gn:=a;rw[w];by_cases c:j=fF m v.o v.of
 ·rw[d_ c]; exact⟨xW L v,C,by rw[u,d_ rfl,B]⟩
 rw[b_ c];obtain⟨q,b,e⟩:=h.g2 j a;refine⟨q,b,?_⟩;rw[u,b_]
 ·exact e
 intro d;rw[d]at e;exact c (h.gi j _ a D (by rw[t,<- e,A]) (by rw[t,<- e,A]))
theorem fV.move(h:fV m L)(i:m.T.ok)(a:Inv0 L N)(k:bR v=true)(j:v.kind=5):kX m v=ql L v/\(ql L v=0->fV (DK m v) (FY L v)):=by
 obtain⟨b,l,n⟩:=PX k j;unfold kX ql;by_cases c:L.node v.node<0
 ·rw[d_ c,d_ ((h.Mt a _).2 c)];exact⟨rfl,fun h=>by cases h⟩
 have f:0<=L.node v.node:=by omega
 rw[b_ c,b_ (fun e=>c ((h.Mt a _).1 e)),h.inn];have g:tO m v=yR L v:=by unfold tO yR; rw[<- h.rk a f]; rfl
 have e:(v.dst<1\/6<v.dst\/L.inn (v.dst-1).toNat=false)<->L.inn (v.dst-1).toNat=false:=⟨fun h=>by rcases h with h|h|h; omega; omega; exact h,fun h => .inr (.inr h)⟩
 by_cases d:L.inn (v.dst-1).toNat=false
 ·rw[d_ d,d_ (e.2 d)];exact⟨rfl,fun h=>by cases h⟩
 rw[b_ d,b_ (fun q=>d (e.1 q)),g];refine⟨rfl,fun _ => ?_⟩;have:=h.CZ i a ((h.node a _).2 f) (yR L v).1;unfold DK FY;rw[g]; exact this
theorem fV.raise(h:fV m L)(f:m.T.ok)(a:Inv0 L N):jT m v=xB L v/\(xB L v=0->fV (vk m v) (FX L v)):=by
 unfold jT xB;by_cases c:L.node v.node<0
 ·rw[d_ c,d_ ((h.Mt a _).2 c)];exact⟨rfl,fun h=>by cases h⟩
 have b:0<=L.node v.node:=by omega
 have d:m.R (m.idx v.node)=L.R (L.node v.node).toNat:=h.rk a b;rw[b_ c,b_ (fun e=>c ((h.Mt a _).1 e)),d];refine⟨rfl,fun _ => ?_⟩;unfold vk FX;rw[d];exact h.CZ f a ((h.node a _).2 b) _
theorem fV.does(h:fV m L)(c:m.T.ok)(b:Inv0 L N)(d:bR v=true):fM m v=dW L v/\(dW L v=0->fV (jh m v) (gH L v)):=by
 have j:=jE d;unfold fM dW jh gH;by_cases k1:v.kind=1
 ·rw[d_ k1,d_ k1,d_ k1,d_ k1]; exact⟨h.aiW c b d k1,fun e=>h.make c b d k1 e⟩
 rw[b_ k1,b_ k1,b_ k1,b_ k1];by_cases k2:v.kind=2
 ·rw[d_ k2,d_ k2,d_ k2,d_ k2]; exact h.raise c b
 rw[b_ k2,b_ k2,b_ k2,b_ k2];by_cases f:v.kind=3
 ·rw[d_ f,d_ f,d_ f,d_ f]; exact⟨h.qE c b d,fun e=>h.take c b d e⟩
 rw[b_ f,b_ f,b_ f,b_ f];by_cases g:v.kind=4
 ·rw[d_ g,d_ g,d_ g,d_ g]; exact⟨h.qF c b d,fun e=>h.free c b d e⟩
 rw[b_ g,b_ g,b_ g,b_ g];by_cases a:v.kind=5
 ·rw[d_ a,d_ a,d_ a,d_ a]; exact h.move c b d a
 rw[b_ a,b_ a,b_ a,b_ a];by_cases i:v.kind=6
 ·rw[d_ i,d_ i,d_ i];exact⟨rfl,fun _ => { h with T:=⟨h.T.has,h.T.n,h.T.par⟩,inn:=by show aI m.inn _ true=aI L.inn _ true; rw[h.inn] }⟩
 rw[b_ i,b_ i,b_ i];exact⟨rfl,fun _ => { h with T:=⟨h.T.has,h.T.n,h.T.par⟩,left:=by show aI m.left _ true=aI L.left _ true; rw[h.left] }⟩
theorem fV.apply(h:fV m L)(f:m.T.ok)(d:Inv0 L N)(v:EvM):cK m v=bA L v/\fV (ji m v) (bT L v):=by
 have e:cK m v=bA L v:=by
  unfold cK bA;rw[h.known,h.inn,h.left]
  cases b:bR v with
  | false=>rfl
  | true =>
    rw[(h.does f d b).1]
 refine⟨e,?_⟩;unfold ji bT;rw[e];by_cases c:bA L v=0
 ·rw[d_ c,d_ c];have b:=(DI (iU c)).1;have g:dW L v=0:=by
   unfold bA at c;rw[b_ (by rw[b]; decide)]at c;split at c; · cases c
   split at c; · cases c
   split at c; · cases c
   exact c
  have a:=(h.does f d b).2 g;exact { a with T:=⟨a.T.has,a.T.n,a.T.par⟩,known:=by show aI (jh m v).known _ _=aI (gH L v).known _ _; rw[a.known] }
 rw[b_ c,b_ c]; exact h
theorem fV.sound(h:fV m L)(k:m.T.ok)(c:Inv0 L N):QlK m := {
 own:=fun a l=>by
  have b:=Qf (f:=L.id) (o:=(a:Int)+1) L.nn;have d:=c.nn;rw[h.own a l]; omega
 row:=fun i g p n=>by
  obtain⟨j,hj,e⟩:=(h.T.has _).1 (dS.Aj g);have b:=h.row j hj;rw[e]at b;have d:m.idx (m.T.x i)=i:=nJ k.inj g rfl;unfold DT at b;rw[d]at b;rw[b];exact nI (c.may j hj) p n
 ga:=h.ga
 kn:=by rw[h.known]; exact c.kn }
end
end Rt
namespace Rt
def oM(x:Nat->Int):Int:=x 0*18446744073709551616+x 1
structure yu(L:eP):Prop where
 up : ∀ i j,i<j->j<L.gn->oM (L.g i)<oM (L.g j)
 wf : ∀ q,q<L.gn->iX (L.g q 1)/\iX (L.g q 4)
 ga : ∀ q,q<L.gn->1<=L.g q 0/\L.g q 0<=6 /\ ∃ j,j<L.rn (L.g q 0-1).toNat/\L.rq (L.g q 0-1).toNat j=L.g q 1
section
variable {L:eP} {N:Nat} {v:EvM}
theorem WV(a:iX v.req){x:Nat->Int}(hx:iX (x 1)):CQ v x=true<->oM (pz v)<oM x:=by
 unfold CQ oM iX at *;rw[Bool.or_eq_true,S_,P_,P_,P_];show v.o<x 0\/x 0=v.o/\v.req<x 1<->v.o*18446744073709551616+v.req<x 0*18446744073709551616+x 1;omega
theorem BX{a:Nat}{r:Int}(d:eP)(f:d.rn=aI L.rn a (L.rn a+1))(g:d.rq=aI L.rq a (aI (L.rq a) (L.rn a) r)):(∀ b y,(∃ j,j<L.rn b/\L.rq b j=y) -> ∃ j,j<d.rn b/\d.rq b j=y) /\ ∃ j,j<d.rn a/\d.rq a j=r:=by
 rw[f,g];unfold aI;refine⟨fun b y ⟨j,h,e⟩ => ?_,L.rn a,by rw[d_ rfl]; omega,by rw[d_ rfl,d_ rfl]⟩;by_cases c:b=a
 ·subst c;exact⟨j,by rw[d_ rfl]; omega,by rw[d_ rfl,b_ (by omega)]; exact e⟩
 exact⟨j,by rw[b_ c]; exact h,by rw[b_ c]; exact e⟩
attribute [local irreducible] fB dn in
theorem Oz(h:yu L)(J:bR v=true)(M:gD v)(t:iQ L v=0):yu (jg L v):=by
 have z:=oJ J;have m:iX v.req:=M.req;unfold iQ at t;split at t
 ·cases t
 rename_i c1;obtain⟨w,x⟩:=BX (L:=L) (a:=aO v) (r:=v.req) (jg L v) rfl rfl;have K : ∀ j,j<L.gn -> ¬ (L.g j 0=v.o/\L.g j 1=v.req):=fun j f e=>c1 (by
  obtain⟨_,_,q,b,y⟩:=h.ga j f;rw[e.1,e.2]at y;rw[e.1]at b;unfold eP.kF;rw[vW];exact⟨q,b,f_ y⟩)
 obtain⟨k,u⟩ : ∃ k,k=Fx.down (fun i=>CQ v (L.g i)) L.gn:=⟨_,rfl⟩;have l:k<=L.gn:=by rw[u]; exact Fx.uD _ _
 have I : ∀ q,k<=q->q<L.gn->oM (pz v)<oM (L.g q):=fun q D d=>(WV m (h.wf q d).1).1 (Fx.Jr (P:=fun i=>CQ v (L.g i)) (n:=L.gn) (i:=q) (by omega) d);have H : ∀ q,q<k->oM (L.g q)<oM (pz v):=fun q D=>by
  obtain⟨j,rfl⟩ : ∃ j,k=j+1:=⟨k-1,by omega⟩;have d:=Fx.Js (P:=fun i=>CQ v (L.g i)) (n:=L.gn) (j:=j) u.symm;have E : ¬ oM (pz v)<oM (L.g j):=fun e=>by
   have:=(WV m (h.wf j (by omega)).1).2 e;rw[this]at d; cases d
  have F:oM (L.g j)<oM (pz v):=by
   rcases Int.lt_trichotomy (oM (L.g j)) (oM (pz v))with c|c|c
   ·exact c
   ·exfalso;have G:=(h.wf j (by omega)).1;refine K j (by omega) ?_;unfold oM at c;have c:L.g j 0*18446744073709551616+L.g j 1=v.o*18446744073709551616+v.req:=c;unfold iX at G m;omega
   ·exact M_ c E
  by_cases e:q=j
  ·rw[e]; exact F
  ·have:=h.up q j (by omega) (by omega); omega
 have p:(jg L v).g=Fx.cO L.g k (pz v):=by rw[u]; rfl
 have s:(jg L v).gn=L.gn+1:=rfl;refine⟨fun i j N f => ?_,fun q b => ?_,fun q b => ?_⟩
 ·rw[s]at f;rw[p]
  rcases dH l (show i<L.gn+1 by omega)with rfl|⟨q,b,eq,q1,q2⟩
  ·rcases dH l f with rfl|⟨r,hr,er,w,x⟩
   ·omega
   rw[dA,er]; exact I r (by omega) hr
  rcases dH l f with rfl|⟨r,hr,er,w,x⟩
  ·rw[dA,eq]; exact H q (by omega)
  rw[eq,er]; exact h.up q r (by omega) hr
 ·rw[s]at b;rw[p]
  rcases dH l b with rfl|⟨r,hr,er,_,_⟩
  ·rw[dA]; exact⟨m,by show iX 0; unfold iX; omega⟩
  rw[er]; exact h.wf r hr
 rw[s]at b;rw[p]
 rcases dH l b with rfl|⟨r,hr,er,_,_⟩
 ·rw[dA]; exact⟨z.1,z.2.1,x⟩
 rw[er];obtain⟨A,B,C⟩:=h.ga r hr;exact⟨A,B,w _ _ C⟩
attribute [local irreducible] fB dn in
theorem OA(h:yu L)(w:bR v=true)(s:gD v)(u:iJ L v=0):yu (gG L v):=by
 obtain⟨t,x⟩:=BX (L:=L) (a:=aO v) (r:=v.req) (gG L v) rfl rfl;have e : ∀ q,(gG L v).g q=if q=xW L v then aI (L.g (xW L v)) 4 v.req else L.g q:=fun q=>rfl;have b : ∀ j p,(p=0\/p=1)->(gG L v).g j p=L.g j p:=fun j p o=>by
  rw[e];by_cases c:j=xW L v
  ·subst c; rw[d_ rfl]; rcases o with rfl|rfl <;> rfl
  ·rw[b_ c]
 refine⟨fun i j m n => ?_,fun q d => ?_,fun q d => ?_⟩
 ·unfold oM;rw[b i 0 (.inl rfl),b i 1 (.inr rfl),b j 0 (.inl rfl),b j 1 (.inr rfl)];exact h.up i j m n
 ·rw[b q 1 (.inr rfl)];refine⟨(h.wf q d).1,?_⟩;rw[e];by_cases c:q=xW L v
  ·rw[d_ c]; exact s.req
  rw[b_ c]; exact(h.wf q d).2
 rw[b q 0 (.inl rfl),b q 1 (.inr rfl)];obtain⟨f,k,l⟩:=h.ga q d;exact⟨f,k,t _ _ l⟩
theorem Gm(h:yu L)(e:gD v):yu (bT L v):=by
 unfold bT;by_cases c:bA L v=0
 ·rw[d_ c];have b:=(DI (iU c)).1;have a:dW L v=0:=by
   unfold bA at c;rw[b_ (by rw[b]; decide)]at c;split at c; · cases c
   split at c; · cases c
   split at c; · cases c
   exact c
  have d:yu (gH L v):=by
   unfold dW at a;unfold gH;by_cases k1:v.kind=1
   ·rw[d_ k1]; exact⟨h.up,h.wf,h.ga⟩
   rw[b_ k1]at a ⊢;by_cases k2:v.kind=2
   ·rw[d_ k2]; exact⟨h.up,h.wf,h.ga⟩
   rw[b_ k2]at a ⊢;by_cases f:v.kind=3
   ·rw[d_ f]at a ⊢; exact Oz h b e a
   rw[b_ f]at a ⊢;by_cases g:v.kind=4
   ·rw[d_ g]at a ⊢; exact OA h b e a
   rw[b_ g]at a ⊢;by_cases i:v.kind=5
   ·rw[d_ i]; exact⟨h.up,h.wf,h.ga⟩
   rw[b_ i];by_cases j:v.kind=6
   ·rw[d_ j]; exact⟨h.up,h.wf,h.ga⟩
   ·rw[b_ j]; exact⟨h.up,h.wf,h.ga⟩
  exact⟨d.up,d.wf,d.ga⟩
 rw[b_ c]; exact h
theorem Mv(k a:Nat):yu (jP k a).core:=⟨fun i j _ h=>M_ h (z_ _),fun q h=>M_ h (z_ _),fun q h=>M_ h (z_ _)⟩
theorem fV.new(k l d e f c b g:Nat):fV (yt k l d e f c b) (jP k g).core where
 T:=⟨fun q=>⟨fun h=>(nomatch h),fun⟨i,h,_⟩=>M_ h (z_ _)⟩,rfl,fun i h=>M_ h (z_ _)⟩
 inn:=rfl
 left:=rfl
 known:=rfl
 row:=fun i h=>M_ h (z_ _)
 own:=fun a _=>rfl
 gi:=fun i j h=>M_ h (z_ _)
 gn:=rfl
 g1:=fun q h=>M_ h (z_ _)
 g2:=fun q h=>M_ h (z_ _)
 ask:=fun a r _=>⟨fun h=>(nomatch h),fun⟨j,h,_⟩=>M_ h (z_ _)⟩
 ga:=fun i h=>M_ h (z_ _)
 li:=fun i j h=>M_ h (z_ _)
structure StC(L:eP)(m:dQ)(l:List Int)(gl:List Ke):Prop where
 nn:l.length=L.nn
 gn:gl.length=L.gn
 n : ∀ k,k<L.nn->l.getD k 0=L.id k/\m.T.par (l.getD k 0)=L.par k/\DT m (l.getD k 0)=L.R k
 g : ∀ k,k<L.gn->(gl.getD k g0).x=L.g k
theorem StC.of{m:dQ}{l:List Int}{c:List Ke}(h:fV m L)(F:Inv0 L N)(u:yu L)(B:l.Pairwise (· < ·) /\ ∀ k,k∈l<->m.T.has k=true)(s:GrS m c):StC L m l c:=by
 have w:l=(List.range L.nn).map L.id:=vI B.1 (by
  rw[List.pairwise_map];exact(List.pairwise_lt_range (n:=L.nn)).imp_of_mem fun {a b} _ hb hab=>F.rise a b hab (O_.1 hb)) fun k=>by
  rw[B.2,h.T.has,List.mem_map];exact⟨fun⟨i,d,e⟩=>⟨i,O_.2 d,e⟩,fun⟨i,d,e⟩=>⟨i,O_.1 d,e⟩⟩
 have y:c.map Mj=(List.range L.gn).map fun q=>oM (L.g q):=vI (by rw[List.pairwise_map]; exact s.up) (by
  rw[List.pairwise_map];exact(List.pairwise_lt_range (n:=L.gn)).imp_of_mem fun {a b} _ hb hab=>u.up a b hab (O_.1 hb)) fun k=>by
  rw[List.mem_map,List.mem_map];constructor
  ·rintro ⟨x,v,e⟩;obtain⟨i,d,p⟩:=s.mem x v;obtain⟨q,o,r⟩:=h.g2 i d;refine⟨q,O_.2 o,?_⟩;rw[r,<- p]; exact e
  ·rintro ⟨q,o,e⟩;obtain⟨j,G,C⟩:=h.g1 q (O_.1 o);obtain⟨x,v,E⟩:=s.all j G;refine⟨x,v,?_⟩;rw[<- e,<- C,<- E]; rfl
 have I:c.length=L.gn:=by have:=L_ List.length y; rwa [List.length_map,List.length_map,List.length_range]at this
 refine⟨by rw[w,List.length_map,List.length_range],I,fun k f => ?_,fun k f => ?_⟩
 ·have:l.getD k 0=L.id k:=by
   rw[w,r_,o_ (by rw[List.length_map,List.length_range]; exact f)];simp
  rw[this];exact⟨rfl,h.T.par k f,h.row k f⟩
 have t:k<c.length:=by omega
 have H:c.getD k g0∈c:=by rw[r_,o_ t]; exact Q_ t
 have D:Mj (c.getD k g0)=oM (L.g k):=by
  have A:=L_ (fun z=>z.getD k 0) y;simp only[r_,List.getElem?_map,o_ t,List.getElem?_range f]at A;rw[r_,o_ t]; exact A
 obtain⟨i,d,p⟩:=s.mem _ H;obtain⟨q,o,r⟩:=h.g2 i d;have J:oM (L.g q)=oM (L.g k):=by rw[r,<- p,<- D]; rfl
 have:q=k:=by
  rcases Nat.lt_trichotomy q k with h5|h5|h5
  ·have:=u.up q k h5 f; omega
  ·exact h5
  ·have:=u.up k q h5 o; omega
 rw[p,<- r,this]
end
end Rt
end Go.Proofs.YtcbedgfikejkoaaGreatDoor
namespace Go.Proofs.YtcbedgfikejkoaaGreatDoor
open Go.RowKit Go.WideShapes Go.ChangeShapes Go.Deep
theorem RN{w:World}{x:Addr}{v:Value}(h:w.cell? x=some v) : ∃ b a,x=⟨b,a,none⟩:=by
 obtain⟨b,a,c⟩:=x
 cases c with
 | none=>exact⟨b,a,rfl⟩
 | some q =>
   unfold World.cell? at h;simp at h;split at h <;> cases h
def xH(P:Program):Nat->TypeId->Option (List (Option IntKind))
 | 0,_=>none
 | d+1,t=>match P.underlying t with
   | some (.int k)=>some [some k]
   | some .bool=>some [none]
   | some (.array n e)=>(xH P d e).bind fun a=>if P.cellsOf e=a.length/\P.cellsOf t=n*a.length then some (List.replicate n a).flatten else none
   | some (.struct fs)=>(fs.toList.foldlM (fun l f=>(xH P d f.type).bind fun a=>if f.offset=l.length/\P.cellsOf f.type=a.length then some (l++a)else none) []).bind fun l=>if P.cellsOf t=l.length then some l else none
   | _=>none
def KC(k:Option IntKind)(v:Value):Prop:=match k with|some k => ∃ n,v = .int k n/\(Lit.int k n).wf=true|none => ∃ b,v = .bool b
def abw(ks:List (Option IntKind))(cs:List Value):Prop:=cs.length=ks.length /\ ∀(j:Nat) (k:Option IntKind),ks[j]? = some k -> ∃ v,cs[j]? = some v/\KC k v
theorem Di{ks:List (Option IntKind)}{k:Option IntKind} : ∀(n j:Nat),(List.replicate n ks).flatten[j]? = some k->ks[j % ks.length]? = some k/\j / ks.length<n
 | 0,j,h=>by simp at h
 | n+1,j,h=>by
   rw[List.replicate_succ,List.flatten_cons]at h;by_cases b:j<ks.length
   ·rw[List.getElem?_append_left b]at h;rw[Nat.mod_eq_of_lt b,Nat.div_eq_of_lt b]; exact⟨h,by omega⟩
   ·rw[List.getElem?_append_right (by omega)]at h;have c:0<ks.length:=by
     rcases Nat.eq_zero_or_pos ks.length with e|e
     ·obtain⟨a,_⟩:=Di n _ h;have:=(List.getElem?_eq_some_iff.1 a).1; omega
     ·exact e
    obtain⟨a,d⟩:=Di n _ h;rw[Nat.mod_eq_sub_mod (by omega),Nat.div_eq_sub_div c (by omega)];exact⟨a,by omega⟩
section
variable {H:Type} {enc:TypeId × Value->H} {P:Program} {w:World} {base:Nat} {spare:Nat->Bool} {held:Bool}
theorem Gn{ks:List (Option IntKind)}{cs:List Value}{o s j:Nat}{k:Option IntKind}(h:abw ks ((cs.drop o).take s))(e:s=ks.length)(b:ks[j]? = some k) : ∃ v,cs[o+j]? = some v/\KC k v:=by
 obtain⟨n,a,c⟩:=h.2 j k b;have d:=(List.getElem?_eq_some_iff.1 b).1;rw[List.getElem?_take_of_lt (by omega),List.getElem?_drop]at a;exact⟨n,a,c⟩
theorem Dj : ∀(d:Nat) (t:TypeId) (q:List (Option IntKind)),xH P d t=some q -> ∀(C:Nat) (p:List Value) (x:DataW H × List MemPlace),DataW.trod enc P w base spare held C t p=some x->abw q p
 | 0,_,_,h=>by simp[xH]at h
 | d+1,t,q,h=>by
   intro C p x z;unfold xH at h;split at h
   ·rename_i k hu;simp only[Option.some.injEq]at h; subst h;obtain⟨n,rfl,_,U⟩:=DataW.trod_int hu z;refine⟨rfl,fun j W a => ?_⟩
    match j,a with
    | 0,a=>simp at a; subst a; exact⟨_,rfl,n,rfl,U⟩
    | j+1,a=>simp at a
   ·rename_i hu;simp only[Option.some.injEq]at h; subst h;obtain⟨b,rfl,_⟩:=DataW.trod_bool hu z;refine⟨rfl,fun j W a => ?_⟩
    match j,a with
    | 0,a=>simp at a; subst a; exact⟨_,rfl,b,rfl⟩
    | j+1,a=>simp at a
   ·rename_i n e hu;obtain⟨I,S,h⟩:=Option.bind_eq_some_iff.1 h;split at h
    ·rename_i hc;simp only[Option.some.injEq]at h; subst h;obtain⟨Y,m,_,_,c,F,J⟩:=DataW.trod_array hu z;refine⟨by rw[c,hc.2]; simp,fun j k a => ?_⟩;obtain⟨r,A⟩:=Di n j a;have u:=J (j / I.length) A;rw[o_ (by omega),hc.1]at u;have:=Gn (Dj d e I S _ _ _ u) rfl r;rw[Nat.mul_comm,Nat.div_add_mod]at this;exact this
    ·cases h
   ·rename_i fs hu;obtain⟨l,c,h⟩:=Option.bind_eq_some_iff.1 h;split at h
    ·rename_i hc;simp only[Option.some.injEq]at h; subst h;obtain⟨Y,m,_,_,T,F,K⟩:=DataW.trod_struct hu z;refine⟨by rw[T,hc],?_⟩;have M : ∀ f,f∈fs.toList -> ∃ y,DataW.trod enc P w base spare held m f.type ((p.drop f.offset).take (P.cellsOf f.type))=some y:=by
      intro f N;obtain⟨i,u,e⟩:=List.mem_iff_getElem.1 N;have E:i<fs.size:=(by simpa using u);have r:fs[i]? = some f:=(by rw[Array.getElem?_eq_getElem E]; simpa using e);have:=K i f r;rw[o_ (by rw[F]; exact E)]at this;exact⟨_,this⟩
     have X : ∀(L:List Field) (o:List (Option IntKind)),(∀ f,f∈L -> ∃ y,DataW.trod enc P w base spare held m f.type ((p.drop f.offset).take (P.cellsOf f.type))=some y)->(∀(j:Nat) (k:Option IntKind),o[j]? = some k -> ∃ v,p[j]? = some v/\KC k v) -> ∀ l,L.foldlM (fun l f=>(xH P d f.type).bind fun q=>if f.offset=l.length/\P.cellsOf f.type=q.length then some (l++q)else none) o=some l -> ∀(j:Nat) (k:Option IntKind),l[j]? = some k -> ∃ v,p[j]? = some v/\KC k v:=by
      intro L
      induction L with
      | nil=>intro o _ B l c; simp at c; subst c; exact B
      | cons f L ih =>
        intro o D B l c;rw[List.foldlM_cons]at c;obtain⟨Z,r,A⟩:=Option.bind_eq_some_iff.1 c;obtain⟨G,R,s⟩:=Option.bind_eq_some_iff.1 r;split at s
        ·rename_i hcc;simp only[Option.some.injEq]at s; subst s;refine ih (o++G) (fun g O=>D g (List.mem_cons_of_mem _ O)) (fun j k a => ?_) l A;by_cases Q:j<o.length
         ·rw[List.getElem?_append_left Q]at a; exact B j k a
         ·rw[List.getElem?_append_right (by omega)]at a;obtain⟨y,V⟩:=D f (List.mem_cons_self ..);have:=Gn (Dj d f.type G R _ _ _ V) hcc.2 a;rw[hcc.1,show o.length+(j-o.length)=j by omega]at this;exact this
        ·cases s
     exact X fs.toList [] M (fun j k a=>by simp at a) l c
    ·cases h
   ·cases h
end
section
variable {H:Type} {enc:TypeId × Value->H} {P:Program} {w:World} {base:Nat} {spare:Nat->Bool} {held:Bool}
theorem I6{t e:TypeId}{ks:List (Option IntKind)}{fuel D:Nat}{cs:List Value}{x:DataW H × List MemPlace}(S:P.underlying t=some (.slice e))(O:xH P D e=some ks)(F:P.cellsOf e=ks.length)(C:0<ks.length)
 (h:DataW.trod enc P w base spare held fuel t cs=some x) : ∃ a c l,cs = [.slice a c l]/\c<=maxLen/\c<=l /\ ∃ X:Nat->Nat->Value,(∀ i,i<c -> ∀(j:Nat) (k:Option IntKind),ks[j]? = some k->KC k (X i j))/\Fx.kQ w a c ks.length (Fx.flat ks.length X):=by
 rcases open_slice S h with ⟨rfl,_⟩|⟨a',c,l,m,n,D',Pl,rfl,_,hl,hm,hmm,_,hx⟩
 ·exact⟨none,0,0,rfl,by unfold maxLen; omega,A_ _,fun _ _=>undef,fun i d=>M_ d (by omega),fun h=>M_ h (by omega)⟩
 have W:c<=m:=by rw[hmm]; split <;> omega
 have r : ∀ i j:Nat,∃ q:Value,i<c -> ∀ k,ks[j]? = some k->w.cell? (a'.add (i*ks.length+j))=some q/\KC k q:=by
  intro i j;by_cases d:i<c/\j<ks.length
  ·obtain⟨U,A,J⟩:=hx i (by omega);rw[F]at A;obtain⟨_,V,M⟩:=World.cells?_some A;obtain⟨q,y,z⟩:=(Dj _ _ _ O _ _ _ J).2 j _ (o_ d.2);refine⟨q,fun _ k v => ?_⟩;rw[o_ d.2,Option.some.injEq]at v;subst v;have E:=M j (by omega);rw[add_add]at E;exact⟨by rw[<- y]; simpa using E,z⟩
  ·refine⟨undef,fun y k z=>M_ ⟨y,(List.getElem?_eq_some_iff.1 z).1⟩ d⟩
 refine⟨some a',c,l,rfl,by omega,hl,fun i j=>Classical.choose (r i j),fun i d j k v=>(Classical.choose_spec (r i j) d k v).2,fun K => ?_⟩;have G:a'.add (0*ks.length+0)=a':=by unfold Addr.add; simp
 obtain⟨Z,L⟩:=r 0 0;have Q:=o_ C;have B:=(L K _ Q);have g:=B.1;rw[G]at g;have o : ∃ b f,a'=⟨b,f,none⟩:=by
  have u:=B.2;unfold KC at u;split at u
  ·obtain⟨Y,rfl,_⟩:=u; exact RN g
  ·obtain⟨T,rfl⟩:=u;unfold World.cell? at g
   cases a' with
   | mk b f sp =>
     cases sp with
     | none=>exact⟨b,f,rfl⟩
     | some s=>simp at g; split at g <;> simp_all
 obtain⟨b,f,o⟩:=o;refine⟨b,f,by rw[o],fun p R => ?_⟩;have N:p % ks.length<ks.length:=J_ _ C;have d:p / ks.length<c:=Nat.div_lt_of_lt_mul (by rw[Nat.mul_comm]; exact R);have:=(Classical.choose_spec (r (p / ks.length) (p % ks.length)) d _ (o_ N)).1;have I:a'.add (p / ks.length*ks.length+p % ks.length)=⟨b,f+p,none⟩:=by rw[o,addr_add,Nat.mul_comm,Nat.div_add_mod]
 exact(L_ w.cell? I).symm.trans this
end
def numOf:Value->Int | .int _ n=>n|_=>0
theorem KC.num{k:IntKind}{v:Value}(h:KC (some k) v):v = .int k (numOf v)/\(Lit.int k (numOf v)).wf=true:=by
 obtain⟨n,rfl,a⟩:=h; exact⟨rfl,a⟩
theorem abx{n:Int}(h:(Lit.int .u8 n).wf=true):0<=n/\n<=255:=by simp[Lit.wf,IntKind.min,IntKind.max,IntKind.bits,IntKind.signed]at h; omega
theorem afn{n:Int}(h:(Lit.int .u64 n).wf=true):0<=n/\n<18446744073709551616:=by simp[Lit.wf,IntKind.min,IntKind.max,IntKind.bits,IntKind.signed]at h; omega
theorem WW{n:Int}(h:(Lit.int .i64 n).wf=true) : -9223372036854775808<=n/\n<=9223372036854775807:=by simp[Lit.wf,IntKind.min,IntKind.max,IntKind.bits,IntKind.signed]at h; omega
section
variable {H:Type} {enc:TypeId × Value->H} {P:Program} {w:World}
theorem Gp{t e:TypeId}{ks:List (Option IntKind)}{a:Option Addr}{len cap D:Nat}{d:DataW H}{q:List MemPlace}(p:P.underlying t=some (.slice e))(m:xH P D e=some ks)(c:P.cellsOf e=ks.length)(o:0<ks.length)
 (h:DataW.Trod enc P w 0 (fun _=>true) true t (.slice a len cap) d q):len<=maxLen /\ ∃ X:Nat->Nat->Value,(∀ i,i<len -> ∀(j:Nat) (k:Option IntKind),ks[j]? = some k->KC k (X i j))/\Fx.kQ w a len ks.length (Fx.flat ks.length X):=by
 obtain⟨u,l⟩:=h;obtain⟨r,v,s,b,n,_,X,g,f⟩:=I6 p m c o l;simp[Value.cells]at b;obtain⟨rfl,rfl,rfl⟩:=b;exact⟨n,X,g,f⟩
theorem kQ.um{w:World}{a:Option Addr}{n s:Nat}{x y:Nat->Value}(h:Fx.kQ w a n s x)(e : ∀ p,p<n*s->x p=y p):Fx.kQ w a n s y:=fun f=>by
 obtain⟨b,j,d,g⟩:=h f;exact⟨b,j,d,fun i c=>by rw[<- e i c]; exact g i c⟩
end
end Go.Proofs.YtcbedgfikejkoaaGreatDoor
