/-
  What the proof of the law rests on, part 6: walks of functions, and plain laws; each says its conditions itself.
-/
import Derived.Shelf.SlSortCmp.NoneTotal
import Derived.Shelf.SlSortCmp.WholeK
import Derived.Lib.SliceRun
import Derived.Ground.SlsfProg
import Derived.Test.YtcbedgfikejkoaaGreatDoorProg
import Derived.Deep.Slices
import Derived.Lib.SmallJoins
import Derived.ChangeArms
import Derived.Test.YtcbedgfikejkoaaGreatDoorZE5
set_option maxRecDepth 20000
set_option linter.unusedVariables false
set_option maxHeartbeats 1600000
set_option linter.unusedSimpArgs false
namespace Go.Proofs.YtcbedgfikejkoaaGreatDoor
open Go.RowKit Rt
open Fx (bf eG gD Lv sN Ln Ws Wl Rp Wr Sb Wk rV sR Rs Rn Rd Wb Wx Wo Dx Ac BL DT fP uf rv aA aQ bG aO ev Stp aL dJ Mp aS iI iU bE iT jI bJ cells_one bA jQ dK bL bU cZ dh gZ iH)
section
namespace Rt
def Cr(k1 k2:Nat->Int):Nat->Int->Int->Bool
 | 0,_,_=>false
 | n+1,a,b=>(decide (k1 n=a)&&decide (k2 n=b)) || Cr k1 k2 n a b
def xS(k1 k2:Nat->Int):Nat->Int->Int->Nat
 | 0,_,_=>0
 | n+1,a,b=>if k1 n=a/\k2 n=b then n else xS k1 k2 n a b
section
variable {k1 k2:Nat->Int} {a b:Int}
theorem kI : ∀ {n:Nat},Cr k1 k2 n a b=true <-> ∃ j,j<n/\k1 j=a/\k2 j=b
 | 0=>⟨fun h=>(nomatch h),fun⟨j,h,_⟩=>N_ h (z_ _)⟩
 | n+1=>by
   unfold Cr;rw[Bool.or_eq_true,T_,Q_,Q_,kI];constructor
   ·rintro (⟨f,c⟩|⟨j,f,c,d⟩)
    ·exact⟨n,by omega,f,c⟩
    ·exact⟨j,by omega,c,d⟩
   ·rintro ⟨j,f,c,d⟩;by_cases e:j=n
    ·subst e; exact .inl ⟨c,d⟩
    ·exact .inr ⟨j,by omega,c,d⟩
theorem tX{n j:Nat}(e:j<n)(c:k1 j=a)(d:k2 j=b):Cr k1 k2 n a b=true:=kI.2 ⟨j,e,c,d⟩
theorem qy{n:Nat}(h : ∀ i,i<n -> ¬ (k1 i=a/\k2 i=b)):Cr k1 k2 n a b=false:=by
 cases e:Cr k1 k2 n a b with
 | false=>rfl
 | true=>obtain⟨j,f,c,d⟩:=kI.1 e; exact N_ ⟨c,d⟩ (h j f)
theorem zU{j:Nat} : ∀ {n:Nat},(∀ p q,p<n->q<n->k1 p=k1 q->k2 p=k2 q->p=q)->j<n->k1 j=a->k2 j=b->xS k1 k2 n a b=j
 | 0,_,h,_,_=>N_ h (z_ _)
 | n+1,hi,hj,e1,e2=>by
   unfold xS;by_cases c:k1 n=a/\k2 n=b
   ·rw[d_ c]; exact hi n j (by omega) hj (c.1.trans e1.symm) (c.2.trans e2.symm)
   ·rw[b_ c];refine zU (fun p q d f=>hi p q (by omega) (by omega)) ?_ e1 e2;by_cases e:j=n
    ·subst e; exact N_ ⟨e1,e2⟩ c
    ·omega
end
theorem Fa{v:EvM}(h:bR v=true)(a:gI v):Fx.En v.o v.req/\Fx.En v.o v.of:=by
 have d:=nI h;have b:=a.req;have c:=a.of;unfold jA at b c;exact⟨⟨by omega,by omega⟩,⟨by omega,by omega⟩⟩
theorem Z4{w:World}{b k n:Nat}{g:Nat->Nat->Int}{o r:Int}{y:Nat->Value}(h:iI w b k (aO (fun i=>g i 0) n o) (aO (fun i=>g i 1) n r) (aO (vg g) n (.agg (aA 5 y))))(x:Nat->Int)(e0:x 0=o)(a:x 1=r)(d : ∀ j,j<5->y j=jf x j) :
 iI w b k (fun i=>aO g n x i 0) (fun i=>aO g n x i 1) (vg (aO g n x)):=h.vQ fun i _=>by
 unfold aO vg;by_cases c:i=n
 ·subst c;refine⟨?_,?_,?_⟩
  ·show(if i=i then o else g i 0)=(if i=i then x else g i) 0;rw[d_ rfl,d_ rfl,e0]
  ·show(if i=i then r else g i 1)=(if i=i then x else g i) 1;rw[d_ rfl,d_ rfl,a]
  ·show(if i=i then Value.agg (aA 5 y)else _)=Value.agg (aA 5 (jf (if i=i then x else g i)));rw[d_ rfl,d_ rfl,Fx.dS d]
 ·refine⟨?_,?_,?_⟩
  ·show(if i=n then o else g i 0)=(if i=n then x else g i) 0;rw[b_ c,b_ c]
  ·show(if i=n then r else g i 1)=(if i=n then x else g i) 1;rw[b_ c,b_ c]
  ·show(if i=n then Value.agg (aA 5 y)else Value.agg (aA 5 (jf (g i))))=Value.agg (aA 5 (jf (if i=n then x else g i)));rw[b_ c,b_ c]
theorem Z5{w:World}{b n j:Nat}{g:Nat->Nat->Int}{x:Nat->Int}(h:iI w b n (fun i=>g i 0) (fun i=>g i 1) (aO (vg g) j (.agg (aA 5 (jf x)))))(e0:x 0=g j 0)(a:x 1=g j 1) :
 iI w b n (fun i=>aO g j x i 0) (fun i=>aO g j x i 1) (vg (aO g j x)):=h.vQ fun i _=>by
 unfold aO vg;show g i 0=(if i=j then x else g i) 0/\g i 1=(if i=j then x else g i) 1/\_=Value.agg (aA 5 (jf (if i=j then x else g i)));by_cases c:i=j
 ·subst c; rw[d_ rfl,d_ rfl]; exact⟨e0.symm,a.symm,rfl⟩
 ·rw[b_ c,b_ c]; exact⟨rfl,rfl,rfl⟩
theorem Qe{w:World}{b k n:Nat}{o r:Nat->Int}{x y:Int}(h:iI w b k (aO o n x) (aO r n y) (aO EC n (.bool true))):iI w b k (aO o n x) (aO r n y) EC:=h.vQ fun i _=>⟨rfl,rfl,by unfold aO EC; split <;> rfl⟩
theorem ajB(x:Nat->Int)(r:Int):dJ (jf x) 4 (aC r)=jf (upd x 4 r):=by
 funext p
 unfold dJ;by_cases c:p=4
 ·subst c; rw[d_ rfl]; rfl
 rw[b_ c]; unfold jf upd;by_cases a:p=0
 ·rw[d_ a,d_ a]; rfl
 rw[b_ a,b_ a];by_cases b:p=3
 ·rw[d_ b,d_ b]; rfl
 rw[b_ b,b_ b,b_ c]
def G7(a b:Int):Nat->Value:=fun p=>if p=0 then au a else aC b
def Xh(m:dP)(a:Nat->Nat->Int)(v:EvM):dP := { m with R:=a,an:=m.an+1,ao:=aO m.ao m.an v.o,ar:=aO m.ar m.an v.req,gn:=m.gn+1,g:=aO m.g m.gn (oI v) }
def Qf(m:dP)(a:Nat->Nat->Int)(v:EvM)(j:Nat):dP := { m with R:=a,an:=m.an+1,ao:=aO m.ao m.an v.o,ar:=aO m.ar m.an v.req,g:=aO m.g j (upd (m.g j) 4 v.req) }
structure Bw(w0 w:World):Prop where
 b:Below w0.heap.size w0 w
theorem Bw.up{a w w':World}(h:Bw a w)(c:Below w.heap.size w w'):Bw a w':=⟨M6 h.b c⟩
instance {a w w':World}:Rt.Tr w w' (Bw a w) (Bw a w'):=⟨fun b h=>h.up b⟩
end Rt
theorem afU{y:Nat->Value}{a b:Int}(c:y 0=au a)(h1:y 1=aC b){w:World}{g:Nat}(h:aQ w g 2 y 117):aQ w g 2 (G7 a b) 117:=h.congr fun j d=>by
 rcases(show j=0\/j=1 by omega)with rfl|rfl
 ·exact c
 ·exact h1
structure LtT(gl gq ge b:Nat):Prop where
 gl:gl<b
 gq:gq<b
 ge:ge<b
structure LtF(gl gq ge gg go b:Nat):Prop where
 gl:gl<b
 gq:gq<b
 ge:ge<b
 gg:gg<b
 go:go<b
theorem Xi(m:dP)(lp B:Nat)(w:World)(h:lS w B lp m)(v:EvM)(hv:bR v=true)(hwf:gI v)(H:Nat->Nat->Int)(C I F:Nat)(afV:I<=C)(cap:Array Value)(S:Wm w B lp m { m with R:=H } C (.func (.func F) #[] cap) F cap)(Q:Nat)(J:Nat)(K:Nat)(z:Nat)(X:aQ w Q 1 (fun _ => .func (.func F) #[] cap) 123)(Z:aQ w J 1 (fun _=>(pt lp)) 28)(hq:aQ w K 2 (G7 v.o v.req) 117)(D:aQ w z 14 (bI v) 37)(M:LtT J K z C)(hnz : ∀ i,i<m.an -> ¬ (m.ao i=v.o/\m.ar i=v.req))(hny : ∀ i,i<m.gn -> ¬ ((fun i=>m.g i 0) i=v.o/\(fun i=>m.g i 1) i=v.req)) :
 Calls Tryz.prog 222 #[(pt Q),(pt J),(pt K),(pt z)] w fun e w'=>e = .returned (.tuple #[])/\lS w' B lp (Xh m H v)/\jI (RS m lp I) w w':=by
 have hC:=h.c;have hT:=h.t;have hP:=h.p;have hR:=h.r;have hG:=h.g;have hA:=h.a;have d:=h.ne;have lC:=h.c.lt;have lT:=h.t.lt;have lP:=h.p.lt;have lR:=h.r.lt;have lG:=h.g.lt;have lA:=h.a.lt;have lgd:=X.lt;have lgl:=Z.lt;have lgq:=hq.lt;have lge:=D.lt;have Y:=Fa hv hwf;refine Kent Tryz.func222 25 ?_;refine ay<|Lv (.func (.func F) #[] cap) (aM X.aH 0)<|Ac (by rfl) (Fx.PZ (args := []) rfl rfl rfl (by simp) S.f) rfl<|(S.s _ (Below.refl _ _)).mono ?_;rintro e9 u ⟨D,A,G⟩;refine⟨_,D,?_⟩;clear D;have U:=G.mono (S':=RS m lp I) fun k hk=>hk.imp id (m_ afV);have m1:aQ u lp 29 (wD m) 114:=A.c;have lm1:=m1.lt;have m2:tH u B m.tp m.mb m.T:=A.t;have lm2:=m2.lt;have m3:Mp u m.pb m.T.n m.T.x (EB m.T):=A.p;have lm3:=m3.lt;have m4:Mp u m.rb m.T.n m.T.x (xQ (H)):=A.r;have lm4:=m4.lt;have m5:iI u m.gb m.gn (fun i=>m.g i 0) (fun i=>m.g i 1) (vg m.g):=A.g;have lm5:=m5.lt;have m6:iI u m.ab m.an m.ao m.ar EC:=A.a;have lm6:=m6.lt;have m7:=h.J7 Z (by decide) G M.gl;have lm7:=m7.lt;have m8:=h.J7 hq (by decide) G M.gq;have lm8:=m8.lt;have m9:=h.J7 D (by decide) G M.ge;have lm9:=m9.lt;refine aD<|Ws ?_;refine jY [0,1,2,3,4,5] [4,0,0,4,4,3] [(5,0,[0]),(5,3,[3]),(5,4,[4])] fun qU V iC => ?_;have s1:Stp u.heap.size u qU:=Sb V;have⟨m10,m11,m12,m13,m14,m15,m16,m17,m18⟩:=CO V m1 m2 m3 m4 m5 m6 m7 m8 m9;have C:=U.then s1 (.inr U.size);refine Rs (pt lp) (aM m16.aH 0) ?_;refine aY (pt lp)<|aY (pf lp 28)<|Rs (.map (some m.ab)) (aM m10.aH 28) ?_;refine Rs (.agg (aA 2 (G7 v.o v.req))) (fM m17.aH 0) ?_;refine gQ<|Fx.L.TK (by rfl) rfl rfl rfl ((show ev _ _ = .agg (aA 2 (G7 v.o v.req))from rfl).trans (Fx.Az (y:=G7 v.o v.req) (a:=v.o) (b:=v.req) rfl rfl)) Y.1 rfl m15 Tryz.underlying112 Hl hnz fun N m19 s2 z1 => ?_;have l:=m15.CP s2;have m20:=m10.eH l;have m21:=m11.eH l (d.ma);have m22:=m12.eH l (d.pa);have m23:=m13.eH l (d.ra);have m24:=m14.eH l (d.ga);have nW:=m16.eH l;have oN:=m17.eH l;have pU:=m18.eH l;have P:=C.then s2 (.inl (.inl (.inr (.inr (.inr (.inr (.inr rfl)))))));have pV:iI N m.ab (m.an+1) (aO m.ao m.an v.o) (aO m.ar m.an v.req) EC:=Qe m19;refine Ln<|bT ?_;refine jY [5,7,9,11,0,1,2,3,4,6,8,10,12,13,14] [4,0,0,4,4,0,4,0,4,0,4,0,4,0,3] [(14,0,[0]),(14,3,[3]),(14,4,[4]),(14,6,[6]),(14,8,[8]),(14,10,[10]),(14,12,[12])] fun BS W mQ => ?_;have s3:Stp N.heap.size N BS:=Sb W;have⟨nX,ou,lu,m32,oQ,nL,oO,E,qV⟩:=CO W m20 m21 m22 m23 m24 nW oN pU pV;have b3:=P.then s3 (.inr P.size);refine aY (pt z)<|aY (pf z 12)<|aY (pf z 9)<|aY (pf z 11)<|Rs (pt lp) (aM nL.aH 0) ?_;refine aY (pt lp)<|aY (pf lp 27)<|Rs (.map (some m.gb)) (aM nX.aH 27) ?_;refine Rs (.agg (aA 2 (G7 v.o v.req))) (fM oO.aH 0) ?_;refine Rs (au v.o) (aM E.aH 0) ?_;refine Rs (aC v.req) (aM E.aH 12) ?_;refine Rs (aC v.node) (aM E.aH 9) ?_;refine Rs (au v.aT) (aM E.aH 11) ?_;refine aY (.agg (aA 5 (bG (bG (bG (bG zR0 0 1 (fun _=>au v.o)) 1 1 (fun _=>aC v.req)) 2 1 (fun _=>aC v.node)) 3 1 (fun _=>au v.aT))))<|gQ<|Fx.L.TK (by rfl) rfl rfl rfl ((show ev _ _ = .agg (aA 2 (G7 v.o v.req))from rfl).trans (Fx.Az (y:=G7 v.o v.req) (a:=v.o) (b:=v.req) rfl rfl)) Y.1 rfl oQ Tryz.underlying111 Hl hny fun w3 qB s4 z2 => ?_;have q:=oQ.CP s4;have pE:=nX.eH q;have sJ:=ou.eH q (d.mg);have mK:=lu.eH q (d.pg);have ni:=m32.eH q (d.rg);have mR:=nL.eH q;have qw:=oO.eH q;have qW:=E.eH q;have ow:=qV.eH q (Ne.symm d.ga);have b4:=b3.then s4 (.inl (.inl (.inr (.inr (.inr (.inr (.inl rfl)))))));have sK:iI w3 m.gb (m.gn+1) (fun i=>aO m.g m.gn (oI v) i 0) (fun i=>aO m.g m.gn (oI v) i 1) (vg (aO m.g m.gn (oI v))):=Z4 qB (oI v) rfl rfl (by intro j hj; rcases(show j=0\/j=1\/j=2\/j=3\/j=4 by omega)with rfl|rfl|rfl|rfl|rfl <;> rfl)
 refine Ln (Rn (⟨.tuple #[],iT Tryz.results222,?_⟩));unfold Xh;exact⟨rfl,{ c:=pE,t:=sJ,p:=mK,r:=ni,g:=sK,a:=ow,ne:=⟨d.mp,d.mr,d.mg,d.ma,d.pr,d.pg,d.pa,d.rg,d.ra,d.ga⟩,lB:=h.lB,pB:=h.pB,rB:=h.rB,gB:=h.gB,aB:=h.aB },b4⟩
theorem Xj(m:dP)(lp B:Nat)(w:World)(h:lS w B lp m)(v:EvM)(hv:bR v=true)(hwf:gI v)(J:Nat->Nat->Int)(D G H:Nat)(afV:G<=D)(cap:Array Value)(Q:Wm w B lp m { m with R:=J } D (.func (.func H) #[] cap) H cap)(j:Nat)(P:Nat)(K:Nat)(M:Nat)(I:Nat)(z:Nat)(go:Nat)(W:aQ w P 1 (fun _ => .func (.func H) #[] cap) 123)(hl:aQ w K 1 (fun _=>(pt lp)) 28)(hq:aQ w M 2 (G7 v.o v.req) 117)(E:aQ w I 14 (bI v) 37)(X:aQ w z 5 (jf (m.g j)) 106)(hof:aQ w go 2 (G7 v.o v.of) 117)(hgg:G<=z)(F:LtF K M I z go D)(hnz : ∀ i,i<m.an -> ¬ (m.ao i=v.o/\m.ar i=v.req))(Y:j<m.gn)(ejy:(fun i=>m.g i 0) j=v.o)(fjy:(fun i=>m.g i 1) j=v.of) :
 Calls Tryz.prog 225 #[(pt P),(pt K),(pt M),(pt I),(pt z),(pt go)] w fun e w'=>e = .returned (.tuple #[])/\lS w' B lp (Qf m J v j)/\jI (RS m lp G) w w':=by
 have hC:=h.c;have hT:=h.t;have hP:=h.p;have hR:=h.r;have hG:=h.g;have hA:=h.a;have d:=h.ne;have lC:=h.c.lt;have lT:=h.t.lt;have lP:=h.p.lt;have lR:=h.r.lt;have lG:=h.g.lt;have lA:=h.a.lt;have lgd:=W.lt;have lgl:=hl.lt;have lgq:=hq.lt;have lge:=E.lt;have lgg:=X.lt;have lgo:=hof.lt;have Z:=Fa hv hwf;have ayC:=Y;refine Kent Tryz.func225 22 ?_;refine ay<|Lv (.func (.func H) #[] cap) (aM W.aH 0)<|Ac (by rfl) (Fx.PZ (args := []) rfl rfl rfl (by simp) Q.f) rfl<|(Q.s _ (Below.refl _ _)).mono ?_;rintro e9 u ⟨E,C,A⟩;refine⟨_,E,?_⟩;clear E;have S:=A.mono (S':=RS m lp G) fun k hk=>hk.imp id (m_ afV);have m1:aQ u lp 29 (wD m) 114:=C.c;have lm1:=m1.lt;have m2:tH u B m.tp m.mb m.T:=C.t;have lm2:=m2.lt;have m3:Mp u m.pb m.T.n m.T.x (EB m.T):=C.p;have lm3:=m3.lt;have m4:Mp u m.rb m.T.n m.T.x (xQ (J)):=C.r;have lm4:=m4.lt;have m5:iI u m.gb m.gn (fun i=>m.g i 0) (fun i=>m.g i 1) (vg m.g):=C.g;have lm5:=m5.lt;have m6:iI u m.ab m.an m.ao m.ar EC:=C.a;have lm6:=m6.lt;have m7:=h.J7 hl (by decide) A F.gl;have lm7:=m7.lt;have m8:=h.J7 hq (by decide) A F.gq;have lm8:=m8.lt;have m9:=h.J7 E (by decide) A F.ge;have lm9:=m9.lt;have m10:=h.J7 X (by decide) A F.gg;have ayD:=m10.lt;have m11:=h.J7 hof (by decide) A F.go;have ayE:=m11.lt;refine aD<|Ws ?_;refine jY [0,1,2,3,4,5] [4,0,0,4,4,3] [(5,0,[0]),(5,3,[3]),(5,4,[4])] fun qU U iC => ?_;have s1:Stp u.heap.size u qU:=Sb U;have⟨m12,m13,m14,m15,m16,m17,m18,m19,m20,m21,m22⟩:=Fz U m1 m2 m3 m4 m5 m6 m7 m8 m9 m10 m11;have D:=S.then s1 (.inr S.size);refine Rs (pt lp) (aM m18.aH 0) ?_;refine aY (pt lp)<|aY (pf lp 28)<|Rs (.map (some m.ab)) (aM m12.aH 28) ?_;refine Rs (.agg (aA 2 (G7 v.o v.req))) (fM m19.aH 0) ?_;refine gQ<|Fx.L.TK (by rfl) rfl rfl rfl ((show ev _ _ = .agg (aA 2 (G7 v.o v.req))from rfl).trans (Fx.Az (y:=G7 v.o v.req) (a:=v.o) (b:=v.req) rfl rfl)) Z.1 rfl m17 Tryz.underlying112 Hl hnz fun w2 m23 s2 z1 => ?_;have l:=m17.CP s2;have m24:=m12.eH l;have nW:=m13.eH l (d.ma);have oN:=m14.eH l (d.pa);have pU:=m15.eH l (d.ra);have pV:=m16.eH l (d.ga);have nX:=m18.eH l;have ou:=m19.eH l;have lu:=m20.eH l;have m32:=m21.eH l;have oQ:=m22.eH l;have b2:=D.then s2 (.inl (.inl (.inr (.inr (.inr (.inr (.inr rfl)))))));have nL:iI w2 m.ab (m.an+1) (aO m.ao m.an v.o) (aO m.ar m.an v.req) EC:=Qe m23;refine Ln<|bT<|ay<|av (pf I 12)<|Lv (aC v.req) (aM lu.aH 12)<|av (pf z 4)<|ji m32 4 (aC v.req) fun N oO s3 z2 => ?_;have nT:aQ N z 5 (jf (upd (m.g j) 4 v.req)) 106:=oO.to (ajB _ _);have gF:=fP s3 m32.ty;have⟨qV,qB,pE,sJ,mK,ni,mR,qw,qW,ow⟩:=O5 gF m24 nW oN pU pV nX ou lu oQ nL;have O:=b2.then s3 (.inl (.inr hgg));refine aD ?_;refine jY [0,1,2,3,4,5,6] [4,0,0,4,4,4,3] [(6,0,[0]),(6,3,[3]),(6,4,[4]),(6,5,[5])] fun BS V mQ => ?_;have s4:Stp N.heap.size N BS:=Sb V;have⟨sK,vE,sM,rQ,uM,uw,ug,uW,xk,uh,rR⟩:=Fz V qV qB pE sJ mK ni mR qw qW ow nT;have b4:=O.then s4 (.inr O.size);refine Rs (pt lp) (aM uw.aH 0) ?_;refine aY (pt lp)<|aY (pf lp 27)<|Rs (.map (some m.gb)) (aM sK.aH 27) ?_;refine Rs (.agg (aA 2 (G7 v.o v.of))) (fM xk.aH 0) ?_;refine Rs (.agg (aA 5 (jf (upd (m.g j) 4 v.req)))) (fM rR.aH 0) ?_;refine gQ<|Fx.L.ahD (by rfl) rfl rfl rfl ((show ev _ _ = .agg (aA 2 (G7 v.o v.of))from rfl).trans (Fx.Az (y:=G7 v.o v.of) (a:=v.o) (b:=v.of) rfl rfl)) Z.2 rfl uM Tryz.underlying111 Hl Y ejy fjy fun w4 sw s5 z3 => ?_;have q:=uM.CP s5;have vU:=sK.eH q;have rE:=vE.eH q (d.mg);have uj:=sM.eH q (d.pg);have nY:=rQ.eH q (d.rg);have uy:=uw.eH q;have m64:=ug.eH q;have xq:=uW.eH q;have wI:=xk.eH q;have vF:=uh.eH q (Ne.symm d.ga);have yt:=rR.eH q;have b5:=b4.then s5 (.inl (.inl (.inr (.inr (.inr (.inr (.inl rfl)))))));have sO:iI w4 m.gb m.gn (fun i=>aO m.g j (upd (m.g j) 4 v.req) i 0) (fun i=>aO m.g j (upd (m.g j) 4 v.req) i 1) (vg (aO m.g j (upd (m.g j) 4 v.req))):=Z5 sw rfl rfl;refine Ln (Rn (⟨.tuple #[],iT Tryz.results225,?_⟩));unfold Qf;exact⟨rfl,{ c:=vU,t:=rE,p:=uj,r:=nY,g:=sO,a:=vF,ne:=⟨d.mp,d.mr,d.mg,d.ma,d.pr,d.pg,d.pa,d.rg,d.ra,d.ga⟩,lB:=h.lB,pB:=h.pB,rB:=h.rB,gB:=h.gB,aB:=h.aB },b5⟩
end
namespace Rt
def gG(m:dP)(o r:Int):Bool:=Cr m.ao m.ar m.an o r
def iy(m:dP)(o r:Int):Bool:=Cr (fun i=>m.g i 0) (fun i=>m.g i 1) m.gn o r
def eZ(m:dP)(o r:Int):Nat:=xS (fun i=>m.g i 0) (fun i=>m.g i 1) m.gn o r
noncomputable def Xk(m:dP)(v:EvM):dP:=qj m (fun x=>bF x v.o v.aT) (m.T.path v.node)
def ko(m:dP)(v:EvM):Int:=if gG m v.o v.req=true then 14 else if m.T.has v.node=false then 9 else dI m (fun x=>bF x v.o v.aT) (m.T.path v.node)
noncomputable def kR(m:dP)(v:EvM):dP:=Xh m (Xk m v).R v
noncomputable def Xl(m:dP)(v:EvM):dP:=qj m (fun x=>bH x v.o (m.g (eZ m v.o v.of) 3)) (m.T.path (m.g (eZ m v.o v.of) 2))
def jv(m:dP)(v:EvM):Int:=if gG m v.o v.req=true then 14 else if iy m v.o v.of=false\/m.g (eZ m v.o v.of) 4≠0 then 12 else dI m (fun x=>bH x v.o (m.g (eZ m v.o v.of) 3)) (m.T.path (m.g (eZ m v.o v.of) 2))
noncomputable def iQ(m:dP)(v:EvM):dP:=Qf m (Xl m v).R v (eZ m v.o v.of)
def R4(m:dP):Prop := ∀ i,i<m.gn->gG m (m.g i 0) (m.g i 1)=true
end Rt
theorem Fx.ajC{f:Nat->Value}{x1 x2 e g h i:Operand}{v1 v2 a b c d:Value}(h1:ev f x1=v1)(j:ev f x2=v2)(k:ev f e=a)(l:ev f g=b)(m:ev f h=c)(n:ev f i=d) : [x1,x2,e,g,h,i].map (ev f) = [v1,v2,a,b,c,d]:=by rw[List.map_cons,h1,Fx.ahw j k l m n]
theorem Wm.up{w w':World}{B lp a b:Nat}{m d:dP}{c:Value}{cap:Array Value}(h:Wm w B lp m d a c b cap)(e:Below w.heap.size w w'):Wm w' B lp m d a c b cap := { h with s:=fun g f=>h.s g (M6 e f) }
instance {w w':World} {B lp a c:Nat} {m e:dP} {d:Value} {cap:Array Value}:Rt.Tr w w' (Wm w B lp m e a d c cap) (Wm w' B lp m e a d c cap):=⟨fun b h=>h.up b⟩
theorem Z6(m:dP)(lp B:Nat)(w:World)(h:lS w B lp m)(v:EvM)(L:bR v=true)(hwf:gI v)(hga:R4 m) :
 Calls Tryz.prog 209 #[(pt lp),.agg (aA 14 (bI v))] w fun e w'=>SK w B lp m (kR m v) (ko m v) e w':=by
 have hC:=h.c;have hT:=h.t;have hP:=h.p;have hR:=h.r;have hG:=h.g;have hA:=h.a;have hN:=h.ne;have lC:=h.c.lt;have lT:=h.t.lt;have lP:=h.p.lt;have lR:=h.r.lt;have lG:=h.g.lt;have lA:=h.a.lt;obtain⟨a,ha,ho⟩ : ∃ a:Nat,a<6/\v.o=(a:Int)+1:=eU (je L);have hra:aP v=a:=by unfold aP; omega
 have hko:=Fa L hwf;have hvo:1<=v.o/\v.o<=6:=by omega
 refine Kent Tryz.func209 40 ?_;refine ay<|yD (pt lp) fun A w1 ku M s1 z1 => ?_;have⟨m2,m3,m4,m5,m6,m7,U⟩:=jJ s1.old hC hT hP hR hG hA (Below.refl w.heap.size w);have tC:=gN ku;have⟨nK,zm,yx,Co,AL⟩:=Ag ku hC.lt hP.lt hR.lt hG.lt hA.lt;have uK:=M.lt;refine pO fun d w2 uO C s2 z2 => ?_;have⟨m9,m10,m11,m12,m13,m14,m15,V⟩:=mO s2.old m2 m3 m4 m5 m6 m7 M U;have qX:=iK uO U.size;have⟨L9,Gi,Gj,Br,Gl,CW⟩:=G9 uO m2.lt m4.lt m5.lt m6.lt m7.lt M.lt;have zM:=C.lt;refine av (.nilFunc)<|av (au 0)<|aD<|ay<|av (pt d)<|Lv (au v.o) (aM C.aH 0)<|av (pf d 12)<|Lv (aC v.req) (aM C.aH 12)<|av (.agg (aA 2 (bG (bG zS0 0 1 (fun _=>au v.o)) 1 1 (fun _=>aC v.req))))<|nS 2 zS0 fun k w3 um N s3 z3 => ?_;have⟨m17,m18,m19,m20,m21,m22,m23,m24,W⟩:=CO s3.old m9 m10 m11 m12 m13 m14 m15 C V;have BF:=iK um V.size;have⟨Xm,afO,aqP,Xd,afP,Xe,Xf⟩:=Nv um m9.lt m11.lt m12.lt m13.lt m14.lt m15.lt C.lt;have GZ:=N.lt;refine dM N 0 (h1:=(bA (bA (fun jq _=>by show(zS0 jq).oneCell'=true; simp only[zS0]; repeat (first|rfl|split)) (fun _ _=>rfl)) (fun _ _=>rfl))) fun w4 nW s4 z4 => ?_
 have oN:aQ w4 k 2 (bG (bG zS0 0 1 (fun _=>au v.o)) 1 1 (fun _=>aC v.req)) 117:=aL nW;have pU:aQ w4 k 2 (G7 v.o v.req) 117:=afU (Fx.BK (by omega) (Fx.qY (j:=0) (by omega) (by omega) rfl)) (Fx.qY (j:=0) (by omega) (by omega) rfl) oN;have gF:=fP s4 N.ty;have⟨pV,nX,ou,lu,m32,oQ,nL,oO⟩:=adf gF m17 m18 m19 m20 m21 m22 m23 m24;have b4:=s4.below W W.size (by omega);refine aD<|Ws<|Ws ?_;refine jY [0,1,2,3,4,5] [4,0,0,4,4,4] [] fun qU dU iC => ?_;have⟨nT,qV,qB,pE,sJ,O,ni,mR,qw,X⟩:=vO dU pV nX ou lu m32 oQ nL oO pU b4;refine Rs (pt lp) (aM ni.aH 0) ?_;refine aY (pt lp)<|aY (pf lp 28)<|Rs (.map (some m.ab)) (aM nT.aH 28) ?_;refine Rs (.agg (aA 2 (G7 v.o v.req))) (fM qw.aH 0) ?_
 rcases Fx.yT m.ao m.ar m.an v.o v.req with ⟨WV,D9,Ea,Mi⟩|jH
 ·refine Rs aG (Fx.KS (z := .bool false) rfl rfl ((show ev _ _ = .agg (aA 2 (G7 v.o v.req))from rfl).trans (Fx.Az (y:=G7 v.o v.req) (a:=v.o) (b:=v.req) rfl rfl)) hko.1 O Tryz.underlying112 Hl (by rfl) D9 Ea Mi rfl) ?_;refine bT<|aN<|ay<|av (.nilFunc)<|av (au 14)<|aD<|Wr<|sR<|aJ (.tuple #[.nilFunc,au 14]) ?_;have f:ko m v=14:=by unfold ko; exact d_ (tX D9 Ea Mi)
  exact⟨⟨.nilFunc,0,#[],by rw[f],rfl,fun u=>N_ (f.symm.trans u) (by first|decide|omega|assumption)⟩,X⟩
 refine Rs aF (Fx.KR (z := .bool false) rfl rfl ((show ev _ _ = .agg (aA 2 (G7 v.o v.req))from rfl).trans (Fx.Az (y:=G7 v.o v.req) (a:=v.o) (b:=v.req) rfl rfl)) hko.1 O Tryz.underlying112 Hl (by rfl) jH) ?_;refine bT<|aK<|Wk<|sN<|Ws<|Ws ?_;refine jY [4,0,1,2,3,5,6,7] [4,0,0,4,0,4,3,0] [(6,0,[3,2,1,0]),(6,3,[3]),(6,5,[5]),(7,6,[6])] fun BS fZ mQ => ?_;have⟨qW,ow,sK,vE,sM,rQ,P,F,ug,H⟩:=vO fZ nT qV qB pE sJ O ni mR qw X;refine aY (pf d 9)<|Rs (pt lp) (aM P.aH 0) ?_;refine aY (pt lp)<|aY (pf lp 18)<|Rs (pt m.tp) (aM qW.aH 18) ?_;refine Rs (aC v.node) (aM F.aH 9) ?_;refine gQ ?_;by_cases q:(dO.has m.T v.node)=true
 ·refine lX (abO v.node ow) aG (by rw[q])<|Ln<|aY aF<|bT<|aK<|Wk<|sN<|ay<|Lv (pt lp) (aM P.aH 0)<|av (pf d 9)<|Lv (aC v.node) (aM F.aH 9)<|Lv (.func (.func 220) #[] #[(pt d)]) (Fx.mG (us := []) (vs := [(pt d)]) rfl rfl rfl)<|kF (Xc m lp B _ (h.up H) v.node v hvo d F) ?_;rintro e9 G ⟨⟨E,fi1,Q0,he,ho1,hD1⟩,hb1⟩;refine⟨_,he,?_⟩;clear he;have⟨uW,uh,rR,sw,vU,rE,uj,nY,Y⟩:=CO hb1 qW sK vE sM rQ P F ug H;have aa:Bw G G:=⟨Below.refl _ _⟩;refine av (.tuple #[E,au (dI m (fun x=>bF x v.o v.aT) (m.T.path (v.node)))])<|av (E)<|av (au (dI m (fun x=>bF x v.o v.aT) (m.T.path (v.node))))<|nS 1 (fun _ => .nilFunc) fun l w6 J Q s8 z5 => ?_;have⟨vG,uN,vH,vI,Z⟩:=nE s8.old rE uj nY aa Y;have NT:=iK J Y.size;have⟨aqQ,afp,afq,afr,afs,aft,aqR,afu⟩:=YF J uW.lt uh.lt rR.lt sw.lt vU.lt rE.lt uj.lt nY.lt;have M9:=Q.lt;have kg4:G.heap.size<=l:=by rw[J]; exact aa.b.size
  refine ji Q 0 E (h1:=ho1) fun w7 yL S z6 => ?_;have wJ:aQ w7 l 1 (fun _=>E) 123:=dK yL;have jT:=fP S Q.ty;have⟨yu,zK,wL⟩:=BO jT vG uN vH;have Ai:=(⟨S.below vI.b vI.b.size kg4⟩:Bw G _);have I:=S.below Z Z.size (by omega);refine av (au (dI m (fun x=>bF x v.o v.aT) (m.T.path (v.node))))<|aD<|Ws<|ay<|av (au (dI m (fun x=>bF x v.o v.aT) (m.T.path (v.node)))) ?_;by_cases D:(dI m (fun x=>bF x v.o v.aT) (m.T.path (v.node)))=0
  ·refine Lv aF (jR D)<|aD<|aK<|Wk<|sN<|ay<|Lv (.func (.func 222) #[] #[(pt l),(pt A),(pt k),(pt d)]) (Fx.mG (us := []) (vs := [(pt l),(pt A),(pt k),(pt d)]) rfl rfl rfl)<|av (.func (.func 222) #[] #[(pt l),(pt A),(pt k),(pt d)])<|av (au 0)<|aD<|Wr<|aJ (.tuple #[.func (.func 222) #[] #[(pt l),(pt A),(pt k),(pt d)],au 0]) ?_;have hD0:=hD1 D;have hfe:=hD0.e;subst hfe;have b01:w.heap.size<=BS.heap.size:=(by omega);have f:ko m v=0:=(by unfold ko; rw[b_ (show ¬ gG m v.o v.req=true by unfold gG; rw[qy jH]; decide)]; rw[b_ (by rw[q]; decide)]; exact D);exact⟨⟨_,222,#[(pt l),(pt A),(pt k),(pt d)],by rw[f],rfl,fun _=>⟨rfl,⟨_,_,Tryz.func222,rfl,rfl⟩,fun w2 s=>(Xi m lp B w2 ((h.up I).up s) v L hwf (Xk m v).R BS.heap.size w.heap.size _ (by omega) _ (hD0.up (M6 Ai.b s)) _ _ _ _ (wJ.cu (Sb s) (u_ wJ.lt)) (yu.cu (Sb s) (u_ yu.lt)) (wL.cu (Sb s) (u_ wL.lt)) (zK.cu (Sb s) (u_ zK.lt)) ⟨by omega,by omega,by omega⟩ jH (fun i hi e=>by have q9:=hga i hi; obtain⟨j9,hj9,e9,f9⟩:=kI.1 q9; exact jH j9 hj9 ⟨e9.trans e.1,f9.trans e.2⟩)).mono fun _ _ K=>⟨K.1,K.2.1,K.2.2.mono fun _ hk=>hk⟩⟩⟩,I⟩
  refine Lv aG (kY D)<|aD<|aN<|ay<|av (au (dI m (fun x=>bF x v.o v.aT) (m.T.path (v.node))))<|av (.nilFunc)<|av (au (dI m (fun x=>bF x v.o v.aT) (m.T.path (v.node))))<|aD<|Wr<|sR<|aJ (.tuple #[.nilFunc,au (dI m (fun x=>bF x v.o v.aT) (m.T.path (v.node)))]) ?_;have f:ko m v=dI m (fun x=>bF x v.o v.aT) (m.T.path (v.node)):=by unfold ko; rw[b_ (show ¬ gG m v.o v.req=true by unfold gG; rw[qy jH]; decide)]; rw[b_ (by rw[q]; decide)]
  exact⟨⟨.nilFunc,0,#[],by rw[f],rfl,fun u=>N_ (f.symm.trans u) (by first|decide|omega|assumption)⟩,I⟩
 rw[U_]at q;refine lX (abO v.node ow) aF (by rw[q])<|Ln<|aY aG<|bT<|aN<|ay<|av (.nilFunc)<|av (au 9)<|aD<|Wr<|sR<|aJ (.tuple #[.nilFunc,au 9]) ?_;have f:ko m v=9:=by unfold ko; rw[b_ (show ¬ gG m v.o v.req=true by unfold gG; rw[qy jH]; decide)]; exact d_ q
 exact⟨⟨.nilFunc,0,#[],by rw[f],rfl,fun u=>N_ (f.symm.trans u) (by first|decide|omega|assumption)⟩,H⟩
theorem Z7(m:dP)(lp B:Nat)(w:World)(h:lS w B lp m)(v:EvM)(hv:bR v=true)(hwf:gI v) :
 Calls Tryz.prog 210 #[(pt lp),.agg (aA 14 (bI v))] w fun e w'=>SK w B lp m (iQ m v) (jv m v) e w':=by
 have hC:=h.c;have hT:=h.t;have hP:=h.p;have hR:=h.r;have hG:=h.g;have hA:=h.a;have hN:=h.ne;have lC:=h.c.lt;have lT:=h.t.lt;have lP:=h.p.lt;have lR:=h.r.lt;have lG:=h.g.lt;have lA:=h.a.lt;obtain⟨a,ha,ho⟩ : ∃ a:Nat,a<6/\v.o=(a:Int)+1:=eU (je hv);have hra:aP v=a:=by unfold aP; omega
 have aa:=Fa hv hwf;have hvo:1<=v.o/\v.o<=6:=by omega
 refine Kent Tryz.func210 56 ?_;refine ay<|yD (pt lp) fun J w1 ku m1 s1 z1 => ?_;have⟨m2,m4,m5,m6,m7,b1⟩:=rz s1.old hC hP hR hG hA (Below.refl w.heap.size w);have tC:=gN ku;have⟨nK,zm,yx,Co,AL⟩:=Ag ku hC.lt hP.lt hR.lt hG.lt hA.lt;have uK:=m1.lt;refine pO fun n w2 uO D s2 z2 => ?_;have⟨m9,m11,m12,m13,m14,m15,b2⟩:=jJ s2.old m2 m4 m5 m6 m7 m1 b1;have qX:=iK uO b1.size;have⟨L9,Gi,Gj,Br,Gl,CW⟩:=G9 uO m2.lt m4.lt m5.lt m6.lt m7.lt m1.lt;have zM:=D.lt;refine av (.nilFunc)<|av (au 0)<|aD<|Ws ?_;refine Dx (T1:=117) (T2:=117) (T1':=117) (T2':=117) (a1 := .tmp 6) (v1 := .tmp 16) (a2 := .tmp 7) (v2 := .tmp 21) (m1:=2) (m2:=2) (z1:=fun d=>if d<1 then au 0 else aC 0) (y1:=bG (bG zS0 0 1 (fun _=>au v.o)) 1 1 (fun _=>aC v.req)) (z2:=fun d=>if d<1 then au 0 else aC 0) (y2:=bG (bG zS0 0 1 (fun _=>au v.o)) 1 1 (fun _=>aC v.of)) (u1 := .agg (aA 2 (bG (bG zS0 0 1 (fun _=>au v.o)) 1 1 (fun _=>aC v.req)))) (u2 := .agg (aA 2 (bG (bG zS0 0 1 (fun _=>au v.o)) 1 1 (fun _=>aC v.of)))) 10 11 12 13 [[],[],[],[],[],[],[],[],[],[],[],[],[(0,[10]),(1,[11])],[(0,[10]),(1,[11]),(2,[12])]] [[(2,[0]),(3,[0])],[(2,[1]),(3,[1])],[(2,[2]),(3,[2])],[(2,[3]),(3,[3])],[(2,[4]),(3,[4])],[(3,[5])],[(3,[6])],[(3,[7])],[(3,[8])],[(3,[9])],[(2,[10]),(3,[10])],[(2,[11]),(3,[11])],[(3,[12])],[]] #[(pt n),au v.o,(pf n 12),aC v.req,.agg (aA 2 (bG (bG zS0 0 1 (fun _=>au v.o)) 1 1 (fun _=>aC v.req))),(pt n),au v.o,(pf n 13),aC v.of,.agg (aA 2 (bG (bG zS0 0 1 (fun _=>au v.o)) 1 1 (fun _=>aC v.of))),undef,undef,undef,undef] (by kernel_rfl) (by kernel_rfl) (by kernel_rfl) (by kernel_rfl) (by kernel_rfl) (by kernel_rfl) (by kernel_rfl) (by kernel_rfl) (by kernel_rfl) (by kernel_rfl) rfl rfl (by kernel_rfl) (by kernel_rfl) rfl rfl rfl rfl (by kernel_rfl) (by kernel_rfl) (fun k l=>(show ev _ (.tmp 6)=(pt k)from by kernel_rfl)) (fun k l=>(show ev _ (.tmp 7)=(pt l)from by kernel_rfl)) (fun k l=>(show ev _ (.tmp 16) = .agg (aA 2 (bG (bG zS0 0 1 (fun _=>au v.o)) 1 1 (fun _=>aC v.req)))from by kernel_rfl)) (fun k l=>(show ev _ (.tmp 21) = .agg (aA 2 (bG (bG zS0 0 1 (fun _=>au v.o)) 1 1 (fun _=>aC v.of)))from by kernel_rfl)) (bJ _ _) (bJ _ _) (bA (bA (fun jq _=>by show(zS0 jq).oneCell'=true; simp only[zS0]; repeat (first|rfl|split)) (fun _ _=>rfl)) (fun _ _=>rfl)) (bA (bA (fun jq _=>by show(zS0 jq).oneCell'=true; simp only[zS0]; repeat (first|rfl|split)) (fun _ _=>rfl)) (fun _ _=>rfl)) (fun k l => ?_) ?_
 ·refine⟨?_,?_,?_,?_,?_,?_,?_,?_,?_,?_,?_,?_,?_,?_,trivial⟩
  ·exact .inr qQ
  ·exact .inr (uo (au v.o) fun F u=>bf (x:=bI v) rfl (show ev _ (.tmp 12)=(pt n)from by kernel_rfl) (by kernel_rfl) (D.aH.below u (by have:=D.lt; omega)) (i:=0) (by omega) (by omega) rfl)
  ·exact .inr qQ
  ·exact .inr (uo (aC v.req) fun F u=>bf (x:=bI v) rfl (show ev _ (.tmp 14)=(pf n 12)from by kernel_rfl) (by kernel_rfl) (D.aH.below u (by have:=D.lt; omega)) (i:=12) (by omega) (by omega) rfl)
  ·exact .inr (uo (.agg (aA 2 (bG (bG zS0 0 1 (fun _=>au v.o)) 1 1 (fun _=>aC v.req)))) fun F u=>gD (vs := [(0,au v.o),(1,aC v.req)]) (places := #[(0,1),(1,1)]) (m:=2) (x:=fun d=>if d<1 then au 0 else aC 0) rfl (Fx.Nq (show ev _ (.tmp 13)=au v.o from by kernel_rfl) (show ev _ (.tmp 15)=aC v.req from by kernel_rfl)) Tryz.underlying117 (by kernel_rfl) (by kernel_rfl) (by rw[bE (off:=0) (s:=1) (y:=fun _=>au v.o) (by kernel_rfl) (cells_one (by rfl)) (by rfl)]; rw[bE (off:=1) (s:=1) (y:=fun _=>aC v.req) (by kernel_rfl) (cells_one (by rfl)) (by rfl)]; rfl))
  ·exact .inr qQ
  ·exact .inr (uo (au v.o) fun F u=>bf (x:=bI v) rfl (show ev _ (.tmp 17)=(pt n)from by kernel_rfl) (by kernel_rfl) (D.aH.below u (by have:=D.lt; omega)) (i:=0) (by omega) (by omega) rfl)
  ·exact .inr qQ
  ·exact .inr (uo (aC v.of) fun F u=>bf (x:=bI v) rfl (show ev _ (.tmp 19)=(pf n 13)from by kernel_rfl) (by kernel_rfl) (D.aH.below u (by have:=D.lt; omega)) (i:=13) (by omega) (by omega) rfl)
  ·exact .inr (uo (.agg (aA 2 (bG (bG zS0 0 1 (fun _=>au v.o)) 1 1 (fun _=>aC v.of)))) fun F u=>gD (vs := [(0,au v.o),(1,aC v.of)]) (places := #[(0,1),(1,1)]) (m:=2) (x:=fun d=>if d<1 then au 0 else aC 0) rfl (Fx.Nq (show ev _ (.tmp 18)=au v.o from by kernel_rfl) (show ev _ (.tmp 20)=aC v.of from by kernel_rfl)) Tryz.underlying117 (by kernel_rfl) (by kernel_rfl) (by rw[bE (off:=0) (s:=1) (y:=fun _=>au v.o) (by kernel_rfl) (cells_one (by rfl)) (by rfl)]; rw[bE (off:=1) (s:=1) (y:=fun _=>aC v.of) (by kernel_rfl) (cells_one (by rfl)) (by rfl)]; rfl))
  ·exact .inl rfl
  ·exact .inl rfl
  ·exact .inl rfl
  exact .inl rfl
 rintro k l w3 Y P G H ne1 m16 m17 hb1;have Wy:lp≠k:=u_ (n_ (m9.lt) G);have Xn:m.pb≠k:=u_ (n_ (m11.lt) G);have Xo:m.rb≠k:=u_ (n_ (m12.lt) G);have afW:m.gb≠k:=u_ (n_ (m13.lt) G);have Xp:m.ab≠k:=u_ (n_ (m14.lt) G);have afX:J≠k:=u_ (n_ (m15.lt) G);have Ww:n≠k:=u_ (n_ (D.lt) G);have auD:lp≠l:=u_ (n_ (m9.lt) H);have aqS:m.pb≠l:=u_ (n_ (m11.lt) H);have aqT:m.rb≠l:=u_ (n_ (m12.lt) H);have aqU:m.gb≠l:=u_ (n_ (m13.lt) H);have afY:m.ab≠l:=u_ (n_ (m14.lt) H);have Xq:J≠l:=u_ (n_ (m15.lt) H);have auE:n≠l:=u_ (n_ (D.lt) H);have⟨m18,m20,m21,m22,m23,m24,nW,b3⟩:=mO hb1 m9 m11 m12 m13 m14 m15 D b2;have G:w.heap.size<=k:=m_ b2.size G;have GZ:=m16.lt;have H:w.heap.size<=l:=m_ b2.size H;have M9:=m17.lt;have q1:Y 2=(pt J):=by rw[P]; kernel_rfl
 have q2:Y 3=(pt n):=by rw[P]; kernel_rfl
 have q5:Y 6=(pt k):=by rw[P]; kernel_rfl
 have q6:Y 7=(pt l):=by rw[P]; kernel_rfl
 clear P;refine sN<|Ws<|Ws ?_;refine jY [0,1,2,3,4,5] [4,0,0,4,4,4] [] fun qU dU iC => ?_;have⟨oN,pV,nX,ou,lu,m32,oQ,nL,oO,b4⟩:=vO dU m18 m20 m21 m22 m23 m24 nW m16 m17 b3;refine Rs (pt lp) (aM m32.aH 0 (ha:=q1)) ?_;refine aY (pt lp)<|aY (pf lp 28)<|Rs (.map (some m.ab)) (aM oN.aH 28) ?_;refine Rs (.agg (aA 2 (bG (bG zS0 0 1 (fun _=>au v.o)) 1 1 (fun _=>aC v.req)))) (fM nL.aH 0 (ha:=q5)) ?_
 rcases Fx.yT m.ao m.ar m.an v.o v.req with ⟨WV,D9,Ea,Mi⟩|jH
 ·refine Rs aG (Fx.KS (z := .bool false) rfl rfl ((show ev _ _ = .agg (aA 2 (bG (bG zS0 0 1 (fun _=>au v.o)) 1 1 (fun _=>aC v.req)))from rfl).trans (Fx.Az (y:=bG (bG zS0 0 1 (fun _=>au v.o)) 1 1 (fun _=>aC v.req)) (a:=v.o) (b:=v.req) (Fx.BK (by omega) (Fx.qY (j:=0) (by omega) (by omega) rfl)) (Fx.qY (j:=0) (by omega) (by omega) rfl))) aa.1 lu Tryz.underlying112 Hl (by rfl) D9 Ea Mi rfl) ?_;refine bT<|aN<|ay<|av (.nilFunc)<|av (au 14)<|aD<|Wr<|sR<|aJ (.tuple #[.nilFunc,au 14]) ?_;have A:jv m v=14:=by unfold jv; exact d_ (tX D9 Ea Mi)
  exact⟨⟨.nilFunc,0,#[],by rw[A],rfl,fun K=>N_ (A.symm.trans K) (by first|decide|omega|assumption)⟩,b4⟩
 refine Rs aF (Fx.KR (z := .bool false) rfl rfl ((show ev _ _ = .agg (aA 2 (bG (bG zS0 0 1 (fun _=>au v.o)) 1 1 (fun _=>aC v.req)))from rfl).trans (Fx.Az (y:=bG (bG zS0 0 1 (fun _=>au v.o)) 1 1 (fun _=>aC v.req)) (a:=v.o) (b:=v.req) (Fx.BK (by omega) (Fx.qY (j:=0) (by omega) (by omega) rfl)) (Fx.qY (j:=0) (by omega) (by omega) rfl))) aa.1 lu Tryz.underlying112 Hl (by rfl) jH) ?_;refine bT<|aK<|Wk<|sN<|Ws ?_;refine jY [0,1,2,3,4,5,6,7,8,9,10,11] [1,0,0,1,1,1,0,0,0,2,3,0] [(10,0,[0]),(10,3,[3]),(10,4,[4]),(10,5,[5]),(10,9,[9]),(11,9,[9]),(11,10,[10])] fun BS fZ mQ => ?_;have⟨Q,qB,pE,S,mK,U,mR,qw,V,W⟩:=vO fZ oN pV nX ou lu m32 oQ nL oO b4;refine Rd (v:=(pt lp)) (by rfl) (by rfl) (uf _) (fun F u=>bf (x:=fun _=>(pt lp)) rfl q1 (by kernel_rfl) (U.aH.below u (by have:=U.lt; omega)) (i:=0) (by omega) (by omega) rfl) ?_;refine aY (pt lp)<|aY (pf lp 27)<|Rd (v := .map (some m.gb)) (by rfl) (by rfl) (uf _) (fun F u=>bf (x:=wD m) rfl rfl (by kernel_rfl) (Q.aH.below u (by have:=Q.lt; omega)) (i:=27) (by omega) (by omega) rfl) ?_;refine Rd (v := .agg (aA 2 (bG (bG zS0 0 1 (fun _=>au v.o)) 1 1 (fun _=>aC v.of)))) (by rfl) (by rfl) (uf _) (fun F u=>eG (x:=bG (bG zS0 0 1 (fun _=>au v.o)) 1 1 (fun _=>aC v.of)) (y:=bG (bG zS0 0 1 (fun _=>au v.o)) 1 1 (fun _=>aC v.of)) rfl q6 (by kernel_rfl) (by kernel_rfl) (V.aH.below u (by have:=V.lt; omega)) (i:=0) (by omega) (by omega) (fun j _=>by rw[H_])) ?_
 rcases Fx.yT (fun i=>m.g i 0) (fun i=>m.g i 1) m.gn v.o v.of with ⟨f,O,L,M⟩|acj
 ·refine Rd (v := .tuple #[.agg (aA 5 (jf (m.g f))),.bool true]) (by rfl) (by rfl) (uf _) (fun F u=>Fx.QX (z := .agg (aA 5 zR0)) rfl rfl ((show ev _ _ = .agg (aA 2 (bG (bG zS0 0 1 (fun _=>au v.o)) 1 1 (fun _=>aC v.of)))from rfl).trans (Fx.Az (y:=bG (bG zS0 0 1 (fun _=>au v.o)) 1 1 (fun _=>aC v.of)) (a:=v.o) (b:=v.of) (Fx.BK (by omega) (Fx.qY (j:=0) (by omega) (by omega) rfl)) (Fx.qY (j:=0) (by omega) (by omega) rfl))) aa.2 (S.up u) Tryz.underlying111 Hl (by kernel_rfl) O L M rfl) ?_;refine aY (.tuple #[.agg (aA 5 (jf (m.g f))),.bool true])<|aY (.agg (aA 5 (jf (m.g f))))<|aY aG<|zG<|nS 5 zR0 fun C w4 SN ow s6 z3 => ?_;have⟨sK,sM,rQ,uM,uw,ug,uW,xk,uh,b6⟩:=vO s6.old Q qB pE S mK U mR qw V W;have lg5:=iK SN W.size;have⟨aqV,aqW,afZ,aga,agb,agc,aqX,aqY,aqZ⟩:=YG SN Q.lt qB.lt pE.lt S.lt mK.lt U.lt mR.lt qw.lt V.lt;have tg5:=ow.lt;refine Ln ⟨s6.old,?_⟩;refine gQ<|dM ow 0 (h1:=(fun j hj=>by rcases j with _|_|_|_|_|_|_|_|_|_|_|_|_|_|j <;> first|rfl|omega)) fun w5 rR s7 z4 => ?_
  have sw:aQ w5 C 5 (jf (m.g f)) 106:=aL rR;have ac:aQ w5 C 5 (jf (m.g f)) 106:=sw;have gF:=fP s7 ow.ty;have⟨rE,nY,uy,m64,xq,wI,vF,yt,sO⟩:=adg gF sK sM rQ uM uw ug uW xk uh;have b7:=s7.below b6 b6.size (by omega);refine Ln<|aY aG<|bT<|Ws<|ay<|av aG<|av aF<|av aF<|av (pf C 4)<|Lv (aC ((m.g f) 4)) (aM ac.aH 4) ?_;by_cases Uh:((m.g f) 4)=0
  ·refine Lv aF (jR Uh)<|av aF<|aD<|aK<|Wk<|sN<|ay<|Lv (pt lp) (aM wI.aH 0 (ha:=q1))<|av (pf C 2)<|Lv (aC ((m.g f) 2)) (aM ac.aH 2)<|Lv (.func (.func 223) #[] #[(pt n),(pt C)]) (Fx.mG (us := []) (vs := [(pt n),(pt C)]) rfl rfl (Fx.args2 q2 rfl))<|kF (Xg m lp B _ (h.up b7) ((m.g f) 2) v (m.g f) hvo n C vF ac) ?_;rintro e9 w6 ⟨⟨Z,fi1,Q0,he,ho1,hD1⟩,E⟩;refine⟨_,he,?_⟩;clear he;have⟨vG,vH,vI,yL,wJ,yV,yX,yM,wK,vV,b8⟩:=Fz E rE nY uy m64 xq wI vF yt sO ac b7;have bw1:Bw w6 w6:=⟨Below.refl _ _⟩;refine av (.tuple #[Z,au (dI m (fun x=>bH x v.o (m.g f 3)) (m.T.path ((m.g f) 2)))])<|av (Z)<|av (au (dI m (fun x=>bH x v.o (m.g f 3)) (m.T.path ((m.g f) 2))))<|nS 1 (fun _ => .nilFunc) fun N w7 Yn vJ s9 z5 => ?_;have⟨yY,yZ,Aj,Er,C9,Cc,b9⟩:=jJ s9.old yV yX yM wK vV bw1 b8;have lg6:=iK Yn b8.size;have⟨ara,arb,ard,arf,arh,ari,arj,ark,agd,arl⟩:=abu Yn vG.lt vH.lt vI.lt yL.lt wJ.lt yV.lt yX.lt yM.lt wK.lt vV.lt;have tg6:=vJ.lt;have kg6:w6.heap.size<=N:=(by rw[Yn]; exact bw1.b.size);refine ji vJ 0 Z (h1:=ho1) fun w8 CF s10 z6 => ?_;have Al:aQ w8 N 1 (fun _=>Z) 123:=dK CF;have jT:=fP s10 vJ.ty;have⟨uY,rH,oU,oF,qb⟩:=qA jT yY yZ Aj Er C9;have oG:=(⟨s10.below Cc.b Cc.b.size kg6⟩:Bw w6 _);have b10:=s10.below b9 b9.size (by omega);refine av (au (dI m (fun x=>bH x v.o (m.g f 3)) (m.T.path ((m.g f) 2))))<|aD<|Ws<|ay<|av (au (dI m (fun x=>bH x v.o (m.g f 3)) (m.T.path ((m.g f) 2)))) ?_;by_cases X:(dI m (fun x=>bH x v.o (m.g f 3)) (m.T.path ((m.g f) 2)))=0
   ·refine Lv aF (jR X)<|aD<|aK<|Wk<|sN<|ay<|Lv (.func (.func 225) #[] #[(pt N),(pt J),(pt k),(pt n),(pt C),(pt l)]) (Fx.mG (us := []) (vs := [(pt N),(pt J),(pt k),(pt n),(pt C),(pt l)]) rfl rfl (Fx.ajC rfl q1 q5 q2 rfl q6))<|av (.func (.func 225) #[] #[(pt N),(pt J),(pt k),(pt n),(pt C),(pt l)])<|av (au 0)<|aD<|Wr<|aJ (.tuple #[.func (.func 225) #[] #[(pt N),(pt J),(pt k),(pt n),(pt C),(pt l)],au 0]) ?_;have I:eZ m v.o v.of=f:=zU h.g.inj O L M;have hD0:=hD1 X;have hfe:=hD0.e;subst hfe;have em:iQ m v=Qf m (qj m (fun x=>bH x v.o (m.g f 3)) (m.T.path (m.g f 2))).R v f:=(by unfold iQ Xl; rw[I]);rw[em];have A:jv m v=0:=by unfold jv; rw[b_ (show ¬ gG m v.o v.req=true by unfold gG; rw[qy jH]; decide)]; rw[b_ (show ¬ (iy m v.o v.of=false\/m.g (eZ m v.o v.of) 4≠0) by rw[I,show iy m v.o v.of=true from tX O L M]; rintro (q|q) <;> first|(exact N_ q (by decide))|omega),I]; exact X
    exact⟨⟨_,225,#[(pt N),(pt J),(pt k),(pt n),(pt C),(pt l)],by rw[A],rfl,fun _=>⟨rfl,⟨_,_,Tryz.func225,rfl,rfl⟩,fun w2 E=>(Xj m lp B w2 ((h.up b10).up E) v hv hwf _ w5.heap.size w.heap.size _ (by omega) _ (hD0.up (M6 oG.b E)) f _ _ _ _ _ _ (Al.cu (Sb E) (u_ Al.lt)) (uY.cu (Sb E) (u_ uY.lt)) (oU.cu (Sb E) (u_ oU.lt)) (rH.cu (Sb E) (u_ rH.lt)) (qb.cu (Sb E) (u_ qb.lt)) (oF.cu (Sb E) (u_ oF.lt)) lg5 ⟨by omega,by omega,by omega,by omega,by omega⟩ jH O L M).mono fun _ _ hc=>⟨hc.1,hc.2.1,hc.2.2.mono fun _ hk=>hk⟩⟩⟩,b10⟩
   refine Lv aG (kY X)<|aD<|aN<|ay<|av (au (dI m (fun x=>bH x v.o (m.g f 3)) (m.T.path ((m.g f) 2))))<|av (.nilFunc)<|av (au (dI m (fun x=>bH x v.o (m.g f 3)) (m.T.path ((m.g f) 2))))<|aD<|Wr<|sR<|aJ (.tuple #[.nilFunc,au (dI m (fun x=>bH x v.o (m.g f 3)) (m.T.path ((m.g f) 2)))]) ?_;have I:eZ m v.o v.of=f:=zU h.g.inj O L M;have A:jv m v=dI m (fun x=>bH x v.o (m.g f 3)) (m.T.path ((m.g f) 2)):=by unfold jv; rw[b_ (show ¬ gG m v.o v.req=true by unfold gG; rw[qy jH]; decide)]; rw[b_ (show ¬ (iy m v.o v.of=false\/m.g (eZ m v.o v.of) 4≠0) by rw[I,show iy m v.o v.of=true from tX O L M]; rintro (q|q) <;> first|(exact N_ q (by decide))|omega),I]
   exact⟨⟨.nilFunc,0,#[],by rw[A],rfl,fun K=>N_ (A.symm.trans K) (by first|decide|omega|assumption)⟩,b10⟩
  refine Lv aG (kY Uh)<|av aG<|aD<|aN<|ay<|av (.nilFunc)<|av (au 12)<|aD<|Wr<|sR<|aJ (.tuple #[.nilFunc,au 12]) ?_;have I:eZ m v.o v.of=f:=zU h.g.inj O L M;have A:jv m v=12:=by unfold jv; rw[b_ (show ¬ gG m v.o v.req=true by unfold gG; rw[qy jH]; decide)]; exact d_ (.inr (by rw[I]; omega))
  exact⟨⟨.nilFunc,0,#[],by rw[A],rfl,fun K=>N_ (A.symm.trans K) (by first|decide|omega|assumption)⟩,b7⟩
 refine Rd (v := .tuple #[.agg (aA 5 zR0),.bool false]) (by rfl) (by rfl) (uf _) (fun F u=>Fx.QW (z := .agg (aA 5 zR0)) rfl rfl ((show ev _ _ = .agg (aA 2 (bG (bG zS0 0 1 (fun _=>au v.o)) 1 1 (fun _=>aC v.of)))from rfl).trans (Fx.Az (y:=bG (bG zS0 0 1 (fun _=>au v.o)) 1 1 (fun _=>aC v.of)) (a:=v.o) (b:=v.of) (Fx.BK (by omega) (Fx.qY (j:=0) (by omega) (by omega) rfl)) (Fx.qY (j:=0) (by omega) (by omega) rfl))) aa.2 (S.up u) Tryz.underlying111 Hl (by kernel_rfl) acj) ?_;refine aY (.tuple #[.agg (aA 5 zR0),.bool false])<|aY (.agg (aA 5 zR0))<|aY aF<|zG<|nS 5 zR0 fun g7 w9 eg7 oV s11 z7 => ?_;have b11:=bB s11.old W;have lg7:=iK eg7 W.size;have⟨alT,alU,alV,Z8,alW,Z9,aac,alX,alY⟩:=YG eg7 Q.lt qB.lt pE.lt S.lt mK.lt U.lt mR.lt qw.lt V.lt;have tg7:=oV.lt;refine Ln ⟨s11.old,?_⟩;refine gQ<|dM oV 0 (h1:=(fun j hj=>by rcases j with _|_|_|_|_|_|_|_|_|_|_|_|_|_|j <;> first|rfl|omega)) fun su qc s12 z8 => ?_
 have xJ:aQ su g7 5 zR0 106:=aL qc;have b12:=s12.below b11 b11.size (by omega);refine Ln<|aY aF<|bT<|Ws<|ay<|av aF<|av aG<|av aG<|bS<|bS<|bS<|av aG<|aD<|aN<|ay<|av (.nilFunc)<|av (au 12)<|aD<|Wr<|sR<|aJ (.tuple #[.nilFunc,au 12]) ?_;have A:jv m v=12:=by unfold jv; rw[b_ (show ¬ gG m v.o v.req=true by unfold gG; rw[qy jH]; decide)]; exact d_ (.inl (qy acj))
 exact⟨⟨.nilFunc,0,#[],by rw[A],rfl,fun K=>N_ (A.symm.trans K) (by first|decide|omega|assumption)⟩,b12⟩
namespace Rt
noncomputable def iZ(m:dP)(v:EvM):dP:=if v.kind=1 then Eb m v else if v.kind=2 then vo m v else if v.kind=3 then kR m v else if v.kind=4 then iQ m v else if v.kind=5 then D8 m v else if v.kind=6 then IU m v else Dt m v
def fG(m:dP)(v:EvM):Int:=if v.kind=1 then jr m v else if v.kind=2 then jP m v else if v.kind=3 then ko m v else if v.kind=4 then jv m v else if v.kind=5 then kQ m v else if v.kind=6 then 0 else 0
def bZ(m:dP)(v:EvM):Int:=if bR v=false then 1 else if mV m.known v=true then 14 else if dG m.known v=false then 13 else if m.inn (aP v)=false\/m.left (aP v)=true then 10 else fG m v
structure QlK(m:dP):Prop where
 own : ∀ a,a<6->0<=m.own a/\m.own a<=1000
 row : ∀ i,i<m.T.n -> ∀ p,p<54->0<=m.R i p/\m.R i p<=1125899906842624
 ga:R4 m
 kn:Es m.known
def kfn(k:Nat):Nat:=if k=1 then 207 else if k=2 then 208 else if k=3 then 209 else if k=4 then 210 else if k=5 then 211 else if k=6 then 212 else 213
def Ct:Nat->Value:=fun p=>if p=0 then .nilFunc else .func (.func (kfn p)) #[] #[]
theorem aad{p:Nat}(h:1<=p):Ct p = .func (.func (kfn p)) #[] #[]:=b_ (by omega)
end Rt
theorem ajG {k : Nat} (h1 : 1 ≤ k) (b : k ≤ 7) : ∃ a c, Tryz.prog.funcs[kfn k]? = some a ∧ (a.name == "runtime.NumGoroutine") = false ∧ a.body = some c := by
 rcases(show k=1\/k=2\/k=3\/k=4\/k=5\/k=6\/k=7 by omega)with rfl|rfl|rfl|rfl|rfl|rfl|rfl
 ·exact⟨_,_,Tryz.func207,rfl,rfl⟩
 ·exact⟨_,_,Tryz.func208,rfl,rfl⟩
 ·exact⟨_,_,Tryz.func209,rfl,rfl⟩
 ·exact⟨_,_,Tryz.func210,rfl,rfl⟩
 ·exact⟨_,_,Tryz.func211,rfl,rfl⟩
 ·exact⟨_,_,Tryz.func212,rfl,rfl⟩
 exact⟨_,_,Tryz.func213,rfl,rfl⟩
theorem Wm.low{w:World}{B lp b c d:Nat}{m f:dP}{e:Value}{cap:Array Value}(h:Wm w B lp m f b e d cap)(g:c<=b):Wm w B lp m f c e d cap := { h with s:=fun l i=>(h.s l i).mono fun _ _ a=>⟨a.1,a.2.1,a.2.2.mono fun k j=>j.imp id (m_ g)⟩ }
theorem aae(m:dP)(lp B:Nat)(w:World)(h:lS w B lp m)(v:EvM)(c:bR v=true)(e:gI v)(d:QlK m)(k:Nat)(j:v.kind=(k:Int))(i:1<=k/\k<=7) :
 Calls Tryz.prog (kfn k) #[(pt lp),.agg (aA 14 (bI v))] w (SK w B lp m (iZ m v) (fG m v)):=by
 rcases(show k=1\/k=2\/k=3\/k=4\/k=5\/k=6\/k=7 by omega)with rfl|rfl|rfl|rfl|rfl|rfl|rfl
 ·have a:v.kind=1:=by omega
  rw[show iZ m v=Eb m v by unfold iZ; rw[d_ (by omega)],show fG m v=jr m v by unfold fG; rw[d_ (by omega)]];exact Z0 m lp B w h v c d.own
 ·have a:v.kind=2:=by omega
  rw[show iZ m v=vo m v by unfold iZ; rw[b_ (by omega),d_ (by omega)],show fG m v=jP m v by unfold fG; rw[b_ (by omega),d_ (by omega)]];exact WH m lp B w h v c a d.row
 ·have a:v.kind=3:=by omega
  rw[show iZ m v=kR m v by unfold iZ; rw[b_ (by omega),b_ (by omega),d_ (by omega)],show fG m v=ko m v by unfold fG; rw[b_ (by omega),b_ (by omega),d_ (by omega)]];exact Z6 m lp B w h v c e d.ga
 ·have a:v.kind=4:=by omega
  rw[show iZ m v=iQ m v by unfold iZ; rw[b_ (by omega),b_ (by omega),b_ (by omega),d_ (by omega)],show fG m v=jv m v by unfold fG; rw[b_ (by omega),b_ (by omega),b_ (by omega),d_ (by omega)]];exact Z7 m lp B w h v c e
 ·have a:v.kind=5:=by omega
  rw[show iZ m v=D8 m v by unfold iZ; rw[b_ (by omega),b_ (by omega),b_ (by omega),b_ (by omega),d_ (by omega)],show fG m v=kQ m v by unfold fG; rw[b_ (by omega),b_ (by omega),b_ (by omega),b_ (by omega),d_ (by omega)]];exact ZN m lp B w h v c a
 ·have a:v.kind=6:=by omega
  rw[show iZ m v=IU m v by unfold iZ; rw[b_ (by omega),b_ (by omega),b_ (by omega),b_ (by omega),b_ (by omega),d_ (by omega)],show fG m v=0 by unfold fG; rw[b_ (by omega),b_ (by omega),b_ (by omega),b_ (by omega),b_ (by omega),d_ (by omega)]];obtain⟨b,f,g⟩:=Iy c a;exact ZO m lp B w h v c b f g
 have a:v.kind=7:=by omega
 rw[show iZ m v=Dt m v by unfold iZ; rw[b_ (by omega),b_ (by omega),b_ (by omega),b_ (by omega),b_ (by omega),b_ (by omega)],show fG m v=0 by unfold fG; rw[b_ (by omega),b_ (by omega),b_ (by omega),b_ (by omega),b_ (by omega),b_ (by omega)]];exact WK m lp B w h v c
theorem Qg(m:dP)(lp B:Nat)(w:World)(h:lS w B lp m)(v:EvM)(l:gI v)(Q:QlK m)(hB:1<=B)(M:iU w 0 0 8 Ct) :
 Calls Tryz.prog 52 #[(pt lp),.agg (aA 14 (bI v))] w fun e w'=>SK w B lp m (iZ m v) (bZ m v) e w':=by
 have L:=h.c;have hT:=h.t;have hP:=h.p;have hR:=h.r;have hG:=h.g;have hA:=h.a;have hN:=h.ne;have lC:=h.c.lt;have lT:=h.t.lt;have lP:=h.p.lt;have lR:=h.r.lt;have lG:=h.g.lt;have lA:=h.a.lt;obtain⟨q,P⟩ : ∃ q:Nat,v.kind=(q:Int):=⟨v.kind.toNat,by have:=l.kind; omega⟩;have N:Kr m.known:=fun i hi=>by have:=Q.kn i hi; exact⟨by omega,by omega⟩
 refine Kent Tryz.func52 55 ?_;refine ay<|pO fun x w1 z E s1 z1 => ?_;have⟨m2,m8,G⟩:=iY s1.old L M (Below.refl w.heap.size w);have tC:=gN z;have⟨nK,zm,yx,Co,AL⟩:=Ag z L.lt hP.lt hR.lt hG.lt hA.lt;have Ll:0≠x:=by rw[z]; exact u_ (M.lt (by omega))
 have uK:=E.lt;refine av (.nilFunc)<|av (au 0)<|aD<|Ws<|Wb<|ay<|av (pt lp)<|Lv aF (Fx.lW rfl rfl rfl (by kernel_rfl))<|av aF<|aD<|aK<|ay<|Lv (.agg (aA 14 (bI v))) (fM E.aH 0) ?_;by_cases f:(bR v)=true
 ·have C:bR v=true:=f;obtain⟨a,ha,ho⟩ : ∃ a:Nat,a<6/\v.o=(a:Int)+1:=eU (je C);have D:aP v=a:=by unfold aP; omega
  have hkr:=jB C;refine dX (IL v _ l) aG (by rw[f]) ?_;intro w2 hb1;have⟨m9,m15,m16,b2⟩:=jW hb1 m2 m8 E G;refine av aF<|av aF<|aD<|aK<|Ws ?_;refine jY [0,1,2,3,4,5,6] [0,0,0,4,4,3,0] [(5,3,[3]),(5,4,[4]),(6,5,[5])] fun qU dU iC => ?_;have⟨R,m23,S,H⟩:=jW dU m9 m15 m16 b2;refine aY (pt lp)<|aY (pt lp)<|aY (pf lp 12)<|Rs (.agg (aA 6 (rv .u64 m.known))) (fM R.aH 12 (fun j hj=>sP (p:=j) (by omega) (by omega))) ?_;refine Rs (.agg (aA 14 (bI v))) (fM S.aH 0) ?_;refine gQ ?_;by_cases k:(mV m.known v)=true
  ·refine dX (WA m.known v _ l) aG (by rw[k]) ?_;intro w3 hb2;have b4:=bB hb2 H;refine Ln<|aY aG<|bT<|aN<|ay<|av (.nilFunc)<|av (au 14)<|aD<|Wr<|bL<|sR<|aJ (.tuple #[.nilFunc,au 14]) ?_;have b:bZ m v=14:=(by unfold bZ; rw[b_ (by rw[f]; decide)]; exact d_ k);exact⟨⟨.nilFunc,0,#[],by rw[b],rfl,fun d=>N_ (b.symm.trans d) (by first|decide|omega|assumption)⟩,b4⟩
  rw[U_]at k;refine dX (WA m.known v _ l) aF (by rw[k]) ?_;intro w4 hb3;have⟨oQ,pE,sJ,b5⟩:=jW hb3 R m23 S H;refine Ln<|aY aF<|bT<|aK<|Ws ?_;refine jY [0,1,2,3,4,5,6,7] [0,0,0,4,4,3,0,0] [(5,3,[3]),(5,4,[4]),(6,5,[5]),(7,5,[5])] fun BS fZ mQ => ?_;have⟨T,sK,U,I⟩:=jW fZ oQ pE sJ b5;refine aY (pt lp)<|aY (pt lp)<|aY (pf lp 12)<|Rs (.agg (aA 6 (rv .u64 m.known))) (fM T.aH 12 (fun j hj=>sP (p:=j) (by omega) (by omega))) ?_;refine Rs (.agg (aA 14 (bI v))) (fM U.aH 0) ?_;refine gQ ?_;by_cases n:(dG m.known v)=true
  ·refine dX (P7 m.known v _ l N) aG (by rw[n]) ?_;intro w5 hb4;have⟨sM,xk,uh,b7⟩:=jW hb4 T sK U I;refine Ln<|aY aF<|aY aF<|bT<|aK<|Ws<|Ws ?_;refine jY [0,1,4,5,2,3,6,7,8,9] [0,0,4,0,0,0,0,4,0,0] [] fun SF mF BU => ?_;have⟨F,uy,V,J⟩:=jW mF sM xk uh b7;refine aY (pt lp)<|aY (pt x)<|aY (pt lp)<|aY (pt lp)<|Rs (au v.o) (aM V.aH 0) ?_;refine Rp (au a) (fun _=>gP)<|Rp (pf lp a) (fun _=>jD 6 1) ?_;by_cases s:(m.inn a)=true
   ·refine Rs aG (aM F.aH a ((Dq (by omega)).trans (M_ Value.bool s))) ?_;refine aY aF<|aY aF<|bT<|aK ?_;refine jY [0,1,4,5,2,3,6,7,8] [0,0,4,0,0,0,0,4,0] [] fun wt4 rP Ii => ?_;have⟨W,uN,X,K⟩:=jW rP F uy V J;refine aY (pt lp)<|aY (pt x)<|aY (pt lp)<|aY (pf lp 6)<|Rs (au v.o) (aM X.aH 0) ?_;refine Rp (au a) (fun _=>gP)<|Rp (pf lp (a+6)) (fun _=>jD 6 1) ?_;by_cases u:(m.left a)=true
    ·refine Rs aG (aM W.aH (a+6) ((Cm (p:=a) (by omega) (by omega)).trans (M_ Value.bool u))) ?_;refine aY aG<|bT<|aN<|ay<|av (.nilFunc)<|av (au 10)<|aD<|Wr<|bL<|sR<|aJ (.tuple #[.nilFunc,au 10]) ?_;have b:bZ m v=10:=(by unfold bZ; rw[b_ (by rw[f]; decide)]; rw[b_ (by rw[k]; decide)]; rw[b_ (by rw[n]; decide)]; exact d_ (.inr (by rw[D]; exact u)));exact⟨⟨.nilFunc,0,#[],by rw[b],rfl,fun d=>N_ (b.symm.trans d) (by first|decide|omega|assumption)⟩,K⟩
    rw[U_]at u;refine Rs aF (aM W.aH (a+6) ((Cm (p:=a) (by omega) (by omega)).trans (M_ Value.bool u))) ?_;refine aY aF<|bT<|aK<|Wk<|bU<|sN<|Ws ?_;refine jY [0,4,1,2,3,5,6,7,8,9,10] [0,4,0,4,0,4,3,0,0,0,0] [(6,1,[3,2,1]),(6,3,[3]),(6,5,[5]),(7,6,[6]),(8,6,[6]),(9,6,[6]),(10,6,[6])] fun wt5 AA Uk => ?_;have⟨wK,Y,y⟩:=iY AA uN X K;refine aY (pf x 8)<|aY (pt lp)<|Rs (.int .u8 (q:Int)) (aM Y.aH 8 (M_ (Value.int IntKind.u8) P)) ?_;refine Rp (pf 0 q) (fun _=>jD 8 1)<|Rs (.func (.func (kfn q)) #[] #[]) (aM wK q (aad (by omega))) ?_;refine Rs (.agg (aA 14 (bI v))) (fM Y.aH 0) ?_;refine gQ<|Ac (by rfl) (Fx.PZ (args := [(pt lp),.agg (aA 14 (bI v))]) rfl rfl rfl (by rfl) (ajG (by omega) (by omega))) rfl<|(aae m lp B _ (h.up y) v C l Q q P (by omega)).mono ?_;rintro e9 w6 ⟨⟨A,fi1,Q0,O,ho1,hD1⟩,hb5⟩;refine⟨_,O,?_⟩;clear O;have Z:=bB hb5 y;refine Ln<|aY (A)<|aY (au (fG m v))<|aY (A)<|aY (au (fG m v))<|bT<|Wr<|aJ (.tuple #[A,au (fG m v)]) ?_;have b:bZ m v=fG m v:=(by unfold bZ; rw[b_ (by rw[f]; decide)]; rw[b_ (by rw[k]; decide)]; rw[b_ (by rw[n]; decide)]; exact b_ (by rw[D,s,u]; decide));exact⟨⟨_,_,_,by rw[b],ho1,fun d=>(hD1 (b.symm.trans d)).low y.size⟩,Z⟩
   rw[U_]at s;refine Rs aF (aM F.aH a ((Dq (by omega)).trans (M_ Value.bool s))) ?_;refine aY aG<|aY aG<|bT<|aN<|Wk<|sN<|aN<|ay<|av (.nilFunc)<|av (au 10)<|aD<|Wr<|bL<|sR<|aJ (.tuple #[.nilFunc,au 10]) ?_;have b:bZ m v=10:=(by unfold bZ; rw[b_ (by rw[f]; decide)]; rw[b_ (by rw[k]; decide)]; rw[b_ (by rw[n]; decide)]; exact d_ (.inl (by rw[D]; exact s)));exact⟨⟨.nilFunc,0,#[],by rw[b],rfl,fun d=>N_ (b.symm.trans d) (by first|decide|omega|assumption)⟩,J⟩
  rw[U_]at n;refine dX (P7 m.known v _ l N) aF (by rw[n]) ?_;intro w7 hb6;have aa:=bB hb6 I;refine Ln<|aY aG<|aY aG<|bT<|aN<|ay<|av (.nilFunc)<|av (au 13)<|aD<|Wr<|bL<|sR<|aJ (.tuple #[.nilFunc,au 13]) ?_;have b:bZ m v=13:=by unfold bZ; rw[b_ (by rw[f]; decide)]; rw[b_ (by rw[k]; decide)]; exact d_ n
  exact⟨⟨.nilFunc,0,#[],by rw[b],rfl,fun d=>N_ (b.symm.trans d) (by first|decide|omega|assumption)⟩,aa⟩
 rw[U_]at f;refine dX (IL v _ l) aF (by rw[f]) ?_;intro w8 hb7;have ab:=bB hb7 G;refine av aG<|av aG<|aD<|aN<|ay<|av (.nilFunc)<|av (au 1)<|aD<|Wr<|bL<|sR<|aJ (.tuple #[.nilFunc,au 1]) ?_;have b:bZ m v=1:=by unfold bZ; exact d_ f
 exact⟨⟨.nilFunc,0,#[],by rw[b],rfl,fun d=>N_ (b.symm.trans d) (by first|decide|omega|assumption)⟩,ab⟩
namespace Rt
noncomputable def gX(m:dP)(v:EvM):dP:=if bZ m v=0 then { iZ m v with known:=aI (iZ m v).known (aP v) ((iZ m v).known (aP v)+1) } else m
theorem Mj(m:dP)(v:EvM):(iZ m v).known=m.known:=by
 unfold iZ
 repeat (first|rfl|split)
def Gs:Nat->Int:=fun _=>0
def aW(m:dP)(k:Int):Nat->Int:=if m.T.has k=true then Ec m k else Gs
end Rt
theorem lS.known{w w':World}{B lp:Nat}{m:dP}{K:Nat->Int}(h:lS w B lp m)(e:Stp lp w w')(d:aQ w' lp 29 (wD { m with known:=K }) 114):lS w' B lp { m with known:=K }:=by
 have b:=fP e h.c.ty;exact { c:=d,t:=h.t.kV b (by decide),p:=h.p.kV b trivial,r:=h.r.kV b trivial,g:=h.g.kV b trivial,a:=h.a.kV b trivial,ne:=⟨h.ne.mp,h.ne.mr,h.ne.mg,h.ne.ma,h.ne.pr,h.ne.pg,h.ne.pa,h.ne.rg,h.ne.ra,h.ne.ga⟩,lB:=h.lB,pB:=h.pB,rB:=h.rB,gB:=h.gB,aB:=h.aB }
theorem qI{m:dP}{v:EvM}(h:bZ m v=0):bR v=true:=by
 cases hc:bR v with
 | true=>rfl
 | false=>unfold bZ at h; rw[d_ hc]at h; cases h
theorem qJ{m:dP}{v:EvM}(h:bZ m v=0):v.seq=m.known (aP v)+1/\fG m v=0/\m.inn (aP v)=true/\m.left (aP v)=false:=by
 have d:=qI h;unfold bZ at h;rw[b_ (by rw[d]; decide)]at h;by_cases c:mV m.known v=true
 ·rw[d_ c]at h; cases h
 rw[b_ c]at h;by_cases a:dG m.known v=false
 ·rw[d_ a]at h; cases h
 rw[b_ a]at h;by_cases b:m.inn (aP v)=false\/m.left (aP v)=true
 ·rw[d_ b]at h; cases h
 rw[b_ b]at h;refine⟨?_,h,?_,?_⟩
 ·have a:dG m.known v=true:=by cases e:dG m.known v with|true=>rfl|false=>exact N_ e a
  unfold dG at a;simp only[T_,Q_]at a;exact a.1.2
 ·cases e:m.inn (aP v)with|true=>rfl|false=>exact N_ (.inl e) b
 cases e:m.left (aP v)with|false=>rfl|true=>exact N_ (.inr e) b
theorem arn(m:dP)(lp B:Nat)(w:World)(h:lS w B lp m)(v:EvM)(C:gI v)(A:QlK m)(q:1<=B)(i:iU w 0 0 8 Ct) :
 Calls Tryz.prog 19 #[(pt lp),.agg (aA 14 (bI v))] w fun e w'=>e = .returned (au (bZ m v))/\Below w.heap.size w w':=by
 have s:=h.c;have K:=h.t;have x:=h.p;have y:=h.r;have u:=h.g;have o:=h.a;have J:=h.ne;have N:=h.c.lt;have R:=h.t.lt;have P:=h.p.lt;have Q:=h.r.lt;have O:=h.g.lt;have M:=h.a.lt;refine Kent Tryz.func19 14 ?_;refine ay<|pO fun n w1 b k E z1 => ?_;have⟨D,f⟩:=fC E.old i (Below.refl w.heap.size w);have S:=gN b;have⟨T,U,V,W,X⟩:=Ag b s.lt x.lt y.lt u.lt o.lt;have Y:0≠n:=by rw[b]; exact u_ (i.lt (by omega))
 have Z:=k.lt;refine av (au 0)<|aD<|ay<|av (pt lp)<|Lv (.agg (aA 14 (bI v))) (fM k.aH 0)<|kF (Qg m lp B _ (h.up f) v C A q D) ?_;rintro G w2 ⟨⟨d,H,F,j,L,I⟩,z⟩;refine⟨_,j,?_⟩;clear j;have l:=bB z f;refine av (.tuple #[d,au (bZ m v)])<|av (d)<|av (au (bZ m v))<|av (d)<|av (au (bZ m v))<|aD<|ay<|av (au (bZ m v))<|av (au (bZ m v))<|aD<|Wr<|aJ (au (bZ m v)) ?_;exact⟨rfl,l⟩
theorem aaf(m:dP)(lp B:Nat)(w:World)(h:lS w B lp m)(v:EvM)(hwf:gI v)(L:QlK m)(Y:1<=B)(H:iU w 0 0 8 Ct) :
 Calls Tryz.prog 20 #[(pt lp),.agg (aA 14 (bI v))] w fun e w'=>e = .returned (au (bZ m v))/\lS w' B lp (gX m v)/\jI (RS m lp w.heap.size) w w':=by
 have E:=h.c;have hT:=h.t;have hP:=h.p;have hR:=h.r;have hG:=h.g;have X:=h.a;have hN:=h.ne;have lC:=h.c.lt;have lT:=h.t.lt;have lP:=h.p.lt;have lR:=h.r.lt;have lG:=h.g.lt;have lA:=h.a.lt;refine Kent Tryz.func20 30 ?_;refine ay<|pO fun D w1 u C s1 z1 => ?_;have⟨b,m8,j⟩:=iY s1.old E H (Below.refl w.heap.size w);have tC:=gN u;have⟨nK,zm,yx,Co,AL⟩:=Ag u E.lt hP.lt hR.lt hG.lt X.lt;have Ll:0≠D:=by rw[u]; exact u_ (H.lt (by omega))
 have uK:=C.lt;refine av (au 0)<|aD<|ay<|av (pt lp)<|Lv (.agg (aA 14 (bI v))) (fM C.aH 0)<|kF (Qg m lp B _ (h.up j) v hwf L Y m8) ?_;rintro U w2 ⟨⟨y,W,T,i,ho1,Z⟩,hb1⟩;refine⟨_,i,?_⟩;clear i;have⟨N,l⟩:=fC hb1 C j;refine av (.tuple #[y,au (bZ m v)])<|av (y)<|av (au (bZ m v))<|av (y)<|av (au (bZ m v))<|aD<|Ws<|ay<|av (au (bZ m v)) ?_;by_cases d:(bZ m v)=0
 ·refine Lv aF (jR d)<|aD<|aK<|Wk<|sN<|Ws ?_;have z:=Z d;have hfe:=z.e;subst hfe;refine Wl<|av (.func (.func W) #[] T)<|Ac (by rfl) (Fx.PZ (args := []) rfl rfl rfl (by simp) z.f) rfl<|(z.s _ (Below.refl _ _)).mono ?_;rintro U n ⟨i,A,F⟩;refine⟨_,i,?_⟩;clear i;have I:jI (RS m lp w.heap.size) w n:=(Fx.jI.of_below l) |> fun q=>Fx.jI.trans _ _ _ q (F.mono fun k hk=>hk.imp id (m_ j.size));obtain⟨b,x⟩ : ∃ q,q=iZ m v:=⟨_,rfl⟩;rw[<- x]at A;have V:b.known=m.known:=by rw[x,Mj]
  have G:=A.c;have lC2:=G.lt;have hkb:=(qJ d).1;have M:=qI d;obtain⟨a,J,ho⟩ : ∃ a:Nat,a<6/\v.o=(a:Int)+1:=eU (je M);have hra:aP v=a:=by unfold aP; omega
  have hbd:=nI M;have hka:=L.kn a J;have O:=(h.up l).J7 (w':=n) (N) (by decide) F (by have:=N.lt; have:=j.size; omega);have ayK:=O.lt;refine aD<|Ws ?_;refine jY [0,1,4,5,9,10,2,3,6,7,8,11,12] [0,0,4,0,0,0,0,4,0,0,0,0,3] [(12,2,[2]),(12,7,[7])] fun qU K iC => ?_;have s3:Stp n.heap.size n qU:=Sb K;have⟨P,m19,m20⟩:=iY K G A O;have R:=I.then s3 (.inr I.size);refine aY (pt lp)<|aY (pt D)<|aY (pt lp)<|aY (pf lp 12)<|aY (pt lp)<|aY (pf lp 12)<|Rs (au v.o) (aM m20.aH 0) ?_;refine Rp (au a) (fun _=>gP)<|Rp (pf lp (a+12)) (fun _=>jD 6 1)<|Rs (aC (b.known a)) (aM P.aH (a+12) (sP (p:=a) (by omega) (by omega))) ?_;refine Rp (aC (b.known a+1)) (fun v1=>Fx.KE rfl rfl rfl (jQ (by rw[V]; omega) rfl))<|Rp (pf lp (a+12)) (fun _=>jD 6 1)<|gQ<|ji P (a+12) (aC (b.known a+1)) fun w4 m21 Q z2 => ?_;have m22:aQ w4 lp 29 (wD { b with known:=aI b.known a (b.known a+1) }) 114:=m21.to (RQ J (by omega) _);have S:=R.then Q (.inl (.inl (.inl rfl)));refine Ln (bT (ay (av (au 0) (aD (Wr (aJ (au 0) (⟨by rw[d],?_,S⟩)))))));rw[show gX m v = { b with known:=aI b.known a (b.known a+1) } by unfold gX; rw[d_ d,<- x,hra]];exact m19.known Q m22
 refine Lv aG (kY d) (aD (aN (ay (av (au (bZ m v)) (av (au (bZ m v)) (aD (Wr (sR (aJ (au (bZ m v)) (⟨rfl,?_,Fx.jI.of_below l⟩))))))))));rw[show gX m v=m by unfold gX; exact b_ d]; exact h.up l
namespace Rt
def yH(k f c d e b a:Nat):dP := { inn:=fun i=>decide (i<k),left:=fun _=>false,known:=fun _=>0,own:=fun _=>0,T:=dO.zero,R:=fun _ _=>0,gn:=0,g:=fun _ _=>0,an:=0,ao:=fun _=>0,ar:=fun _=>0,tp:=f,mb:=c,pb:=d,rb:=e,gb:=b,ab:=a }
end Rt
theorem Xr(k g c d f b a:Nat)(h:k<6):dJ (wD (yH k g c d f b a)) k (.bool true)=wD (yH (k+1) g c d f b a):=by
 rw[Wi h];have:aI (yH k g c d f b a).inn k true=(yH (k+1) g c d f b a).inn:=by
  funext i
  show(if i=k then true else decide (i<k))=decide (i<k+1);by_cases e:i=k
  ·subst e; rw[d_ rfl]; exact(f_ (by omega)).symm
  ·rw[b_ e]; exact decide_eq_decide.2 (by omega)
 show wD { yH k g c d f b a with inn:=_ }=_;rw[this]; rfl
theorem aag(m:dP)(lp B:Nat)(w:World)(h:lS w B lp m) :
 Calls Tryz.prog 21 #[(pt lp)] w fun e w'=>e = .returned (.agg (aA 6 (rv .u64 m.known)))/\Below w.heap.size w w':=by
 have f:=h.c;have E:=h.t;have q:=h.p;have s:=h.r;have o:=h.g;have n:=h.a;have D:=h.ne;have H:=h.c.lt;have L:=h.t.lt;have J:=h.p.lt;have K:=h.r.lt;have I:=h.g.lt;have G:=h.a.lt;refine Kent Tryz.func21 10 ?_;refine ay<|BL (m:=6) (y:=rv .u64 (fun _=>0)) (by rfl) rfl (by kernel_rfl) rfl fun l T d i z U => ?_;have⟨u,b⟩:=fC z.old f (Below.refl w.heap.size w);have M:=gN d;have⟨N,O,P,Q,R⟩:=Ag d f.lt q.lt s.lt o.lt n.lt;have S:=i.lt;refine aD<|Ws<|ay<|av (pt lp)<|Lv aF (Fx.lW rfl rfl rfl (by kernel_rfl))<|aD<|aK<|Wk<|sN<|ay<|av (pt lp)<|av (pt lp)<|av (pf lp 12)<|Lv (.agg (aA 6 (rv .u64 m.known))) (fM u.aH 12 (fun j F=>sP (p:=j) (by omega) (by omega)))<|dM i 0 fun C v A V => ?_;have x:aQ C l 6 (rv .u64 m.known) 35:=aL v;have k:=A.below b b.size (by omega);refine aD (Wr (⟨.agg (aA 6 (rv .u64 m.known)),rV Tryz.results21 ⟨_,rfl,aS x.aH (by kernel_rfl) (by kernel_rfl)⟩,?_⟩));exact⟨rfl,k⟩
theorem aah(m:dP)(lp B:Nat)(w:World)(h:lS w B lp m)(i b:Int)(hi : -9223372036854775808<=i/\i<=9223372036854775807) :
 Calls Tryz.prog 31 #[(pt lp),au i,aC b] w fun e w'=>e = .returned (au (fU (aW m b) i))/\Below w.heap.size w w':=by
 have u:=h.c;have F:=h.t;have E:=h.p;have l:=h.r;have C:=h.g;have A:=h.a;have D:=h.ne;have H:=h.c.lt;have L:=h.t.lt;have J:=h.p.lt;have K:=h.r.lt;have I:=h.g.lt;have G:=h.a.lt;refine Kent Tryz.func31 17 ?_;refine ay<|av (au 0)<|aD<|Ws<|ay<|av (pt lp)<|Lv aF (Fx.lW rfl rfl rfl (by kernel_rfl))<|aD<|aK<|Wk<|sN<|ay<|av (pt lp)<|av (pt lp)<|av (pf lp 20)<|Lv (.map (some m.rb)) (aM u.aH 20)<|av (aC b) ?_
 rcases Fx.tu m.T.x m.T.n b with ⟨d,k,f⟩|jH
 ·refine Lv (.agg (aA 54 (rv .i64 (m.R d)))) (Fx.wW (z := .agg (aA 54 (rv .i64 (fun _=>0)))) rfl rfl rfl l Tryz.underlying109 Tryz.underlying23 (by kernel_rfl) k f rfl)<|av (au i)<|dX (xB (m.R d) i _ hi) _ rfl ?_;intro M v;have o:=bB v (Below.refl w.heap.size w);refine av (au (fU (m.R d) i))<|aD<|Wr<|aJ (au (fU (m.R d) i)) ?_;have j:aW m b=m.R d:=by unfold aW Ec; rw[d_ (show m.T.has b=true from jS k f),show m.idx b=d from nu h.t.inv.inj k f]
  exact⟨M_ (fun q=>Ending.returned (Value.int .i64 (fU q i))) j.symm,o⟩
 refine Lv (.agg (aA 54 (rv .i64 (fun _=>0)))) (Fx.O6 (z := .agg (aA 54 (rv .i64 (fun _=>0)))) rfl rfl rfl l Tryz.underlying109 Tryz.underlying23 (by kernel_rfl) jH)<|av (au i)<|dX (xB (fun _=>0) i _ hi) _ rfl ?_;intro N y;have s:=bB y (Below.refl w.heap.size w);refine av (au (fU (fun _=>0) i))<|aD<|Wr<|aJ (au (fU (fun _=>0) i)) ?_;have j:aW m b=Gs:=by unfold aW; exact b_ (by rw[show m.T.has b=false from zI jH]; decide)
 exact⟨M_ (fun q=>Ending.returned (Value.int .i64 (fU q i))) j.symm,s⟩
theorem agf(m:dP)(lp B:Nat)(w:World)(h:lS w B lp m)(b:Int) :
 Calls Tryz.prog 30 #[(pt lp),aC b] w fun e w' => ∃ a c,e = .returned (.slice a (m.T.path b).length c)/\Yl w' w.heap.size a c (m.T.path b)/\Below w.heap.size w w':=by
 have k:=h.c;have l:=h.t;have x:=h.p;have y:=h.r;have u:=h.g;have s:=h.a;have v:=h.ne;have A:=h.c.lt;have F:=h.t.lt;have D:=h.p.lt;have E:=h.r.lt;have C:=h.g.lt;have z:=h.a.lt;refine Kent Tryz.func30 13 ?_;refine ay<|av (.slice none 0 0)<|aD<|Ws<|ay<|av (pt lp)<|Lv aF (Fx.lW rfl rfl rfl (by kernel_rfl))<|aD<|aK<|Wk<|sN<|ay<|av (pt lp)<|av (pt lp)<|av (pf lp 18)<|Lv (pt m.tp) (aM k.aH 18)<|av (aC b)<|kF (JH b l) ?_;rintro q G ⟨f,i,d,o,n⟩;refine⟨_,d,?_⟩;clear d;have j:=bB n (Below.refl w.heap.size w);refine av (.slice f ((dO.path m.T b).length) (i))<|aD<|Wr<|aJ (.slice f ((dO.path m.T b).length) (i)) ?_;exact⟨_,_,rfl,o,j⟩
theorem ajH(k:Nat)(hk:1<=k/\k<=6)(w:World) :
 Calls Tryz.prog 29 #[au (k:Int)] w fun e w' => ∃ lp m,e = .returned (.tuple #[(pt lp),au 0])/\(∃ tp mb pb rb gb ab,m=yH k tp mb pb rb gb ab)/\lS w' w.heap.size lp m/\Below w.heap.size w w':=by
 refine Kent Tryz.func29 30 ?_;refine ay<|av (.pointer none)<|av (au 0)<|aD<|Ws<|ay<|av (au k)<|Lv aF H6<|av aF<|av (au k)<|Lv aF yS<|av aF<|aD<|aK<|Wk<|sN<|ay<|kF (abN _) ?_;rintro e9 w1 ⟨n,x,V,hg1,W,hb1⟩;refine⟨_,V,?_⟩;clear V;have J:=bB hb1 (Below.refl w.heap.size w);have m2:tH w1 (w.heap.size) n x dO.zero:=W.weak (Below.refl w.heap.size w).size;clear W hg1;refine Fx.L.KN (by rfl) rfl rfl fun o w2 Q G s2 z1 => ?_;have⟨m4,K⟩:=fC s2.old m2 J;have tC:=iK Q J.size;have agh:=cO Q m2.lt;have uK:=G.lt;refine Fx.L.KN (by rfl) rfl rfl fun q w3 R H s3 z2 => ?_;have⟨m6,m7,M⟩:=iY s3.old m4 G K;have qX:=iK R K.size;have⟨agi,Px⟩:=rD R m4.lt G.lt;have zM:=H.lt;refine Fx.L.TL (by rfl) rfl rfl fun s w4 S I s4 z3 => ?_;have⟨m9,X,Y,N⟩:=jW s4.old m6 m7 H M;have BF:=iK S M.size;have⟨agj,aro,Xn⟩:=AZ S m6.lt m7.lt H.lt;have GZ:=I.lt;refine Fx.L.TL (by rfl) rfl rfl fun u w5 T E s5 z4 => ?_;have⟨m13,Z,aa,ac,O⟩:=nE s5.old m9 X Y I N;have NT:=iK T N.size;have⟨agk,afY,Xq,Ov⟩:=KM T m9.lt X.lt Y.lt I.lt;have M9:=E.lt;refine av (.agg (aA 29 (bG (bG (bG (bG (bG (fun d=>if d<12 then .bool false else if d<18 then aC 0 else if d<19 then .pointer none else if d<21 then .map none else if d<27 then au 0 else .map none) 18 1 (fun _=>(pt n))) 19 1 (fun _ => .map (some o))) 20 1 (fun _ => .map (some q))) 27 1 (fun _ => .map (some s))) 28 1 (fun _ => .map (some u)))))<|DT (m:=29) (y:=bG (bG (bG (bG (bG (fun d=>if d<12 then .bool false else if d<18 then aC 0 else if d<19 then .pointer none else if d<21 then .map none else if d<27 then au 0 else .map none) 18 1 (fun _=>(pt n))) 19 1 (fun _ => .map (some o))) 20 1 (fun _ => .map (some q))) 27 1 (fun _ => .map (some s))) 28 1 (fun _ => .map (some u))) (by rfl) rfl rfl (bJ _ _) rfl fun b w6 U ad s6 z5 => ?_;have⟨m18,m19,m20,m21,m22,b6⟩:=rz s6.old m13 Z aa ac E O;have lg5:=iK U O.size;have⟨arp,arq,ars,aru⟩:=KM U Z.lt aa.lt ac.lt E.lt;have tg5:=ad.lt;have l:QlN (yH 0 n x o q s u):=⟨agh,agi,agj,agk,by assumption,by assumption,by assumption,by assumption,by assumption,by assumption⟩;have m23:aQ w6 b 29 (wD (yH 0 n x o q s u)) 114:=ad.congr (fun j hj=>match j,hj with|0,_=>rfl|1,_=>rfl|2,_=>rfl|3,_=>rfl|4,_=>rfl|5,_=>rfl|6,_=>rfl|7,_=>rfl|8,_=>rfl|9,_=>rfl|10,_=>rfl|11,_=>rfl|12,_=>rfl|13,_=>rfl|14,_=>rfl|15,_=>rfl|16,_=>rfl|17,_=>rfl|18,_=>rfl|19,_=>rfl|20,_=>rfl|21,_=>rfl|22,_=>rfl|23,_=>rfl|24,_=>rfl|25,_=>rfl|26,_=>rfl|27,_=>rfl|28,_=>rfl|j+29,h=>N_ h (by omega))
 refine av (pt b)<|aD<|Ws<|ay<|av (au k)<|av (au 0)<|aD<|Wb<|Wo (fun f z => ∃ i:Nat,i<=k/\f 4=(pt b)/\f 19=au (k:Int)/\f 20=au (i:Int)/\tH z (w.heap.size) n x dO.zero/\Mp z o 0 (fun _=>0) (fun _ => .pointer none)/\Mp z q 0 (fun _=>0) (fun _ => .pointer none)/\iI z s 0 (fun _=>0) (fun _=>0) (fun _ => .pointer none)/\iI z u 0 (fun _=>0) (fun _=>0) (fun _ => .pointer none)/\aQ z b 29 (wD (yH i n x o q s u)) 114/\Below w.heap.size w z) (fun f _=>((k:Int)-intOf (f 20)).toNat) ⟨0,(by omega),(by rfl),Fx.ic,Fx.ic,m18,m19,m20,m21,m22,m23,b6⟩ ?_;rintro f1 w7 ⟨i,v,C,D,A,m24,nW,oN,pU,pV,F,B⟩;refine ay ?_;by_cases P:(i:Int)<(k:Int)
 ·refine Lv aG (iD P (hx:=A) (hy:=D))<|aD<|Ws<|aN<|Wk<|sN<|Ws<|Wb<|ay<|aU A<|av (au i)<|aD<|Wl<|aU C<|av (au i)<|av (pt b)<|av (pt b)<|Lv (pf b i) (jD 6 1)<|ji F i aG fun w8 ou s7 z6 => ?_;have lu:aQ w8 b 29 (wD (yH (i+1) n x o q s u)) 114:=ou.to (Xr i _ _ _ _ _ _ (by omega));have gF:=fP s7 F.ty;have⟨m32,oQ,nL,oO,nT⟩:=qA gF m24 nW oN pU pV;have b8:=s7.below B B.size (by omega);refine Ln<|bU<|sN<|Wl<|Lv (au ((i:Int)+1)) (fH (hx:=A))<|av (au ((i:Int)+1))<|Ln<|iH ⟨i+1,(by omega),C,(D.trans Fx.ic),Fx.ic,m32,oQ,nL,oO,nT,lu,b8⟩ ?_;show((k:Int)-intOf (au ((i:Int)+1))).toNat<_;simp only[A,intOf]; omega
 refine Lv aF (iE P (hx:=A) (hy:=D))<|aD<|Ws<|aK<|Wx<|cZ<|gZ<|dh<|sN<|ay<|aU C<|av (pt b)<|av (au 0)<|aD<|Wr<|aJ (.tuple #[(pt b),au 0]) ?_;have eik:i=k:=by omega
 subst eik;exact⟨b,yH i n x o q s u,rfl,⟨_,_,_,_,_,_,rfl⟩,{ c:=F,t:=m24,p:=nW.vQ fun i v=>N_ v (z_ _),r:=oN.vQ fun i v=>N_ v (z_ _),g:=pU.vQ fun i v=>N_ v (z_ _),a:=pV.vQ fun i v=>N_ v (z_ _),ne:=⟨l.mp,l.mr,l.mg,l.ma,l.pr,l.pg,l.pa,l.rg,l.ra,l.ga⟩,lB:=lg5,pB:=tC,rB:=qX,gB:=BF,aB:=NT },B⟩
end Go.Proofs.YtcbedgfikejkoaaGreatDoor
namespace Go.Proofs.YtcbedgfikejkoaaGreatDoor.Fx
open Go.RowKit Go.Shelf Go.Sort Go.Lib
def kr(a b:Int):Int:=if a<b then -1 else if b<a then 1 else 0
theorem Qh(a b:Int):kr a b<0<->a<b:=by
 unfold kr;split
 ·simp_all
 split <;> simp_all
theorem aai{c:Type}(ky:c->Int):SWO (ltOf fun x y=>kr (ky x) (ky y)):=by
 have e : ∀ x y,(ltOf fun x y=>kr (ky x) (ky y)) x y=decide (ky x<ky y):=fun x y=>by
  unfold ltOf;exact decide_eq_decide.2 (Qh _ _)
 refine⟨fun x => ?_,fun x y z a b => ?_,fun x y z a b => ?_⟩ <;> simp only[e,decide_eq_true_eq,decide_eq_false_iff_not]at * <;> omega
end Go.Proofs.YtcbedgfikejkoaaGreatDoor.Fx
namespace Go.Proofs.YtcbedgfikejkoaaGreatDoor.Fx
open Go.RowKit Go.Shelf Go.Sort Go.Lib
theorem Ml{w:World}{B g cap m N s:Nat}{E:TypeId}(a:Array Value)(os:Array Obj){x:Nat->Value}(h:Own w B E s (.slice (some ⟨g,0,none⟩) m cap) m x)(f:a.size=m*s) :
 Own (sortWorld id w g 0 N a os) B E s (.slice (some ⟨g,0,none⟩) m cap) m (fun q=>a[q]!)/\Stp g w (sortWorld id w g 0 N a os):=by
 rcases h.2 with ⟨b,_⟩|⟨g',cap',cur,b,hB,hg,hn,hm,hs,ht⟩
 ·cases b
 simp only[Value.slice.injEq,Option.some.injEq,Addr.mk.injEq]at b;obtain⟨⟨rfl,_⟩,_,rfl⟩:=b;have n:g<w.heap.size:=(t_.1 hg).1;have d:(sortWorld id w g 0 N a os).heap=(w.heap.modify g (onCells (putCells id 0 a)))++os:=rfl;have e : ∀ k,k<w.heap.size->(sortWorld id w g 0 N a os).heap[k]? = (w.heap.modify g (onCells (putCells id 0 a)))[k]? := fun k c=>by
  rw[d,Array.getElem?_append_left (by simpa using c)]
 have p:m*s<=cap*s:=Nat.mul_le_mul_right s hn;refine⟨⟨by simp,.inr ⟨g,cap,putCells id 0 a cur,rfl,hB,?_,hn,hm,?_,?_⟩⟩,⟨rfl,rfl,rfl,by rw[d]; simp,fun k c o => ?_⟩⟩
 ·rw[e g n,Array.getElem?_modify,d_ rfl,hg]; rfl
 ·simp[putCells,hs]
 ·apply List.ext_getElem?;intro i;by_cases j:i<m*s
  ·have l:i<cur.size:=(by omega);rw[List.getElem?_take_of_lt (by omega),Array.getElem?_toList];unfold putCells;rw[Array.getElem?_mapIdx,Array.getElem?_eq_getElem l];simp[j,f]
  rw[List.getElem?_eq_none (by simp; omega),List.getElem?_eq_none (by simp; omega)]
 rw[e k c,Array.getElem?_modify,b_ (Ne.symm o)]
theorem Ow{w:World}{B g cap m s:Nat}{E:TypeId}(d:Array Value){x:Nat->Value}(h:Own w B E s (.slice (some ⟨g,0,none⟩) m cap) m x)(n:d.size=m*s)(hx : ∀ q,q<m*s->x q=d[q]!)(i:0<m) :
 Holds id w g 0 d/\g<w.heap.size:=by
 obtain⟨l,k,e,_,f,_,c⟩:=h.form i
 rcases h.2 with ⟨a,_⟩|⟨g2,cap2,cur,a,hB,hg,hn,hm,hs,ht⟩
 ·cases a
 simp only[Value.slice.injEq,Option.some.injEq,Addr.mk.injEq]at a e;obtain⟨⟨rfl,_⟩,_,rfl⟩:=a;obtain⟨⟨rfl,_⟩,_,rfl⟩:=e;refine⟨fun j o=>⟨?_,?_⟩,f⟩
 ·have b:=c j (by omega);rw[b,hx j (by omega)]; rfl
 simp[World.frozen?,hg]
theorem I4{a:Type} [Inhabited a]{s:Nat}{enc:a->Nat->Value}{e0:a}{l:List a}(f:0<s) : ∀ q,q<l.length*s->flat s (fun k=>enc (l.getD k e0)) q=(Go.Sort.flatK (fun x=>(List.range s).map (enc x)) s l.toArray)[q]! := fun q b=>by
 have d:q / s<l.length:=Nat.div_lt_of_lt_mul (by rw[Nat.mul_comm]; exact b);have e:q % s<s:=K_ _ f;rw[Go.Sort.get_flatK _ _ _ q (by simpa using b)];unfold flat;have c:l.toArray[q / s]! = l.getD (q / s) e0:=by simp[d]
 rw[c];simp[e]
theorem Xt{P:Program}{ρ:Ren}(H:SlLaysF0.n6 P ρ){o:Nat}(T : ∀ I w,(callFunc o I).run P w = .ok (.enter o I) w){w:World}{B cap s:Nat}{a:Option Addr}{E:TypeId}(K:0<s)
 (R : ∀ w,(isAgg (ρ.t 24)).run P w = .ok true w) (zE : ∀ w,(Go.sizeOf (ρ.t 24)).run P w = .ok s w) {n:Type} [Inhabited n] {enc:n->Nat->Value} {e0:n} (h1 : ∀ x j,j<s->(enc x j).oneCell'=true) {ky:n->Int} {l:List n}
 (h:Own w B E s (.slice a l.length cap) l.length (flat s fun q=>enc (l.getD q e0)))
 (X : ∀ M x y,Calls P o #[.agg (aA s (enc x)),.agg (aA s (enc y))] M fun e w'=>e = .returned (.int .i64 (kr (ky x) (ky y))) /\ ∃ q os',w'=grow (M.drewN q) os') (hm:l.length<4611686018427387904) :
 Calls P (ρ.f 6) #[.slice a l.length cap,.func (.func o) #[] #[]] w fun e w'=>e = .returned (.tuple #[]) /\ ∃ G:List n,G.Perm l/\G.Pairwise (fun x y=>ky x<=ky y)/\Own w' B E s (.slice a l.length cap) l.length (flat s fun q=>enc (G.getD q e0))/\(∀ k,k<w.heap.size->(Value.slice a l.length cap).ownBlock≠some k->w'.heap[k]? = w.heap[k]?)/\jg [E] w w'/\Below B w w':=by
 by_cases U:l.length=0
 ·have D:l = []:=List.length_eq_zero_iff.1 U;subst D;refine(AnyF.slices_SortFunc_none H a cap _ w).mono ?_;rintro e w' ⟨C,rfl⟩;exact⟨C,[],List.Perm.refl _,List.Pairwise.nil,h,fun _ _ _=>rfl,vN _,Below.refl _ _⟩
 obtain⟨g,c2,r,hB,hg,hmc,_⟩:=h.form (by omega);simp only[Value.slice.injEq]at r;obtain⟨rfl,_,rfl⟩:=r;have z : ∀ x,((fun x=>(List.range s).map (enc x)) x).length=s:=fun x=>by simp
 have hsz:(Go.Sort.flatK (fun x=>(List.range s).map (enc x)) s l.toArray).size=l.length*s:=by simp
 obtain⟨W,D⟩:=Ow _ h hsz (I4 K) (by omega);have hty:Ty w g E:=h.ty rfl;have A : ∀ x,((List.range s).map (enc x)).toArray=aA s (enc x):=fun x=>by
  apply Array.ext
  ·simp[cB]
  ·intro i h1 V;have d:i<s:=(by simpa using h1);have:=gM (enc x) d;rw[Array.getElem?_eq_getElem V]at this;rw[C_ this]; simp
 have J:=AnyQ.slices_SortFunc H s R zE (fun x=>(List.range s).map (enc x)) z (fun x v A=>by
  obtain⟨j,u,rfl⟩:=List.mem_map.1 A;exact h1 x j (P_.1 u)) (fun x y=>kr (ky x) (ky y)) (aai _) o #[] g 0 cap l.toArray w T
  (fun N p dk hdk x y=>by rw[A,A]; exact X _ x y) W D (by simpa using hm)
 rw[show l.toArray.size=l.length by simp]at J;refine J.mono ?_;rintro e w' ⟨C,b,N,p,⟨m,_,L⟩,hso,rfl⟩;have m:b.size=l.length:=by simpa using m
 have hw:sortWorldK (fun x=>(List.range s).map (enc x)) s w g 0 N b p=sortWorld id w g 0 N (Go.Sort.flatK (fun x=>(List.range s).map (enc x)) s b) p:=rfl;rw[hw];obtain⟨o1,c⟩:=Ml (N:=N) (Go.Sort.flatK (fun x=>(List.range s).map (enc x)) s b) p h (by simp[m]);have r:(b.extract 0 l.length).toList=b.toList:=by
  rw[<- m]; simp
 have S:(l.toArray.extract 0 l.length).toList=l:=by simp
 rw[r,S]at L;refine⟨C,b.toList,L,?_,?_,fun k z hne=>c.block k z (fun e=>hne (by rw[e]; rfl)),fP c hty,⟨c.os,c.tape,c.output,c.size,fun k z=>c.block k (by omega) (by omega)⟩⟩
 ·rw[List.pairwise_iff_getElem];intro i j Y u Z;have d:=hso i j (L_ _) Z (by rw[<- m]; simpa using u);unfold ltOf at d;rw[decide_eq_false_iff_not,Qh]at d;have O:b[i]! = b.toList[i]:=by rw[getElem!_pos b i (by simpa using Y)]; simp
  have Q:b[j]! = b.toList[j]:=by rw[getElem!_pos b j (by simpa using u)]; simp
  rw[O,Q]at d;exact Int.not_lt.1 d
 have:=fun q (F:q<l.length*s)=>I4 (enc:=enc) (e0:=e0) (l:=b.toList) K q (by simpa [m] using F);have o3:Own (sortWorld id w g 0 N (Go.Sort.flatK (fun x=>(List.range s).map (enc x)) s b) p) B E s (.slice (some ⟨g,0,none⟩) l.length cap) l.length (flat s fun q=>enc (b.toList.getD q e0)):=o1.congr fun q F=>by
  have:=this q F;simp only[Array.toArray_toList]at this;exact this.symm
 exact o3
end Go.Proofs.YtcbedgfikejkoaaGreatDoor.Fx
namespace Go.Proofs.YtcbedgfikejkoaaGreatDoor
open Go.Shelf
def R5:Go.Shelf.Ren:=⟨fun|6=>47|15=>87|14=>86|28=>137|29=>138|20=>129|21=>130|22=>131|23=>132|24=>133|25=>134|26=>135|27=>136|46=>164|47=>165|48=>166|49=>167|50=>168|57=>185|n=>n,fun|22=>48|24=>106|25=>122|3=>3|39=>161|0=>0|53=>181|55=>23|4=>4|46=>208|45=>207|50=>212|5=>5|9=>9|66=>237|70=>241|76=>251|77=>252|n=>n,fun|n=>n⟩
theorem ajI:Go.Proofs.SlLaysF0.n6 Tryz.prog R5 := {
 mixed:=by kernel_rfl
 f6:=⟨Tryz.f47.name,by decide,Tryz.func47.trans (M_ some (by kernel_rfl))⟩
 f14:=⟨Tryz.f86.name,by decide,Tryz.func86.trans (M_ some (by kernel_rfl))⟩
 f15:=Tryz.func87.trans (M_ some (by kernel_rfl))
 f20:=⟨Tryz.f129.name,by decide,Tryz.func129.trans (M_ some (by kernel_rfl))⟩
 f21:=⟨Tryz.f130.name,by decide,Tryz.func130.trans (M_ some (by kernel_rfl))⟩
 f22:=⟨Tryz.f131.name,by decide,Tryz.func131.trans (M_ some (by kernel_rfl))⟩
 f23:=⟨Tryz.f132.name,by decide,Tryz.func132.trans (M_ some (by kernel_rfl))⟩
 f24:=⟨Tryz.f133.name,by decide,Tryz.func133.trans (M_ some (by kernel_rfl))⟩
 f25:=⟨Tryz.f134.name,by decide,Tryz.func134.trans (M_ some (by kernel_rfl))⟩
 f26:=⟨Tryz.f135.name,by decide,Tryz.func135.trans (M_ some (by kernel_rfl))⟩
 f27:=⟨Tryz.f136.name,by decide,Tryz.func136.trans (M_ some (by kernel_rfl))⟩
 f28:=Tryz.func137.trans (M_ some (by kernel_rfl))
 f29:=Tryz.func138.trans (M_ some (by kernel_rfl))
 f46:=⟨Tryz.f164.name,by decide,Tryz.func164.trans (M_ some (by kernel_rfl))⟩
 f47:=Tryz.func165.trans (M_ some (by kernel_rfl))
 f48:=Tryz.func166.trans (M_ some (by kernel_rfl))
 f49:=⟨Tryz.f167.name,by decide,Tryz.func167.trans (M_ some (by kernel_rfl))⟩
 f50:=⟨Tryz.f168.name,by decide,Tryz.func168.trans (M_ some (by kernel_rfl))⟩
 f57:=⟨Tryz.f185.name,by decide,Tryz.func185.trans (M_ some (by kernel_rfl))⟩
 t0:=Tryz.underlying0
 a0:=Tryz.isAgg0
 z0:=Tryz.sizeOf0
 v0:=Tryz.zeroValue0
 t3:=Tryz.underlying3
 a3:=Tryz.isAgg3
 z3:=Tryz.sizeOf3
 v3:=Tryz.zeroValue3
 t4:=Tryz.underlying4
 a4:=Tryz.isAgg4
 z4:=Tryz.sizeOf4
 v4:=Tryz.zeroValue4
 t5:=Tryz.underlying5
 a5:=Tryz.isAgg5
 z5:=Tryz.sizeOf5
 v5:=Tryz.zeroValue5
 t9:=Tryz.underlying9
 a9:=Tryz.isAgg9
 z9:=Tryz.sizeOf9
 v9:=Tryz.zeroValue9
 t22:=Tryz.underlying48
 a22:=Tryz.isAgg48
 z22:=Tryz.sizeOf48
 v22:=Tryz.zeroValue48
 t25:=Tryz.underlying122
 a25:=Tryz.isAgg122
 z25:=Tryz.sizeOf122
 v25:=Tryz.zeroValue122
 t39:=Tryz.underlying161
 a39:=Tryz.isAgg161
 z39:=Tryz.sizeOf161
 v39:=Tryz.zeroValue161
 t45:=Tryz.underlying207
 a45:=Tryz.isAgg207
 z45:=Tryz.sizeOf207
 v45:=Tryz.zeroValue207
 t46:=Tryz.underlying208
 a46:=Tryz.isAgg208
 z46:=Tryz.sizeOf208
 v46:=Tryz.zeroValue208
 t50:=Tryz.underlying212
 a50:=Tryz.isAgg212
 z50:=Tryz.sizeOf212
 v50:=Tryz.zeroValue212
 t53:=Tryz.underlying181
 a53:=Tryz.isAgg181
 z53:=Tryz.sizeOf181
 v53:=Tryz.zeroValue181
 t55:=Tryz.underlying23
 a55:=Tryz.isAgg23
 z55:=Tryz.sizeOf23
 v55:=Tryz.zeroValue23
 t66:=Tryz.underlying237
 a66:=Tryz.isAgg237
 z66:=Tryz.sizeOf237
 v66:=Tryz.zeroValue237
 t70:=Tryz.underlying241
 a70:=Tryz.isAgg241
 z70:=Tryz.sizeOf241
 v70:=Tryz.zeroValue241
 t76:=Tryz.underlying251
 a76:=Tryz.isAgg251
 z76:=Tryz.sizeOf251
 v76:=Tryz.zeroValue251
 t77:=Tryz.underlying252
 a77:=Tryz.isAgg252
 z77:=Tryz.sizeOf252
 v77:=Tryz.zeroValue252 }
end Go.Proofs.YtcbedgfikejkoaaGreatDoor
namespace Go.Proofs.YtcbedgfikejkoaaGreatDoor
open Go.RowKit Go.Sort Rt
namespace Fx
def GrX(w w':World):Prop := ∃ q a,w'=grow (w.drewN q) a
theorem GrX.refl(w:World):GrX w w:=⟨0,#[],by rw[grow_empty]; rfl⟩
theorem GrX.alloc{w a b:World}(h:GrX w a)(z : ∃ o,b=a.alloc o):GrX w b:=by
 obtain⟨q,c,rfl⟩:=h;obtain⟨o,rfl⟩:=z;exact⟨q,c ++ #[o],by rw[alloc_eq_grow,grow_grow]⟩
theorem GrX.drew{w a b:World}(h:GrX w a)(z:b=a.drew):GrX w b:=by
 obtain⟨q,c,rfl⟩:=h;subst z;exact⟨q+1,c,rfl⟩
section
variable {P:Program} {n:Nat} {Q:Post} {f:Nat->Value} {w:World} {ops:Array Oper} {rest:List Oper} {o:Oper}
theorem L.ajJ{T:TypeId}{x:Operand}{v:Value}{m:Nat}{y:Nat->Value}(e:Region.wanted o (yf ops f)=true)(c:o.op = .box T x)(hx:ev f x=v)(a:v.cells=aA m y)(b:inn n o.dst=true)
 (h : ∀ g w',g=w.heap.size->aQ w' g m y T->Stp w.heap.size w w'->(∃ o,w'=w.alloc o)->L P n ops Q rest (put f o.dst (.pointer (some ⟨g,0,none⟩))) w'):L P n ops Q (o::rest) f w:=by
 have d:(execOp (ev f) o).run P w = .ok (.value (.pointer (some ⟨w.heap.size,0,none⟩))) (w.alloc (.cells v.cells T)):=by
  unfold execOp;simp[c,hx,Instr.box,newVar,newRow]
 refine L.val e d b (h _ _ rfl ?_ (Stp.alloc _ _) ⟨_,rfl⟩);show(w.alloc _).heap[w.heap.size]? = _;rw[alloc_at,d_ rfl,a]
theorem L.aak{T E:TypeId}{len s:Nat}{k:List (Nat × Operand)}{vs:List (Nat × Value)}{zc y:Nat->Value}(H:Region.wanted o (yf ops f)=true)(A:o.op = .buildSlice T len k.toArray)(B:k.map (fun p=>(p.1,ev f p.2))=vs)(G:P.underlying T=some (.slice E))(d:(P.info? E).map (·.size)=some s)
 (m:Nat.ble (len*s) 16777216=true) (c:Nat.beq (len*s) 0=false) (I:((P.info? E).bind (·.zero)).map (·.cells)=some (aA s zc)) (t:Instr.fill (fun i=>some (i*s,s)) (aA (len*s) (fun j=>zc (j % s))) vs=some (aA (len*s) y)) (r:inn n o.dst=true)
 (h : ∀ g w',g=w.heap.size->aQ w' g (len*s) y E->Stp w.heap.size w w'->(∃ o,w'=w.alloc o)->L P n ops Q rest (put f o.dst (.slice (some ⟨g,0,none⟩) len len)) w'):L P n ops Q (o::rest) f w:=by
 obtain⟨z,J,K⟩:=Option.map_eq_some_iff.1 I;obtain⟨i,b,M⟩:=Option.bind_eq_some_iff.1 J;have F:i.size=s:=by rw[b]at d; simpa using d
 have N : ¬ len*s>2^24:=by have:=Nat.le_of_ble_eq_true m; omega
 have a:len*s≠0:=fun e=>by rw[e]at c; exact N_ c (by decide)
 have D:0<s:=Nat.pos_of_ne_zero fun e=>a (by rw[e,Nat.mul_zero]);have q:(Array.range (len*s)).map (fun j=>z.cells[j % z.cells.size]!)=aA (len*s) (fun j=>zc (j % s)):=by
  refine vK (by simp) fun j v => ?_;have x:j % s<s:=K_ _ D;have u:=gM zc x;rw[K];simp[v,cB];rw[getElem!_def,u]
 have C:(execOp (ev f) o).run P w = .ok (.value (.slice (some ⟨w.heap.size,0,none⟩) len len)) (w.alloc (.cells (aA (len*s) y) E)):=by
  unfold execOp;simp only[A,List.map_toArray,B];unfold Instr.buildSlice;have l : ¬ 16777216<len*s:=by omega
  simp[underlying,sizeOf,typeInfo,zeroValue,G,b,F,M,l];simp[a,q,t,newRow]
 refine L.val H C r (h _ _ rfl ?_ (Stp.alloc _ _) ⟨_,rfl⟩);show(w.alloc _).heap[w.heap.size]? = _;rw[alloc_at,d_ rfl]
end
section
variable {P:Program} {n:Nat} {ops:List Oper} {Q:Post}
theorem W.agl{f:Nat->Value}{w:World}{id:Nat}(l:List Nat)(cs:List Nat)(S:World->World->Prop)(j : ∀ w,S w w)(m : ∀ a b c,S a b->S b c->S a c)(fJ:List (Nat × Nat × List Nat))(t:P.follows .mixedOrders=true)(u:mE n ops=true)(x:Region.noSelect ops.toArray=true)(e:AX ops l=true)(v:wU ops cs fJ l=true)
 (h : ∀ g,Below w.heap.size w g->g=w.drew->R P n ops cs S Q l f g):W P n (.region id ops.toArray true) Q f w:=fun a o=>by
 refine wp_region_any t ?_;unfold AX at e;rw[T_,T_,T_,List.all_eq_true,List.all_eq_true]at e;obtain⟨⟨⟨y,z⟩,p3⟩,p4⟩:=e;have s:=B_ y;have A:l.Nodup:=h_ p3;have:=R.any (P:=P) (Q:=Q) (fJ:=fJ) u x j m ops.length l (Array.replicate ops.length false) a f w.drew s (by simp) (Kv.start _ _ _) (fun i=>by
  have p : ∀ i,(Array.replicate ops.length false).getD i false=false:=fun i=>getD_replicate_false _ _;constructor
  ·intro d; exact⟨by simpa [Nat.blt_eq] using z i d,p i⟩
  ·intro d;obtain⟨k,q,r⟩:=List.any_eq_true.1 (p4 i (by simpa using d.1));rw[B_ r]; exact q) A (wV v) o (h w.drew (Below.refl _ _).drew rfl)
 simpa using this
end
end Fx
namespace Rt
structure Ki where
 x:Nat->Int
 h:0<=x 1/\x 1<=18446744073709551615
def g0:Ki:=⟨fun _=>0,by decide⟩
instance:Inhabited Ki:=⟨g0⟩
def Kz(x:Nat->Int):Ki:=if h:0<=x 1/\x 1<=18446744073709551615 then⟨x,h⟩else g0
def Mq(x:Ki):Int:=x.x 0*18446744073709551616+x.x 1
theorem aco{x:Nat->Int}(h:0<=x 1/\x 1<=18446744073709551615):(Kz x).x=x:=by unfold Kz; rw[dif_pos h]
def SQ(a b:Int):Int:=if a=0 then b else a
def Ox(a b:Int)(i:Nat):Int:=if i=0 then a else b
def orW(a b:Int):Nat->Value:=fun j => .int .i64 (Ox a b j)
section
variable {a b:Int} {i:Nat}
theorem arv(d:i=0\/a=0)(c:Ox a b i=0):i+1=0\/a=0:=by
 unfold Ox at c
 rcases d with rfl|e
 ·exact .inr (by simpa using c)
 exact .inr e
theorem arw(d:i=0\/a=0)(c:Ox a b i=0):i+1<2\/SQ a b=0:=by
 unfold Ox at c;by_cases e:i=0
 ·exact .inl (by omega)
 rw[b_ e]at c
 rcases d with h|h
 ·exact N_ h e
 exact .inr (by unfold SQ; rw[d_ h]; exact c)
theorem arx(d:i=0\/a=0)(c : ¬ Ox a b i=0):SQ a b=Ox a b i:=by
 unfold Ox at c ⊢;unfold SQ;by_cases e:i=0
 ·rw[d_ e]at c ⊢; rw[b_ c]
 rw[b_ e]
 rcases d with h|h
 ·exact N_ h e
 rw[d_ h]
theorem arz(h:i<2\/SQ a b=0)(c : ¬ (i:Int)<2):SQ a b=0:=by
 rcases h with h|h
 ·omega
 exact h
end
theorem agm(x y:Ki):SQ (Fx.kr (x.x 0) (y.x 0)) (Fx.kr (x.x 1) (y.x 1))=Fx.kr (Mq x) (Mq y):=by
 have a:=x.h;have b:=y.h;unfold SQ Fx.kr Mq
 repeat' split
 all_goals first|rfl|omega
structure R6(n:Nat)(S:Nat->Bool)(il:List Nat):Prop where
 nd:il.Nodup
 mem : ∀ i,i∈il<->(i<n/\S i=true)
theorem R6.start(n:Nat):R6 n (fun _=>false) []:=⟨List.nodup_nil,fun i=>⟨fun h=>(nomatch h),fun h=>(nomatch h.2)⟩⟩
theorem R6.step{n i:Nat}{S:Nat->Bool}{c:List Nat}(h:R6 n S c)(hi:i<n)(l:S i=false):R6 n (Fx.aO S i true) (c ++ [i]):=by
 have k:i ∉ c:=fun g=>by have:=((h.mem i).1 g).2; rw[l]at this; cases this
 refine⟨List.nodup_append.2 ⟨h.nd,by simp,fun a f b d e => ?_⟩,fun j => ?_⟩
 ·rw[List.mem_singleton]at d; subst d; subst e; exact k f
 rw[List.mem_append,List.mem_singleton,h.mem];show _<->(j<n/\(if j=i then true else S j)=true);by_cases e:j=i
 ·subst e; rw[d_ rfl]; exact⟨fun _=>⟨hi,rfl⟩,fun _ => .inr rfl⟩
 rw[b_ e]; exact⟨fun h=>h.elim id fun h=>N_ h e,fun h => .inl h⟩
theorem R6.len{n:Nat}{S:Nat->Bool}{c:List Nat}(h:R6 n S c):c.length<=n :=
 Du n c.length (fun q=>c.getD q 0) (fun q d=>by
  have:c.getD q 0∈c:=by rw[r_,o_ d]; exact R_ d
  exact((h.mem _).1 this).1) fun a b f g e=>by
  have e:c.getD a 0=c.getD b 0:=e;rw[r_,r_,o_ f,o_ g]at e;exact(List.getElem_inj h.nd).1 e
structure GrS(m:dP)(l:List Ki):Prop where
 mem : ∀ x,x∈l -> ∃ i,i<m.gn/\x.x=m.g i
 all : ∀ i,i<m.gn -> ∃ x,x∈l/\x.x=m.g i
 up:l.Pairwise fun x y=>Mq x<Mq y
theorem GrS.of{m:dP}{w:World}{b:Nat}{t:List Nat}{l:List Ki}{S:Nat->Bool}(o:Fx.iI w b m.gn (fun i=>m.g i 0) (fun i=>m.g i 1) (vg m.g))(hi:R6 m.gn S t)(z : ∀ i,i<m.gn->S i=true)(r:l.Perm (t.map fun i=>Kz (m.g i)))(B:l.Pairwise fun x y=>Mq x<=Mq y):GrS m l:=by
 have k : ∀ i,i<m.gn->(Kz (m.g i)).x=m.g i:=fun i hi=>aco (o.ok hi).b;have f : ∀ i,i∈t<->i<m.gn:=fun i=>by rw[hi.mem]; exact⟨fun h=>h.1,fun h=>⟨h,z i h⟩⟩
 have p : ∀ x,x∈l -> ∃ i,i<m.gn/\x=Kz (m.g i):=fun x s=>by
  obtain⟨i,c,d⟩:=List.mem_map.1 (r.mem_iff.1 s);exact⟨i,(f i).1 c,d.symm⟩
 have A:l.Nodup:=by
  rw[r.nodup_iff,List.nodup_iff_pairwise_ne,List.pairwise_map];refine(List.nodup_iff_pairwise_ne.1 hi.nd).imp_of_mem fun {a b} ha hb q e=>q ?_;have c:=M_ Ki.x e;rw[k a ((f a).1 ha),k b ((f b).1 hb)]at c;exact o.inj a b ((f a).1 ha) ((f b).1 hb) (by show m.g a 0=m.g b 0; rw[c]) (by show m.g a 1=m.g b 1; rw[c])
 refine⟨fun x s => ?_,fun i c => ?_,?_⟩
 ·obtain⟨i,c,d⟩:=p x s;exact⟨i,c,by rw[d,k i c]⟩
 ·exact⟨Kz (m.g i),r.mem_iff.2 (List.mem_map.2 ⟨i,(f i).2 c,rfl⟩),k i c⟩
 refine(B.and (List.nodup_iff_pairwise_ne.1 A)).imp_of_mem fun {a b} ha hb h => ?_;obtain⟨i,c,u⟩:=p a ha;obtain⟨j,d,v⟩:=p b hb;have q:=h.2
 rcases Int.lt_or_eq_of_le h.1 with h3|h3
 ·exact h3
 exfalso;have C:=a.h;have D:=b.h;unfold Mq at h3;refine q ?_;have n:a.x 0=b.x 0/\a.x 1=b.x 1:=by omega
 rw[u,v,k i c,k j d]at n;have:=o.inj i j c d n.1 n.2;rw[u,v,this]
def Xu(m:dP)(l:List Int)(k:Nat):Nat->Value:=mW (l.getD k 0) (m.T.par (l.getD k 0)) (Ec m (l.getD k 0))
def Yo(l:List Ki)(k:Nat):Nat->Value:=jf (l.getD k g0).x
theorem Mr{id par:Int}{R:Nat->Int}{z:Nat->Value} : ∀ j,j<56->Fx.bG (Fx.bG (Fx.bG z 0 1 (fun _ => .int .u64 id)) 1 1 (fun _ => .int .u64 par)) 2 54 (Fx.rv .i64 R) j=mW id par R j:=fun j a=>by
 unfold Fx.bG mW
 rcases(show j=0\/j=1\/2<=j by omega)with rfl|rfl|h
 ·rfl
 ·rfl
 ·rw[d_ (by omega),b_ (by omega),b_ (by omega)]; rfl
theorem aal{m:dP}{l:List Int}{n:Nat}{id par:Int}{R:Nat->Int}{z z2:Nat->Value}(b:l.getD n 0=id)(c:m.T.par id=par)(d:Ec m id=R) : ∀ j,j<(n+1)*56->Fx.iJ (Fx.flat 56 (Xu m l)) (n*56) (Fx.bG z (0*56) 56 (Fx.bG (Fx.bG (Fx.bG z2 0 1 (fun _ => .int .u64 id)) 1 1 (fun _ => .int .u64 par)) 2 54 (Fx.rv .i64 R))) j=Fx.flat 56 (Xu m l) j:=fun j a =>
 (Fx.yQ j a).trans (Fx.bK (fun k _ q f=>by
  unfold Fx.rY;by_cases e:k=n
  ·subst e; rw[d_ rfl,Mr q f]; unfold Xu; rw[b,c,d]
  ·rw[b_ e]) j a)
theorem aam{g:Nat->Nat->Int}{a:List Nat}{i:Nat}{z:Nat->Value} : ∀ j,j<(a.length+1)*5->Fx.iJ (Fx.flat 5 fun k=>jf (g (a.getD k 0))) (a.length*5) (Fx.bG z (0*5) 5 (jf (g i))) j=Fx.flat 5 (fun k=>jf (g ((a ++ [i]).getD k 0))) j:=fun j b =>
 (Fx.yQ j b).trans (Fx.bK (fun k c q _=>by
  unfold Fx.rY;by_cases e:k=a.length
  ·subst e; rw[d_ rfl]; simp[r_]
  ·rw[b_ e]; show jf (g (a.getD k 0)) q=_; rw[r_,r_,List.getElem?_append_left (by omega)]) j b)
theorem aan{m:dP}{a:List Nat}{S:Nat->Bool}{w:World}{b:Nat}(d:Fx.iI w b m.gn (fun i=>m.g i 0) (fun i=>m.g i 1) (vg m.g))(hi:R6 m.gn S a) : ∀ j,j<(a.map fun i=>Kz (m.g i)).length*5->Fx.flat 5 (fun k=>jf (m.g (a.getD k 0))) j=Fx.flat 5 (Yo (a.map fun i=>Kz (m.g i))) j:=fun j f =>
 Fx.bK (n:=(a.map fun i=>Kz (m.g i)).length) (fun k c q _=>by
  rw[List.length_map]at c;unfold Yo;have h:a.getD k 0∈a:=by rw[r_,o_ c]; exact R_ c
  have e:((a.map fun i=>Kz (m.g i)).getD k g0)=Kz (m.g (a.getD k 0)):=by
   rw[r_,r_,o_ (by rw[List.length_map]; exact c),o_ c,List.getElem_map]; rfl
  rw[e,aco (d.ok ((hi.mem _).1 h).1).b]) j f
theorem R7(s:FQ)(a:Option Addr)(n c:Nat):Fx.dJ (rF s) 18 (.slice a n c)=rF { s with na:=a,nn:=n,nc:=c }:=by
 funext p
 unfold Fx.dJ rF;by_cases e:p=18
 ·subst e; rw[d_ rfl,b_ (by omega),b_ (by omega),b_ (by omega),d_ rfl]
 rw[b_ e]
 repeat' split
 all_goals first|rfl|omega
theorem Oy(s:FQ)(a:Option Addr)(n c:Nat) : ∀ p,p<20->Fx.dJ (rF s) 19 (.slice a n c) p=rF { s with ga:=a,gn:=n,gc:=c } p:=fun p b=>by
 unfold Fx.dJ rF;by_cases e:p=19
 ·subst e; rw[d_ rfl,b_ (by omega),b_ (by omega),b_ (by omega),b_ (by omega)]
 ·rw[b_ e]
  repeat' split
  all_goals first|rfl|omega
def Xv(m:dP)(d:Option Addr)(f e:Nat)(a:Option Addr)(c b:Nat):FQ:=⟨m.inn,m.left,m.known,d,f,e,a,c,b⟩
theorem aao{id par:Int}{R:Nat->Int}{z z2:Nat->Value} : ∀ j,j<1*56->(Fx.bG z (0*56) 56 (Fx.bG (Fx.bG (Fx.bG z2 0 1 (fun _ => .int .u64 id)) 1 1 (fun _ => .int .u64 par)) 2 54 (Fx.rv .i64 R)) j).oneCell'=true:=fun j a=>by
 rw[show Fx.bG z (0*56) 56 (Fx.bG (Fx.bG (Fx.bG z2 0 1 (fun _ => .int .u64 id)) 1 1 (fun _ => .int .u64 par)) 2 54 (Fx.rv .i64 R)) j=Fx.bG (Fx.bG (Fx.bG z2 0 1 (fun _ => .int .u64 id)) 1 1 (fun _ => .int .u64 par)) 2 54 (Fx.rv .i64 R) (j-0*56) by unfold Fx.bG; rw[d_ (by omega)],Mr _ (by omega)];exact wh _ _ _ _
theorem aap{x:Nat->Int}{z:Nat->Value} : ∀ j,j<1*5->(Fx.bG z (0*5) 5 (jf x) j).oneCell'=true:=fun j a=>by
 unfold Fx.bG; rw[d_ (by omega)]; exact sD x _
theorem agn{m:dP}{c:List Nat}{S:Nat->Bool}{w f:World}{b B cap d:Nat}{a:Option Addr}{T:TypeId}(l:Fx.iI w b m.gn (fun i=>m.g i 0) (fun i=>m.g i 1) (vg m.g))(hi:R6 m.gn S c)(e:d=c.length)(n:Fx.Own f B T 5 (.slice a d cap) d (Fx.flat 5 fun k=>jf (m.g (c.getD k 0)))) :
 Fx.Own f B T 5 (.slice a (c.map fun i=>Kz (m.g i)).length cap) (c.map fun i=>Kz (m.g i)).length (Fx.flat 5 (Yo (c.map fun i=>Kz (m.g i)))):=by
 have h:=n.congr (y:=Fx.flat 5 (Yo (c.map fun i=>Kz (m.g i)))) (fun j o=>aan l hi j (by rw[List.length_map,<- e]; exact o));rw[List.length_map,<- e]; exact h
theorem Xw(m:dP){z:Nat->Value}(e : ∀ j,18<=j->z j = .slice none 0 0){x1 x2:Nat->Value}(h1 : ∀ j,j<6->x1 j = .bool (m.inn j))(d : ∀ j,j<6->x2 j = .bool (m.left j)) : ∀ j,j<20->Fx.bG (Fx.bG (Fx.bG z 0 6 x1) 6 6 x2) 12 6 (Fx.rv .u64 m.known) j=rF (Xv m none 0 0 none 0 0) j:=fun j f=>by
 unfold Fx.bG rF;by_cases a:j<6
 ·rw[b_ (by omega),b_ (by omega),d_ (by omega),d_ a]; exact h1 _ (by omega)
 ·by_cases b:j<12
  ·rw[b_ (by omega),d_ (by omega),b_ a,d_ b]; exact d _ (by omega)
  ·by_cases c:j<18
   ·rw[d_ (by omega),b_ a,b_ b,d_ c]; rfl
   ·rw[b_ (by omega),b_ (by omega),b_ (by omega),b_ a,b_ b,b_ c,e j (by omega)];split <;> rfl
end Rt
structure StQ(w:World)(B:Nat)(m:dP)(s:FQ)(l:List Int)(gl:List Ki):Prop where
 inn:s.inn=m.inn
 left:s.left=m.left
 known:s.known=m.known
 nn:s.nn=l.length
 gn:s.gn=gl.length
 ls:l.Pairwise (· < ·) /\ ∀ k,k∈l<->m.T.has k=true
 len:l.length<=32
 gs:GrS m gl
 glb:gl.length<=m.gn
 n:Fx.Own w B 84 56 (.slice s.na s.nn s.nc) s.nn (Fx.flat 56 (Xu m l))
 g:Fx.Own w B 106 5 (.slice s.ga s.gn s.gc) s.gn (Fx.flat 5 (Yo gl))
end Go.Proofs.YtcbedgfikejkoaaGreatDoor
namespace Go.Proofs.YtcbedgfikejkoaaGreatDoor
open Go.RowKit Rt
open Fx (bf Lv sN Ln Ws Wl Rp Wr Wk rV sR Rs Rn Rd Wb Wx Wo DW Wt yP zB BL qL fP zC uf vN wT zA Ad rv aA aQ bG aO aL flat Mp aS iI iU bE kr bJ cells_one jg bA unseen bL bU cZ dh gZ iH qm)
theorem Qi(n:Int)(w:World) :
 Calls Tryz.prog 88 #[au n] w fun e w'=>e = .returned (.bool false)/\w'=w:=by
 refine Kent Tryz.func88 6 ?_;refine ay<|av aF<|aD<|ay<|av (au n)<|av (au n)<|Lv aF (jR rfl)<|av aF<|aD<|Wr<|aJ aF ?_;exact⟨rfl,rfl⟩
theorem aaq(a b:Int)(w:World) :
 Calls Tryz.prog 50 #[au a,au b] w fun e w'=>e = .returned (au (kr a b))/\w'=w:=by
 refine Kent Tryz.func50 20 ?_;refine ay<|av (au 0)<|aD<|ay<|av (au a)<|lX (Qi a _) _ rfl<|av aF<|aD<|ay<|av (au b)<|lX (Qi b _) _ rfl<|av aF<|aD<|Ws<|ay<|av aF<|aD<|aK<|Wk<|sN<|Ws<|ay<|av aF<|aD<|aK<|Wk<|sN<|Ws<|ay<|av (au a)<|av (au b) ?_;by_cases c:a<b
 ·refine Lv aG (iD c)<|aD<|aN<|ay<|av (au (-1))<|aD<|Wr<|sR<|aJ (au (-1)) ?_;exact⟨by unfold kr; simp[c],rfl⟩
 refine Lv aF (iE c)<|aD<|aK<|Wk<|sN<|Ws<|ay<|av (au a)<|av (au b) ?_;by_cases d:b<a
 ·refine Lv aG (nA d)<|aD<|aN<|ay<|av (au 1)<|aD<|Wr<|sR<|aJ (au 1) ?_;exact⟨by unfold kr; simp[c,d],rfl⟩
 refine Lv aF (nC d)<|aD<|aK<|Wk<|sN<|ay<|av (au 0)<|aD<|Wr<|aJ (au 0) ?_;exact⟨by unfold kr; simp[c,d],rfl⟩
theorem Qj(n:Int)(w:World) :
 Calls Tryz.prog 89 #[aC n] w fun e w'=>e = .returned (.bool false)/\w'=w:=by
 refine Kent Tryz.func89 6 ?_;refine ay<|av aF<|aD<|ay<|av (aC n)<|av (aC n)<|Lv aF (jR rfl)<|av aF<|aD<|Wr<|aJ aF ?_;exact⟨rfl,rfl⟩
theorem aar(a b:Int)(w:World) :
 Calls Tryz.prog 51 #[aC a,aC b] w fun e w'=>e = .returned (au (kr a b))/\w'=w:=by
 refine Kent Tryz.func51 20 ?_;refine ay<|av (au 0)<|aD<|ay<|av (aC a)<|lX (Qj a _) _ rfl<|av aF<|aD<|ay<|av (aC b)<|lX (Qj b _) _ rfl<|av aF<|aD<|Ws<|ay<|av aF<|aD<|aK<|Wk<|sN<|Ws<|ay<|av aF<|aD<|aK<|Wk<|sN<|Ws<|ay<|av (aC a)<|av (aC b) ?_;by_cases c:a<b
 ·refine Lv aG (iD c)<|aD<|aN<|ay<|av (au (-1))<|aD<|Wr<|sR<|aJ (au (-1)) ?_;exact⟨by unfold kr; simp[c],rfl⟩
 refine Lv aF (iE c)<|aD<|aK<|Wk<|sN<|Ws<|ay<|av (aC a)<|av (aC b) ?_;by_cases d:b<a
 ·refine Lv aG (nA d)<|aD<|aN<|ay<|av (au 1)<|aD<|Wr<|sR<|aJ (au 1) ?_;exact⟨by unfold kr; simp[c,d],rfl⟩
 refine Lv aF (nC d)<|aD<|aK<|Wk<|sN<|ay<|av (au 0)<|aD<|Wr<|aJ (au 0) ?_;exact⟨by unfold kr; simp[c,d],rfl⟩
theorem arA(a b:Int)(c:Nat)(w:World)(q:iU w c 0 2 (orW a b)) :
 Calls Tryz.prog 49 #[bM c 2 2] w fun e w'=>e = .returned (au (SQ a b))/\w'=w:=by
 refine Kent Tryz.func49 18 ?_;refine ay<|av (au 0)<|aD<|ay<|av (au 0)<|aD<|Ws<|ay<|av (bM c 2 2)<|av (au 2)<|av (au 0)<|aD<|Wb<|Wo (fun f p => ∃ i:Nat,i<=2/\(i=0\/a=0)/\(i<2\/SQ a b=0)/\p=w/\f 3=au 0/\f 6=bM c 2 2/\f 7=au 2/\f 8=au (i:Int)/\iU p c 0 2 (orW a b)) (fun f _=>(2-intOf (f 8)).toNat) ⟨0,(by omega),(.inl rfl),(.inl (by decide)),rfl,Fx.ic,(by rfl),Fx.ic,Fx.ic,q⟩ ?_;rintro s u ⟨i,t,m,r,l,j,n,k,g,o⟩;refine ay ?_;by_cases h:(i:Int)<2
 ·refine Lv aG (iD h (hx:=g) (hy:=k))<|aD<|Ws<|aN<|Wk<|sN<|Ws<|Wb<|ay<|Lv (pf c i) (dB 1 (hx:=n) (hi:=g))<|Lv (au (Ox a b i)) (aM o i)<|av (au (Ox a b i))<|aD<|ay<|av (au (Ox a b i))<|aU j ?_;by_cases d:(Ox a b i)=0
  ·refine Lv aF (jR d)<|aD<|aK<|Wk<|bU<|sN<|Wl<|Lv (au ((i:Int)+1)) (fH (hx:=g))<|av (au ((i:Int)+1))<|Ln<|iH ⟨i+1,(by omega),(arv m d),(arw m d),l,(j.trans Fx.ic),n,(k.trans Fx.ic),Fx.ic,o⟩ ?_;show(2-intOf (au ((i:Int)+1))).toNat<_;simp only[g,intOf]; omega
  refine Lv aG (kY d)<|aD<|aN<|ay<|av (au (Ox a b i))<|av (au (Ox a b i))<|aD<|Wr<|bL<|sR<|qm<|bL<|sR<|aJ (au (Ox a b i)) ?_;exact⟨by rw[arx m d],l⟩
 refine Lv aF (iE h (hx:=g) (hy:=k))<|aD<|Ws<|aK<|Wx<|cZ<|gZ<|dh<|sN<|ay<|aU j<|av (au 0)<|aD<|Wr<|aJ (au 0) ?_;exact⟨by rw[arz r h],l⟩
theorem Rt.agp{w:World}{g:Nat}{a b:Int}{z:Nat->Value}{T:TypeId}(h:aQ w g 2 (bG (bG z (0*1) 1 (fun _=>au a)) (1*1) 1 (fun _=>au b)) T):iU w g 0 2 (orW a b):=(h.congr (y:=orW a b) fun j c=>by
 rcases(show j=0\/j=1 by omega)with rfl|rfl <;> rfl).aH
theorem agq(x y:Ki)(w:World) :
 Calls Tryz.prog 48 #[.agg (aA 5 (jf x.x)),.agg (aA 5 (jf y.x))] w fun e w'=>e = .returned (au (kr (Mq x) (Mq y))) /\ ∃ q C,w'=Go.Sort.grow (w.drewN q) C:=by
 refine Kent Tryz.func48 17 ?_;refine ay<|Fx.L.ajJ (m:=5) (y:=jf x.x) (by rfl) rfl rfl (bJ _ _) rfl fun k U t d D H => ?_;have f:=bB D.old (Below.refl w.heap.size w);have K:=gN t;have R:=d.lt;refine Fx.L.ajJ (m:=5) (y:=jf y.x) (by rfl) rfl rfl (bJ _ _) rfl fun l V g n E I => ?_;have⟨B,p⟩:=fC E.old d f;have M:=iK g f.size;have O:=cO g d.lt;have S:=n.lt;refine av (au 0)<|aD<|Ws ?_;refine Fx.W.agl [0,2,5,7,1,3,6,8,4,9,10,11,12] [0,4,0,4,2,0,1,0,1,2,2,3,0] Fx.Mk uf Fx.Mk.trans (fJ := [(4,1,[1]),(9,1,[4,1]),(10,1,[4,1]),(11,1,[10,4,1]),(4,3,[3]),(9,3,[4,3]),(10,3,[4,3]),(11,3,[10,4,3]),(11,6,[9,6]),(11,8,[9,8]),(9,4,[4]),(10,4,[4]),(11,4,[10,4]),(12,4,[4]),(10,9,[9]),(11,9,[9]),(12,9,[9]),(11,10,[10]),(12,10,[10]),(12,11,[11])]) (by kernel_rfl) (by kernel_rfl) (by kernel_rfl) (by kernel_rfl) (by kernel_rfl) fun Y z A => ?_;have⟨a,b,r⟩:=iY z B n p;refine aY (pt k)<|aY (pt l)<|aY (pf k 1)<|aY (pf l 1)<|Rs (au (x.x 0)) (aM a.aH 0) ?_;refine Rs (au (y.x 0)) (aM b.aH 0) ?_;refine Rd (v:=aC (x.x 1)) (by rfl) (by rfl) (uf _) (fun G c=>bf (x:=jf x.x) rfl rfl (by kernel_rfl) (a.aH.below c (by have:=a.lt; omega)) (i:=1) (by omega) (by omega) rfl) ?_;refine Rd (v:=aC (y.x 1)) (by rfl) (by rfl) (uf _) (fun G c=>bf (x:=jf y.x) rfl rfl (by kernel_rfl) (b.aH.below c (by have:=b.lt; omega)) (i:=1) (by omega) (by omega) rfl) ?_;refine zG (lX (aaq (x.x 0) (y.x 0) _) _ rfl (Ln ⟨Below.refl _ _,?_⟩));refine zG (lX (aar (x.x 1) (y.x 1) _) _ rfl (Ln ⟨Below.refl _ _,?_⟩));refine zG<|Fx.L.aak (vs := [(0,au (kr (x.x 0) (y.x 0))),(1,au (kr (x.x 1) (y.x 1)))]) (s:=1) (zc:=rv .i64 (fun _=>0)) (y:=bG (bG (fun j=>(rv .i64 (fun _=>0)) (j % 1)) (0*1) 1 (fun _=>au (kr (x.x 0) (y.x 0)))) (1*1) 1 (fun _=>au (kr (x.x 1) (y.x 1)))) (by rfl) rfl rfl Tryz.underlying90 (by kernel_rfl) (by rfl) (by rfl) (by kernel_rfl) (by rw[bE (off:=0*1) (s:=1) (y:=fun _=>au (kr (x.x 0) (y.x 0))) rfl (cells_one (by rfl)) (by rfl)]; rw[bE (off:=1*1) (s:=1) (y:=fun _=>au (kr (x.x 1) (y.x 1))) rfl (cells_one (by rfl)) (by rfl)]; rfl) rfl fun u X h o F J => ?_;have N:=iK h r.size;have⟨P,Q⟩:=rD h a.lt b.lt;have T:=o.lt;refine Ln ⟨F.old,?_⟩;refine gQ<|lX (arA (kr (x.x 0) (y.x 0)) (kr (x.x 1) (y.x 1)) u _ (agp o)) _ rfl<|Ln<|aY (au (SQ (kr (x.x 0) (y.x 0)) (kr (x.x 1) (y.x 1))))<|bT<|Wr<|aJ (au (SQ (kr (x.x 0) (y.x 0)) (kr (x.x 1) (y.x 1)))) ?_;exact⟨by rw[<- agm],(((((Fx.GrX.refl w).alloc H).alloc I).drew A).alloc J)⟩
theorem agr{w:World}{B cap:Nat}{a:Option Addr}{l:List Ki}(h:Fx.Own w B 106 5 (.slice a l.length cap) l.length (flat 5 (Yo l)))(g:l.length<=1000000) :
 Calls Tryz.prog 47 #[.slice a l.length cap,.func (.func 48) #[] #[]] w fun e w'=>e = .returned (.tuple #[]) /\ ∃ b:List Ki,b.Perm l/\b.Pairwise (fun x y=>Mq x<=Mq y)/\Fx.Own w' B 106 5 (.slice a l.length cap) l.length (flat 5 (Yo b))/\(∀ k,k<w.heap.size->(Value.slice a l.length cap).ownBlock≠some k->w'.heap[k]? = w.heap[k]?)/\jg [106] w w'/\Below B w w':=by
 have d:Fx.Own w B 106 5 (.slice a l.length cap) l.length (flat 5 fun q=>(fun x:Ki=>jf x.x) (l.getD q g0)):=h
 have:=Fx.Xt ajI (fun c w=>enters_of Tryz.func48 (by kernel_rfl) rfl c w) (by decide) Tryz.isAgg106 Tryz.sizeOf106 (enc:=fun x:Ki=>jf x.x) (e0:=g0) (ky:=Mq) (fun x j _=>sD x.x j) d
  (by intro f x y; refine(agq x y f).mono fun e w' h => ?_; exact h) (by omega)
 exact this
theorem aas{m:dP}{d:List Nat}{S:Nat->Bool}{o w:World}{b B cap c:Nat}{a:Option Addr}(l:iI o b m.gn (fun i=>m.g i 0) (fun i=>m.g i 1) (vg m.g))(hi:R6 m.gn S d)(e:c=d.length)(n:Fx.Own w B 106 5 (.slice a c cap) c (flat 5 fun k=>jf (m.g (d.getD k 0))))(p:c<=1000000) :
 Calls Tryz.prog 47 #[.slice a c cap,.func (.func 48) #[] #[]] w fun e w'=>e = .returned (.tuple #[]) /\ ∃ f:List Ki,f.Perm (d.map fun i=>Kz (m.g i))/\f.Pairwise (fun x y=>Mq x<=Mq y)/\Fx.Own w' B 106 5 (.slice a c cap) c (flat 5 (Yo f))/\(∀ k,k<w.heap.size->(Value.slice a c cap).ownBlock≠some k->w'.heap[k]? = w.heap[k]?)/\jg [106] w w'/\Below B w w':=by
 have h:(d.map fun i=>Kz (m.g i)).length=c:=by rw[List.length_map]; exact e.symm
 have j:=agr (agn l hi e n) (by rw[h]; omega);rw[h]at j;exact j
set_option maxHeartbeats 1000000 in
theorem aat(m:dP)(lp B:Nat)(w:World)(h:lS w B lp m)(hgn:m.gn<=900000) :
 Calls Tryz.prog 18 #[(pt lp)] w fun e w' => ∃ s l gl,e = .returned (.agg (aA 20 (rF s)))/\StQ w' w.heap.size m s l gl/\Below w.heap.size w w':=by
 have hC:=h.c;have hT:=h.t;have hP:=h.p;have hR:=h.r;have hG:=h.g;have hA:=h.a;have hN:=h.ne;have lC:=h.c.lt;have lT:=h.t.lt;have lP:=h.p.lt;have lR:=h.r.lt;have lG:=h.g.lt;have lA:=h.a.lt;refine Kent Tryz.func18 72 ?_;refine ay<|BL (m:=20) (y:=fun d=>if d<12 then .bool false else if d<18 then aC 0 else .slice none 0 0) (by rfl) rfl (by kernel_rfl) rfl fun C w1 ku m1 s1 z1 => ?_;have⟨m2,m3,m4,m5,m6,m7,b1⟩:=jJ s1.old hC hT hP hR hG hA (Below.refl w.heap.size w);have tC:=gN ku;have⟨nK,zm,yx,Co,AL⟩:=Ag ku hC.lt hP.lt hR.lt hG.lt hA.lt;have uK:=m1.lt;refine aD<|Ws<|ay<|av (pt lp)<|Lv aF (Fx.lW rfl rfl rfl (by kernel_rfl))<|aD<|aK<|Wk<|sN<|Ws ?_;refine Wt 13 (by kernel_rfl) (by kernel_rfl) fun qU dU iC => ?_;have⟨m8,m9,m10,m11,m12,m13,m14,b2⟩:=mO dU m2 m3 m4 m5 m6 m7 m1 b1;refine Fy (pt lp)<|Fy (pt lp)<|Fy (pt lp)<|qL (.agg (aA 6 (fun j => .bool (m.inn j)))) (fM m8.aH 0 (fun j I=>by rw[H_]; exact Dq I))<|Fy (pt lp)<|Fy (pt lp)<|Fy (pf lp 6)<|qL (.agg (aA 6 (fun j => .bool (m.left j)))) (fM m8.aH 6 (fun j I=>Cm (p:=j) I (by omega)))<|Fy (pt lp)<|Fy (pt lp)<|Fy (pf lp 12)<|qL (.agg (aA 6 (rv .u64 m.known))) (fM m8.aH 12 (fun j I=>sP (p:=j) (by omega) (by omega)))<|Fy (.agg (aA 20 (bG (bG (bG zP0 0 6 (fun j => .bool (m.inn j))) 6 6 (fun j => .bool (m.left j))) 12 6 (rv .u64 m.known))))<|Fx.St.nil ?_;refine dM m14 0 (h1:=(bA (bA (bA (fun jq _=>by show(zP0 jq).oneCell'=true; simp only[zP0]; repeat (first|rfl|split)) (fun _ _=>rfl)) (fun _ _=>rfl)) (fun _ _=>rfl))) fun U m15 s3 z2 => ?_
 have m16:aQ U C 20 (bG (bG (bG zP0 0 6 (fun j => .bool (m.inn j))) 6 6 (fun j => .bool (m.left j))) 12 6 (rv .u64 m.known)) 50:=aL m15;have m17:aQ U C 20 (rF (Xv m none 0 0 none 0 0)) 50:=m16.congr (Xw m (fun j I=>by show(if j<12 then _ else if j<18 then _ else _)=_; rw[b_ (by omega),b_ (by omega)]) (fun _ _=>rfl) (fun _ _=>rfl));have gF:=fP s3 m14.ty;have⟨m18,m19,m20,m21,m22,m23⟩:=TF gF m8 m9 m10 m11 m12 m13;have b3:=s3.below b2 b2.size (by omega);refine aD<|Ws<|ay<|av (pt lp)<|av (pt lp)<|av (pf lp 18)<|Lv (pt m.tp) (aM m18.aH 18)<|kF (UR m19) ?_;rintro e9 w3 ⟨la1,M,b,he,m24,hq1,ajx,hb1⟩;refine⟨_,he,?_⟩;clear he;have⟨nW,oN,pU,pV,nX,ou,lu,b4⟩:=mO hb1 m18 m19 m20 m21 m22 m23 m17 b3;refine av (au b.length)<|av (au 0)<|aD<|Wb ?_;have m32:Fx.Own w3 w.heap.size 84 56 (.slice none 0 0) 0 (flat 56 (Xu m b)):=wT _ _ _ _ _;have kll:=ajx;refine Wo (fun f u => ∃ i:Nat,∃ D:Option Addr,∃ E:Nat,i<=b.length/\f 0=(pt lp)/\f 2=(pt C)/\f 27 = .slice la1 (b.length) (M)/\f 28=au (b.length:Int)/\f 29=au (i:Int)/\aQ u lp 29 (wD m) 114/\tH u B m.tp m.mb m.T/\Mp u m.pb m.T.n m.T.x (EB m.T)/\Mp u m.rb m.T.n m.T.x (xQ m.R)/\iI u m.gb m.gn (fun i=>m.g i 0) (fun i=>m.g i 1) (vg m.g)/\iI u m.ab m.an m.ao m.ar EC/\Fx.Own u U.heap.size 23 1 (.slice la1 (b.length) (M)) b.length (yK b)/\aQ u C 20 (rF (Xv m D i E none 0 0)) 50/\Fx.Own u w.heap.size 84 56 (.slice D (i) (E)) i (flat 56 (Xu m b))/\Below w.heap.size w u) (fun f _=>((b.length:Int)-intOf (f 29)).toNat) ⟨0,none,0,(by omega),(by rfl),(by rfl),(by rfl),Fx.ic,Fx.ic,nW,oN,pU,pV,nX,ou,m24,lu,m32,b4⟩ ?_;rintro f1 w4 ⟨i,D,E,hi,O,h2,h3,h4,P,oQ,nL,oO,nT,qV,qB,pE,sJ,mK,b5⟩;refine ay ?_;by_cases c30:(i:Int)<(b.length:Int)
 ·refine Lv aG (iD c30 (hx:=P) (hy:=h4))<|aD<|Ws<|aN<|Wk<|sN<|Ws<|Wb<|ay ?_;obtain⟨DZ,eq1⟩:=pE.addr (by omega);have ni:Fx.Own w4 U.heap.size 23 1 (bM DZ b.length M) b.length (yK b):=pE.fu (M_ (fun q=>Value.slice q b.length M) eq1);refine Lv (pf DZ i) (dB 1 (hx:=(h3.trans (M_ (fun q=>Value.slice q (b.length) (M)) eq1))) (hi:=P))<|Lv (aC (b.getD i 0)) (aM ni.aH i)<|av (aC (b.getD i 0))<|aD ?_;obtain⟨H,hjz,Z⟩:=ig ((hq1.2 _).1 (vS (show i<b.length by omega) rfl));have ejx:Ec m (b.getD i 0)=m.R H:=by unfold Ec dP.idx; rw[nu h.t.inv.inj hjz Z]
  have ejp:m.T.par (b.getD i 0)=m.T.p H:=BP h.t.inv.inj hjz Z;refine Ad [0,2,3,4,5,7,9,10,11,13,1,6,8,12,14,15,16,17,18,19] [0,1,0,0,0,0,4,0,4,0,0,0,4,0,4,0,2,2,0,3] (jg [84]) vN Fx.jg.trans (fJ := [(19,1,[1]),(16,6,[15,8,6]),(17,6,[16,15,8,6]),(19,6,[6]),(16,8,[15,8]),(17,8,[16,15,8]),(19,8,[8]),(16,12,[15,14,12]),(17,12,[16,15,14,12]),(19,12,[12]),(16,14,[15,14]),(17,14,[16,15,14]),(19,14,[14]),(17,16,[16]),(18,16,[16]),(19,16,[16]),(18,17,[17]),(19,17,[17])]) (by kernel_rfl) (by kernel_rfl) (by kernel_rfl) (by kernel_rfl) (by kernel_rfl) fun BS fZ mQ => ?_;have⟨mR,qw,qW,ow,sK,vE,sM,rQ,uM,b6⟩:=vO fZ oQ nL oO nT qV qB sJ mK ni b5;refine Rp (pf C 18) (fun _=>jo h2 18)<|aY (aC (b.getD i 0))<|bX O<|aY (pt lp)<|aY (pf lp 19)<|aY (aC (b.getD i 0))<|bX O<|aY (pt lp)<|aY (pf lp 20)<|aY (aC (b.getD i 0))<|Rd (v := .slice D (i) (E)) (by rfl) (by rfl) (vN _) (fun v1 hv1=>bf (x:=rF (Xv m D i E none 0 0)) rfl rfl (by kernel_rfl) (sM.kV hv1 (by decide)).aH (i:=18) (by omega) (by omega) rfl) ?_;refine Rs (.map (some m.pb)) (aM mR.aH 19) ?_;refine Rs (aC (m.T.p H)) (Fx.wW (z:=aC 0) rfl rfl rfl qW Tryz.underlying108 Tryz.underlying23 (by rfl) hjz Z rfl) ?_;refine Rs (.map (some m.rb)) (aM mR.aH 20) ?_;refine Rs (.agg (aA 54 (rv .i64 (m.R H)))) (Fx.wW (z := .agg (aA 54 (rv .i64 (fun _=>0)))) rfl rfl rfl ow Tryz.underlying109 Tryz.underlying23 (by kernel_rfl) hjz Z rfl) ?_;refine aY (.agg (aA 56 (bG (bG (bG zK0 0 1 (fun _=>aC (b.getD i 0))) 1 1 (fun _=>aC (m.T.p H))) 2 54 (rv .i64 (m.R H)))))<|zG<|yP (vs := [(0,.agg (aA 56 (bG (bG (bG zK0 0 1 (fun _=>aC (b.getD i 0))) 1 1 (fun _=>aC (m.T.p H))) 2 54 (rv .i64 (m.R H)))))]) (s:=56) (zc:=fun d=>if d<2 then aC 0 else au 0) (y:=bG (fun j=>zK0 (j % 56)) (0*56) 56 (bG (bG (bG zK0 0 1 (fun _=>aC (b.getD i 0))) 1 1 (fun _=>aC (m.T.p H))) 2 54 (rv .i64 (m.R H)))) (by rfl) rfl rfl Tryz.underlying47 (by kernel_rfl) (by rfl) (by rfl) (by kernel_rfl) (by rw[bE (off:=0*56) (s:=56) (y:=bG (bG (bG zK0 0 1 (fun _=>aC (b.getD i 0))) 1 1 (fun _=>aC (m.T.p H))) 2 54 (rv .i64 (m.R H))) rfl (bJ _ _) (by rfl)]; rfl) rfl fun g2 w5 X uw s6 z3 => ?_;have⟨ug,uW,xk,uh,rR,sw,vU,rE,uj,b7⟩:=vO s6.old mR qw qW ow sK vE sM rQ uM b6;have qX:=iK X b6.size;have⟨arB,aeQ,aeR,arC,arD,aeS⟩:=G9 X mR.lt qW.lt ow.lt sK.lt vE.lt sM.lt;have arE:(.slice D (i) (E):Value).ownBlock≠some g2:=by rw[X]; exact rQ.kM (A_ _)
  have arF:=cO X uM.lt;have zM:=uw.lt;refine Ln ⟨Fx.jg.of_below s6.old,?_⟩;refine zG<|zB (B:=w.heap.size) (s:=56) (bytes:=448) (k:=i) (m:=1) (v := .slice D (i) (E)) (x:=flat 56 (Xu m b)) (by rfl) rfl rfl rfl Tryz.underlying47 (by kernel_rfl) (by kernel_rfl) rfl rfl rE uw.aH aao (by omega) (by omega) (by omega) b7.size fun g3 V w6 ho1 hg1 xg hlt1 => ?_;have jT:=zC hg1 rE;have⟨uy,m64,xq,wI,vF,yt,sO,vG⟩:=adf jT ug uW xk uh rR sw vU uj;have nY:Fx.Own w6 w.heap.size 84 56 (bM g3 (i+1) V) (i+1) (flat 56 (Xu m b)):=(ho1.congr (fun j I=>aal rfl ejp ejx j I));have b8:Below w.heap.size w w6:=zA b7 hg1 b7.size (fun q hq=>(rE.ge hq).1);refine Ln ⟨jT,?_⟩;refine Rp (pf C 18) (fun _=>jo h2 18)<|gQ<|ji sO 18 (bM g3 (i+1) V) fun w7 uN s7 z4 => ?_;have vH:aQ w7 C 20 (rF (Xv m (some ⟨g3,0,none⟩) (i+1) V none 0 0)) 50:=uN.to (R7 _ _ _ _);have oq:=fP s7 sO.ty;have⟨vI,yL,wJ,yV,yX,yM,wK,vV⟩:=adf oq uy m64 xq wI vF yt vG nY;have b9:=s7.below b8 b8.size (by omega);refine Ln<|Rn<|bU<|sN<|Wl<|Lv (au ((i:Int)+1)) (fH (hx:=P))<|av (au ((i:Int)+1))<|Ln ?_;have vJ:Fx.Own w7 U.heap.size 23 1 (.slice la1 (b.length) (M)) b.length (yK b):=wK.fu (M_ (fun q=>Value.slice q b.length M) eq1.symm)
  skip
  refine iH ⟨i+1,(some ⟨g3,0,none⟩),V,(by omega),O,h2,h3,(h4.trans Fx.ic),Fx.ic,vI,yL,wJ,yV,yX,yM,vJ,vH,vV,b9⟩ ?_;show((b.length:Int)-intOf (au ((i:Int)+1))).toNat<_;simp only[P,intOf]; omega
 refine Lv aF (iE c30 (hx:=P) (hy:=h4))<|aD<|Ws<|aK<|Wx<|cZ<|gZ<|dh<|sN<|Ws<|ay<|aU O<|av (pt lp)<|av (pf lp 27)<|Lv (.map (some m.gb)) (aM oQ.aH 27)<|Fx.L.adj (by rfl) rfl rfl rfl qV Tryz.underlying111 fun g4 w8 CU yu s8 z5 => ?_;have⟨AB,Aj,Er,b10⟩:=jW s8.old qV sJ mK b5;have NT:=iK CU b5.size;have M9:=yu.lt;refine aD<|Wb ?_;have C9:Fx.Own w8 w.heap.size 106 5 (.slice none 0 0) 0 (flat 5 (fun k=>jf (m.g (([]:List Nat).getD k 0)))):=wT _ _ _ _ _;refine DW (fun kE f u => ∃ S:Nat->Bool,∃ kk:Nat,∃ J:List Nat,∃ o:Nat,∃ F:Option Addr,∃ G:Nat,kk=unseen S m.gn/\kk=kE/\R6 m.gn S J/\o=J.length/\f 2=(pt C)/\f 57=(pt g4)/\iI u m.gb m.gn (fun i=>m.g i 0) (fun i=>m.g i 1) (vg m.g)/\Fx.Own u w.heap.size 84 56 (.slice D (i) (E)) i (flat 56 (Xu m b))/\aQ u C 20 (rF (Xv m D i E F o G)) 50/\Fx.Own u w.heap.size 106 5 (.slice F (o) (G)) o (flat 5 (fun k=>jf (m.g (J.getD k 0))))/\Fx.It u g4 m.gb m.gn S/\Below w.heap.size w u) (unseen (fun _=>false) m.gn) ⟨(fun _=>false),(unseen (fun _=>false) m.gn),[],0,none,0,rfl,rfl,(R6.start _),rfl,h2,(by rfl),AB,Er,Aj,C9,yu,b10⟩ ?_;rintro kE f2 w9 ⟨S,kk,J,o,F,G,hkk,hkE,Q,hgl,K,h7,Cc,CF,Al,ES,Ev,b11⟩;refine ay<|Fx.L.ahE (by rfl) rfl rfl h7 Cc Ev (fun tF => ?_)<|fun A su hi1 hS1 ET mc1 s9 z6 => ?_
 ·skip
  refine av aF<|aD<|Ws<|aK<|Wx<|cZ<|gZ<|dh<|sN<|Ws ?_;have eL:(J.map fun i=>Kz (m.g i)).length=o:=by rw[List.length_map]; exact hgl.symm
  have arG:=Q.len;refine Wl<|Lv (pf C 19) (jo K 19)<|Lv (.slice F (o) (G)) (aM Al.aH 19)<|dX (aas h.g Q hgl ES (by omega)) _ rfl ?_;rintro Ah ⟨gl,hpm,hup,FV,_,uq,hb2⟩;have b12:=b11.trans hb2;have⟨uX,xI⟩:=vP uq CF Al;have auI:=xI.lt;refine aD<|ay<|Lv (.agg (aA 20 (rF (Xv m D i E F o G)))) (fM xI.aH 0 (ha:=K))<|dM xI 0 (ha:=K) (h1:=(fun j _=>Pw _ j)) fun BZ uY s10 z7 => ?_;have rH:aQ BZ C 20 (rF (Xv m D i E F o G)) 50:=aL uY;have uV:=fP s10 xI.ty;have⟨oF,qb⟩:=vP uV uX FV;have b13:=s10.below b12 b12.size (by omega);refine aD (Wr (⟨.agg (aA 20 (rF (Xv m D i E F o G))),rV Tryz.results18 ⟨_,K,aS rH.aH (by kernel_rfl) (by kernel_rfl)⟩,?_⟩));have eil:i=b.length:=by omega
  have egl:o=gl.length:=by rw[hpm.length_eq,eL]
  exact⟨Xv m D i E F o G,b,gl,rfl,{ inn:=rfl,left:=rfl,known:=rfl,nn:=eil,gn:=egl,ls:=hq1,len:=kll,gs:=GrS.of h.g Q tF hpm hup,glb:=by omega,n:=oF,g:=qb },b13⟩
 skip
 have hcm1:=Ev.CP s9;have oG:=Cc.eH hcm1 (Ev.rb.symm);have oV:=CF.eH hcm1;have rJ:=Al.eH hcm1;have sF:=ES.eH hcm1;have b14:=s9.below b11 b11.size (by omega);refine av aG<|aD<|Ws<|aN<|Wk<|sN<|Wb<|ay<|Lv (.tuple #[Fx.kS (m.g A 0) (m.g A 1),.agg (aA 5 (jf (m.g A)))]) (Fx.TM (k1:=fun i=>m.g i 0) (k2:=fun i=>m.g i 1) (val:=vg m.g) (i:=A) rfl h7 oG mc1 hi1)<|av (.agg (aA 5 (jf (m.g A))))<|nS 5 zR0 fun g5 FK SN oZ s11 z8 => ?_;have⟨rM,yE,uD,yF,wm,b15⟩:=rz s11.old oG oV rJ sF ET b14;have lg5:=iK SN b14.size;have⟨ama,amb⟩:=rD SN oG.lt rJ.lt;have Qk:(.slice F (o) (G):Value).ownBlock≠some g5:=by rw[SN]; exact sF.kM (A_ _)
 have tg5:=oZ.lt;refine dM oZ 0 (h1:=(fun j _=>sD _ j)) fun K6 tO s12 z9 => ?_;have qc:aQ K6 g5 5 (jf (m.g A)) 106:=aL tO;have vT:=fP s12 oZ.ty;have⟨xJ,xK,tQ⟩:=BO vT rM yE uD;have Am:=yF.cu s12 Qk;have Bd:=jh vT wm;have b16:=s12.below b15 b15.size (by omega);refine aD ?_;have arG:=Q.len;have hgn1:o<=m.gn:=by omega
 refine Wl<|Lv (pf C 19) (jo K 19)<|Lv (.slice F (o) (G)) (aM tQ.aH 19)<|Lv (.agg (aA 5 (jf (m.g A)))) (fM qc.aH 0)<|yP (vs := [(0,.agg (aA 5 (jf (m.g A))))]) (s:=5) (zc:=fun d=>if d<1 then au 0 else if d<3 then aC 0 else if d<4 then au 0 else aC 0) (y:=bG (fun j=>zR0 (j % 5)) (0*5) 5 (jf (m.g A))) (by rfl) rfl rfl Tryz.underlying48 (by kernel_rfl) (by rfl) (by rfl) (by kernel_rfl) (by rw[bE (off:=0*5) (s:=5) (y:=jf (m.g A)) rfl (bJ _ _) (by rfl)]; rfl) rfl fun g6 JE Y Ao s13 YP => ?_;have⟨Bf,Ce,ze,xL,F6,Hg,b17⟩:=jJ s13.old xJ xK tQ Am Bd qc b16;have lg6:=iK Y b16.size;have⟨amc,amd⟩:=rD Y xJ.lt tQ.lt;have ame:(.slice F (o) (G):Value).ownBlock≠some g6:=by rw[Y]; exact Am.kM (A_ _)
 have amf:=cO Y qc.lt;have tg6:=Ao.lt;refine zB (B:=w.heap.size) (s:=5) (bytes:=40) (k:=o) (m:=1) (v := .slice F (o) (G)) (x:=flat 5 (fun k=>jf (m.g (J.getD k 0)))) (by rfl) rfl rfl rfl Tryz.underlying48 (by kernel_rfl) (by kernel_rfl) rfl rfl xL Ao.aH aap (by omega) (by omega) (by omega) b17.size fun N W w16 ho2 hg2 NG hlt2 => ?_;have Ak:=zC hg2 xL;have⟨Dc,Ey,Ez,Bg⟩:=Em Ak Bf Ce ze F6;have amg:g5≠N:=fun e=>NG.elim (fun e2=>Qk (by rw[e]; exact e2)) (fun e2=>by have:=Hg.lt; omega);have Db:Fx.Own w16 w.heap.size 106 5 (bM N (o+1) W) (o+1) (flat 5 (fun k=>jf (m.g ((J ++ [A]).getD k 0)))):=(ho2.congr (fun j I=>by rw[hgl]at I ⊢; exact aam j I));have b18:Below w.heap.size w w16:=zA b17 hg2 b17.size (fun q hq=>(xL.ge hq).1);refine Lv (pf C 19) (jo K 19)<|ji Ez 19 (bM N (o+1) W) fun Ph Bh Ba z11 => ?_;have Dl:aQ Ph C 20 (rF (Xv m D i E (some ⟨N,0,none⟩) (o+1) W)) 50:=Bh.congr (Oy _ _ _ _);have Cb:=fP Ba Ez.ty;have⟨Dh,zf,Bj,Di⟩:=Em Cb Dc Ey Bg Db;have b19:=Ba.below b18 b18.size (by omega);refine Ln<|bU ?_
 skip
 refine iH ⟨unseen (aO S A true) m.gn,(by have O:=Fx.pQ hS1 m.gn hi1; omega),(aO S A true),(unseen (aO S A true) m.gn),(J ++ [A]),o+1,(some ⟨N,0,none⟩),W,rfl,rfl,(Q.step hi1 hS1),(by rw[G_,<- hgl]; rfl),K,h7,Dh,zf,Dl,Di,Bj,b19⟩ (by decide)
end Go.Proofs.YtcbedgfikejkoaaGreatDoor
namespace Go.Proofs.YtcbedgfikejkoaaGreatDoor
open Go.RowKit Go
namespace Rt
section
variable {f:(Nat->Int)->(Nat->Int) × Int} {idx:Nat->Nat} {R:Nat->Nat->Int} {r r':Nat->Nat->Int} {n K k:Nat}
theorem Ee : ∀ {n:Nat},(∀ i,i<n->r i=r' i)->jU f r n=jU f r' n
 | 0,_=>rfl
 | n+1,h=>by unfold jU; rw[Ee (n:=n) fun i a=>h i (by omega),h n (by omega)]
theorem Gt : ∀ {K:Nat},(∀ i j,i<K->j<K->idx i=idx j->i=j)->(dz f idx R K).2=jU f (fun i=>R (idx i)) K/\((dz f idx R K).2=0 -> ∀ k,(dz f idx R K).1 k=R k/\(∀ i,i<K->idx i≠k)\/(dz f idx R K).1 k=(f (R k)).1 /\ ∃ i,i<K/\idx i=k)
 | 0,_=>⟨rfl,fun _ k => .inl ⟨rfl,fun _ h=>N_ h (z_ _)⟩⟩
 | K+1,hi=>by
   obtain⟨q,r⟩:=Gt (K:=K) fun i j a b=>hi i j (by omega) (by omega);unfold jU;rw[<- q];by_cases c:(dz f idx R K).2=0
   ·have n:=r c;have p:(dz f idx R K).1 (idx K)=R (idx K):=by
     rcases n (idx K)with h|⟨_,i,d,g⟩
     ·exact h.1
     ·have:=hi i K (by omega) (by omega) g; omega
    rw[d_ c];have e:dz f idx R (K+1)=(if(f ((dz f idx R K).1 (idx K))).2=0 then(aI (dz f idx R K).1 (idx K) (f ((dz f idx R K).1 (idx K))).1,0)else((dz f idx R K).1,(f ((dz f idx R K).1 (idx K))).2)):=(by show(if _ then _ else _)=_; rw[d_ c]);rw[e,p];by_cases l:(f (R (idx K))).2=0
    ·rw[d_ l];refine⟨l.symm,fun _ k => ?_⟩;show aI (dz f idx R K).1 (idx K) _ k=R k/\_\/aI (dz f idx R K).1 (idx K) _ k=(f (R k)).1/\_;unfold aI;by_cases e:k=idx K
     ·subst e; rw[d_ rfl]; exact .inr ⟨rfl,K,by omega,rfl⟩
     ·rw[b_ e]
      rcases n k with ⟨d,g⟩|⟨d,i,g,h5⟩
      ·refine .inl ⟨d,fun i s m => ?_⟩;by_cases o:i=K
       ·subst o; exact e m.symm
       ·exact g i (by omega) m
      ·exact .inr ⟨d,i,by omega,h5⟩
    ·rw[b_ l]; exact⟨rfl,fun h=>N_ h l⟩
   ·rw[b_ c];have e:dz f idx R (K+1)=dz f idx R K:=(by show(if _ then _ else _)=_; rw[b_ c]);rw[e];exact⟨rfl,fun h=>N_ h c⟩
end
structure DC(T:dO)(L:eF):Prop where
 has : ∀ k,T.has k=true <-> ∃ i,i<L.nn/\L.id i=k
 n:T.n=L.nn
 par : ∀ i,i<L.nn->T.par (L.id i)=L.par i
section
variable {T:dO} {L:eF} {N:Nat} {x:Int}
theorem DC.find(h:DC T L)(b:Inv0 L N)(x:Int):T.has x=true<->0<=bC L.t L.tn x:=by
 rw[h.has,iV,b.Dm];constructor
 ·rintro ⟨i,a,e⟩; exact⟨i,a,by rw[(b.tid i a).1]; exact e⟩
 rintro ⟨i,a,e⟩; exact⟨i,a,by rw[<- (b.tid i a).1]; exact e⟩
theorem DC.findF(h:DC T L)(a:Inv0 L N)(x:Int):T.has x=false<->bC L.t L.tn x<0:=by
 have:=h.find a x
 cases e:T.has x with
 | false=>rw[e]at this; exact⟨fun _=>by rcases ilt (bC L.t L.tn x)with h1|h1; exact h1; exact N_ (this.2 h1) (by decide),fun _=>rfl⟩
 | true=>rw[e]at this; have:=this.1 rfl; exact⟨fun h=>(nomatch h),fun h=>by omega⟩
theorem Inv0.at(c:Inv0 L N){i:Nat}(hi:i<L.nn):L.node (L.id i)=(i:Int):=by
 rw[c.node,<- (c.tid i hi).1];exact wB (fun a b d f e=>c.aja a b d f e) (by rw[c.Dm]; exact hi)
theorem DC.next(h:DC T L)(a:Inv0 L N)(hx:T.has x=true):T.par x=L.t (bC L.t L.tn x).toNat 1:=by
 obtain⟨i,b,rfl⟩:=(h.has x).1 hx;have e:=a.at b;rw[a.node]at e;rw[e,h.par i b];exact((a.tid i b).2).symm
theorem DC.path(h:DC T L)(f:T.ok)(a:Inv0 L N)(x:Int):(T.path x).length=bO L.t L.tn x /\ ∀ q,q<(T.path x).length->(T.path x).getD q 0=aZ L.t L.tn q x:=by
 have g : ∀ q,q<(T.path x).length->T.has ((T.path x).getD q 0)=true/\(q+1<(T.path x).length->(T.path x).getD (q+1) 0=T.par ((T.path x).getD q 0))/\(q+1=(T.path x).length->T.has (T.par ((T.path x).getD q 0))=false):=sQ (f.stop x);have j : ∀ q,q<(T.path x).length->(T.path x).getD q 0=aZ L.t L.tn q x:=by
  intro q
  induction q with
  | zero =>
    intro b
    cases hx:T.has x with
    | false=>rw[show T.path x = []from kZ hx]at b; exact N_ b (z_ _)
    | true=>rw[dO.step f hx]; rfl
  | succ q ih =>
    intro b;have l:=ih (by omega);have c:=(g q (by show q<(T.path x).length; omega));have e:=c.2.1 b;show(T.path x).getD (q+1) 0=L.t (bC L.t L.tn (aZ L.t L.tn q x)).toNat 1;rw[<- l,<- h.next a c.1]
    exact e
 refine⟨?_,j⟩;obtain⟨D,n,m⟩:=a.dep x;refine wo (D:=D) (fun i k => ?_) ?_ m (by omega)
 ·rw[<- j i k,<- h.find a]; exact(g i k).1
 by_cases d:(T.path x).length=0
 ·rw[d];show bC L.t L.tn x<0;rw[<- h.findF a]
  cases hx:T.has x with
  | false=>rfl
  | true=>rw[dO.step f hx]at d; simp at d
 obtain⟨q,b⟩ : ∃ q,(T.path x).length=q+1:=⟨(T.path x).length-1,by omega⟩;have c:=g q (by show q<(T.path x).length; omega);have e:=c.2.2 (by show q+1=(T.path x).length; omega);rw[b];show bC L.t L.tn (L.t (bC L.t L.tn (aZ L.t L.tn q x)).toNat 1)<0;rw[<- j q (by omega),<- h.next a c.1,<- h.findF a]
 exact e
theorem aau(d:Inv0 L N)(x:Int):bC L.t L.tn (aZ L.t L.tn (bO L.t L.tn x) x)<0:=by
 obtain⟨D,e,b⟩:=d.dep x;obtain⟨K,f,a,c⟩:=wC D b;rw[<- wo c a b (by omega)]; exact a
theorem DC.mem(h:DC T L)(f:T.ok)(d:Inv0 L N)(x y:Int):y∈T.path x <-> ∃ i,i<bO L.t L.tn x/\aZ L.t L.tn i x=y:=by
 obtain⟨c,b⟩:=h.path f d x;rw[<- c];constructor
 ·intro g;obtain⟨i,a,e⟩:=List.getElem_of_mem g;refine⟨i,a,?_⟩;rw[<- b i a,r_,o_ a]; exact e
 rintro ⟨i,a,rfl⟩;rw[<- b i a,r_,o_ a]; exact R_ a
theorem DC.err(h:DC T L)(l:T.ok)(a:Inv0 L N)(id pa:Int):T.err id pa=jM L.t L.tn id pa:=by
 unfold dO.err sj jM;by_cases c:id=0
 ·rw[d_ c,d_ c]
 rw[b_ c,b_ c];by_cases d:eB T.x T.n id=true
 ·rw[d_ d,d_ ((h.find a id).1 d)]
 rw[b_ d,b_ (fun e=>d ((h.find a id).2 e))];have j:(¬ pa=0/\eB T.x T.n pa=false)<->(pa≠0/\bC L.t L.tn pa<0):=by
  rw[<- h.findF a]; exact Iff.rfl
 by_cases f : ¬ pa=0/\eB T.x T.n pa=false
 ·rw[d_ f,d_ (j.1 f)]
 rw[b_ f,b_ (fun e=>f (j.2 e))];have k:(32<=T.n\/4<=(jK T.x T.p T.n 4 pa).length)<->(32<=L.tn\/DY L.t L.tn pa):=by
  obtain⟨q,r⟩:=h.path l a pa;have v:(T.path pa).length<=4:=dO.zT;have:4<=(T.path pa).length<->DY L.t L.tn pa:=by
   constructor
   ·intro s i u;have b:=(sQ (l.stop pa)) i (by show i<(T.path pa).length; omega);rw[<- r i (by omega),<- h.find a]; exact b.1
   ·intro o
    rcases Nat.lt_or_ge (T.path pa).length 4 with b|b
    ·exfalso;have m:=o _ b;rw[q]at m;have:=aau a pa;omega
    ·exact b
  show(32<=T.n\/4<=(T.path pa).length)<->_;rw[this,h.n,a.Dm]
 by_cases g:32<=T.n\/4<=(jK T.x T.p T.n 4 pa).length
 ·rw[d_ g,d_ (k.1 g)]
 rw[b_ g,b_ (fun e=>g (k.2 e))]
end
end Rt
namespace Rt
section
variable {m:dP} {k:Int} {i:Nat}
theorem dP.Ef(b:m.T.ok)(c:m.T.has k=true):m.idx k<m.T.n/\m.T.x (m.idx k)=k:=by
 obtain⟨j,a,e⟩:=ig c;have:m.idx k=j:=nu b.inj a e;rw[this]; exact⟨a,e⟩
theorem Ms(x:Nat->Int)(id:Int) : ∀ n,(∀ i,i<n->x i≠id)->Aq (Fx.aO x n id) (n+1) id=n:=fun n _=>by
 unfold Aq;rw[d_];unfold Fx.aO;rw[d_ rfl]
theorem I5{x y:Nat->Int}{k:Int} : ∀ {n:Nat},(∀ i,i<n->x i=y i)->Aq x n k=Aq y n k
 | 0,_=>rfl
 | n+1,h=>by unfold Aq; rw[h n (by omega),I5 (n:=n) fun i a=>h i (by omega)]
theorem Mt(x:Nat->Int){id k:Int}(n:Nat)(b:id≠k):Aq (Fx.aO x n id) (n+1) k=Aq x n k:=by
 have a:Fx.aO x n id n=id:=by unfold Fx.aO; rw[d_ rfl]
 show(if Fx.aO x n id n=k then n else Aq (Fx.aO x n id) n k)=_;rw[a,b_ b];exact I5 fun i c=>by unfold Fx.aO; rw[b_ (by omega)]
theorem I6{f g:Nat->Int}{o:Int} : ∀ {n:Nat},(∀ i,i<n->f i=g i)->mX f o n=mX g o n
 | 0,_=>rfl
 | n+1,h=>by unfold mX; rw[I6 (n:=n) fun i a=>h i (by omega),h n (by omega)]
theorem Mv{f:Nat->Int}{o v:Int}{k:Nat} : ∀ n,k<=n->mX (Fx.cK f k v) o (n+1)=mX f o n+if v / 1099511627776=o then 1 else 0
 | 0,h=>by
   obtain rfl:k=0:=(by omega);show 0+(if Fx.cK f 0 v 0 / 1099511627776=o then 1 else 0)=0+_;rw[dw]
 | n+1,h=>by
   by_cases e:k=n+1
   ·subst e;show mX (Fx.cK f (n+1) v) o (n+1)+(if Fx.cK f (n+1) v (n+1) / 1099511627776=o then 1 else 0)=_;rw[dw,I6 (g:=f) fun i a=>EX a]
   ·show mX (Fx.cK f k v) o (n+1)+(if Fx.cK f k v (n+1) / 1099511627776=o then 1 else 0)=mX f o n+(if f n / 1099511627776=o then 1 else 0)+_;rw[Mv n (by omega),EY (by omega)];show _+(if f n / 1099511627776=o then 1 else 0)=_;omega
theorem Ql{f:Nat->Int}{o:Int} : ∀ n,mX f o n<=n
 | 0=>A_ _
 | n+1=>by have:=Ql (f:=f) (o:=o) n; unfold mX; split <;> omega
theorem wE{P:Nat->Bool}{n:Nat}:0<=gV P n <-> ∃ j,j<n/\P j=true:=by
 rcases gu P n with ⟨k,c,e,a⟩|⟨e,h⟩
 ·rw[e]; exact⟨fun _=>⟨k,c,a⟩,fun _=>by omega⟩
 rw[e]; exact⟨fun h=>by omega,fun⟨j,b,a⟩=>by rw[h j b]at a; cases a⟩
end
structure gy(m:dP)(L:eF):Prop where
 T:DC m.T L
 inn:m.inn=L.inn
 left:m.left=L.left
 known:m.known=L.known
 row : ∀ i,i<L.nn->Ec m (L.id i)=L.R i
 own : ∀ a,a<6->m.own a=((mX L.id ((a:Int)+1) L.nn:Nat):Int)
 gi : ∀ i j,i<m.gn->j<m.gn->m.g i 0=m.g j 0->m.g i 1=m.g j 1->i=j
 gn:m.gn=L.gn
 g1 : ∀ q,q<L.gn -> ∃ j,j<m.gn/\m.g j=L.g q
 g2 : ∀ j,j<m.gn -> ∃ q,q<L.gn/\L.g q=m.g j
 ask : ∀(a:Nat) (r:Int),a<6->(gG m ((a:Int)+1) r=true <-> ∃ j,j<L.rn a/\L.rq a j=r)
 ga:R4 m
 li : ∀ p q,p<L.gn->q<L.gn->L.g p 0=L.g q 0->L.g p 1=L.g q 1->p=q
section
variable {m:dP} {L:eF} {N:Nat} {v:EvM} {x:Int}
theorem gy.node(h:gy m L)(a:Inv0 L N)(x:Int):m.T.has x=true<->0<=L.node x:=by rw[h.T.find a,a.node]
theorem gy.Mw(h:gy m L)(a:Inv0 L N)(x:Int):m.T.has x=false<->L.node x<0:=by rw[h.T.findF a,a.node]
theorem Inv0.aav(a:Inv0 L N)(hx:0<=L.node x):(L.node x).toNat<L.nn/\L.id (L.node x).toNat=x:=by
 rw[a.node]at hx ⊢;obtain⟨j,b,e,c⟩:=vZ hx;rw[e];rw[a.Dm]at b;exact⟨b,by show L.id j=x; rw[<- (a.tid j b).1]; exact c⟩
theorem gy.rk(h:gy m L)(c:Inv0 L N)(hx:0<=L.node x):Ec m x=L.R (L.node x).toNat:=by
 obtain⟨a,b⟩:=c.aav hx;rw[<- h.row _ a,b]
theorem gy.Dr(h:gy m L)(f:m.T.ok)(a:Inv0 L N)(hx:m.T.has x=true)(r:Nat->Int):gy (Dr m x r) { L with R:=aI L.R (L.node x).toNat r }:=by
 have l:=(h.node a x).1 hx;obtain⟨j,c⟩:=a.aav l;refine { h with row:=fun i b => ?_,T:=⟨h.T.has,h.T.n,h.T.par⟩ };show Fx.aO m.R (m.idx x) r (m.idx (L.id i))=aI L.R (L.node x).toNat r i;unfold Fx.aO aI;by_cases e:i=(L.node x).toNat
 ·subst e; rw[c,d_ rfl,d_ rfl]
 rw[b_ e,b_]
 ·exact h.row i b
 intro g;have d:=(dP.Ef f ((h.T.has _).2 ⟨i,b,rfl⟩)).2;have k:=(dP.Ef f hx).2;rw[g,k]at d;exact e (a.inj i _ b j (by rw[c]; exact d.symm))
theorem gy.along(h:gy m L)(l:m.T.ok)(g:Inv0 L N)(f:(Nat->Int)->(Nat->Int) × Int)(x:Int) :
 dI m f (m.T.path x)=(dz f (pz L x) L.R (bO L.t L.tn x)).2/\((dz f (pz L x) L.R (bO L.t L.tn x)).2=0 -> ∀ i,i<L.nn->(qj m f (m.T.path x)).R (m.idx (L.id i))=(dz f (pz L x) L.R (bO L.t L.tn x)).1 i):=by
 obtain⟨z,p⟩:=h.T.path l g x;have w:(m.T.path x).Nodup:=dO.Bt l x;have o : ∀ i,i<bO L.t L.tn x->0<=L.node (aZ L.t L.tn i x):=fun i c=>by rw[g.node]; exact Ci c
 have y : ∀ i j,i<bO L.t L.tn x->j<bO L.t L.tn x->pz L x i=pz L x j->i=j:=fun i j c v e=>by
  have a:=g.aav (o i c);have b:=g.aav (o j v);have e:(L.node (aZ L.t L.tn i x)).toNat=(L.node (aZ L.t L.tn j x)).toNat:=e;rw[e]at a;have k:aZ L.t L.tn i x=aZ L.t L.tn j x:=a.2.symm.trans b.2;rw[<- p i (by omega),<- p j (by omega)]at k;exact Dy w (by omega) (by omega) k
 obtain⟨A,B⟩:=Gt (f:=f) (idx:=pz L x) (R:=L.R) y;refine⟨?_,fun s i c => ?_⟩
 ·rw[A];unfold dI;rw[z];exact Ee fun i c=>by
   rw[p i (by omega)];exact h.rk g (o i c)
 have u:=(dP.Ef l ((h.T.has _).2 ⟨i,c,rfl⟩)).2;show(if m.T.x (m.idx (L.id i))∈m.T.path x then(f (m.R (m.idx (L.id i)))).1 else m.R (m.idx (L.id i)))=_;rw[u,show m.R (m.idx (L.id i))=L.R i from h.row i c];have r:L.id i∈m.T.path x <-> ∃ q,q<bO L.t L.tn x/\pz L x q=i:=by
  rw[h.T.mem l g];constructor
  ·rintro ⟨q,d,e⟩;exact⟨q,d,(EZ g c d).2 e⟩
  ·rintro ⟨q,d,e⟩;exact⟨q,d,(EZ g c d).1 e⟩
 rcases B s i with ⟨n,k⟩|⟨n,q,d,k⟩
 ·rw[n,b_];rw[r]; rintro ⟨q,d,e⟩; exact k q d e
 rw[n,d_ (r.2 ⟨q,d,k⟩)]
theorem gy.asked(h:gy m L)(f:bR v=true)(r:Int):gG m v.o r=true<->0<=L.kg (aP v) r:=by
 obtain⟨a,c,d⟩:=eU (je f);have:aP v=a:=by unfold aP; omega
 rw[this,d,h.ask a r c];unfold eF.kg;rw[wE];constructor
 ·rintro ⟨j,b,e⟩; exact⟨j,b,f_ e⟩
 rintro ⟨j,b,e⟩; exact⟨j,b,h_ e⟩
theorem gy.grant(h:gy m L)(o r:Int):(iy m o r=true<->0<=L.grant o r)/\(0<=L.grant o r->(L.grant o r).toNat<L.gn/\eZ m o r<m.gn/\m.g (eZ m o r)=L.g (L.grant o r).toNat/\L.g (L.grant o r).toNat 0=o/\L.g (L.grant o r).toNat 1=r):=by
 have k1:iy m o r=true <-> ∃ j,j<m.gn/\m.g j 0=o/\m.g j 1=r:=kI;have k2:0<=L.grant o r <-> ∃ q,q<L.gn/\L.g q 0=o/\L.g q 1=r:=by
  unfold eF.grant;rw[wE];constructor
  ·rintro ⟨j,a,e⟩; rw[T_]at e; exact⟨j,a,h_ e.1,h_ e.2⟩
  ·rintro ⟨j,a,b,c⟩; exact⟨j,a,by rw[f_ b,f_ c]; rfl⟩
 refine⟨?_,fun l => ?_⟩
 ·rw[k1,k2];constructor
  ·rintro ⟨j,a,b,c⟩;obtain⟨q,d,e⟩:=h.g2 j a;exact⟨q,d,by rw[e]; exact b,by rw[e]; exact c⟩
  rintro ⟨q,d,b,c⟩;obtain⟨j,a,e⟩:=h.g1 q d;exact⟨j,a,by rw[e]; exact b,by rw[e]; exact c⟩
 have : ∃ q,q<L.gn/\L.grant o r=(q:Int)/\L.g q 0=o/\L.g q 1=r:=by
  unfold eF.grant at l ⊢
  rcases gu (fun i=>decide (L.g i 0=o)&&decide (L.g i 1=r)) L.gn with ⟨q,d,e,k⟩|⟨e,_⟩
  ·rw[T_]at k; exact⟨q,d,e,h_ k.1,h_ k.2⟩
  ·omega
 obtain⟨q,d,e,b,c⟩:=this;rw[e];obtain⟨j,a,f⟩:=h.g1 q d;have:eZ m o r=j:=zU h.gi a (by show m.g j 0=o; rw[f]; exact b) (by show m.g j 1=r; rw[f]; exact c);rw[this];exact⟨d,a,f,b,c⟩
theorem gy.ajL(h:gy m L)(i:m.T.ok)(g:Inv0 L N)(e:bR v=true)(l:v.kind=1):jr m v=kP L v:=by
 obtain⟨a,j,d⟩:=eU (je e);have k:aP v=a:=by unfold aP; omega
 unfold jr kP;rw[k,h.own a j,d];have b:(5<=((mX L.id ((a:Int)+1) L.nn:Nat):Int)\/140737488355328<v.aT)<->(5<=mX L.id ((a:Int)+1) L.nn\/140737488355328<v.aT):=by omega
 have f:nU v=jE ((a:Int)+1) v.seq:=by rw[<- d,sG e]; rfl
 by_cases c:5<=mX L.id ((a:Int)+1) L.nn\/140737488355328<v.aT
 ·rw[d_ c,d_ (b.2 c)]
 rw[b_ c,b_ (fun q=>c (b.1 q)),h.T.err i g,f]
theorem gy.make(h:gy m L)(A:m.T.ok)(r:Inv0 L N)(l:bR v=true)(D:v.kind=1)(z:kP L v=0):gy (Eb m v) (rG L v):=by
 obtain⟨k,g,H,I,J,K,M,y,P,Q,G⟩:=xP r l D z;have t:=sG l;have O:=nI l;have f:nU v=jE v.o v.seq:=by rw[t]; rfl
 have w:m.T.has (nU v)=false:=by
  rw[h.T.findF r,f,wz];exact G.no
 have E : ∀ i,i<m.T.n->m.T.x i≠nU v:=fun i d e=>by
  have:=dO.AP d; rw[e,w]at this; cases this
 rw[y];have C : ∀ q,(m.T.put (nU v) v.node).has q=true<->(m.T.has q=true\/q=nU v):=fun q=>by
  rw[dO.jN,Bool.or_eq_true,Q_];exact⟨fun h=>h.imp id Eq.symm,fun h=>h.imp id Eq.symm⟩
 have u : ∀ q,q<L.nn->L.id q≠nU v:=fun q F e=>by
  have:=(h.T.has _).2 ⟨q,F,rfl⟩; rw[e,w]at this; cases this
 refine {
  T:=⟨fun q => ?_,?_,fun i d => ?_⟩
  inn:=h.inn
  left:=h.left
  known:=h.known
  row:=fun i d => ?_
  own:=fun a s => ?_
  gi:=h.gi
  gn:=h.gn
  g1:=h.g1
  g2:=h.g2
  ask:=h.ask
  ga:=h.ga
  li:=h.li }
 ·show(m.T.put (nU v) v.node).has q=true <-> ∃ i,i<L.nn+1/\Fx.cK L.id k (jE v.o v.seq) i=q;rw[C,h.T.has];constructor
  ·rintro (⟨i,d,e⟩|e)
   ·obtain⟨j,b,_,c⟩:=zi (k:=k) d;exact⟨j,b,by rw[c]; exact e⟩
   exact⟨k,by omega,by rw[dw,e,f]⟩
  rintro ⟨i,d,e⟩
  rcases dD g d with rfl|⟨j,b,c,_,_⟩
  ·rw[dw]at e; exact .inr (by rw[<- e,f])
  rw[c]at e; exact .inl ⟨j,b,e⟩
 ·show m.T.n+1=L.nn+1;rw[h.T.n]
 ·show(m.T.put (nU v) v.node).par (Fx.cK L.id k (jE v.o v.seq) i)=Fx.cK L.par k v.node i;rw[dO.uI]
  rcases dD g d with rfl|⟨j,b,c,_,_⟩
  ·rw[dw,dw,d_ f]
  rw[c,c,b_ (fun e=>u j b e.symm)]; exact h.T.par j b
 ·show Fx.aO m.R m.T.n _ (Aq (Fx.aO m.T.x m.T.n (nU v)) (m.T.n+1) (Fx.cK L.id k (jE v.o v.seq) i))=Fx.cK L.R k _ i
  rcases dD g d with rfl|⟨j,b,c,_,_⟩
  ·rw[dw,dw,<- f,Ms _ _ _ E]; unfold Fx.aO; rw[d_ rfl]
  rw[c,c,Mt _ _ (fun e=>u j b e.symm)];have p:=(dP.Ef A ((h.T.has _).2 ⟨j,b,rfl⟩)).1;have p:Aq m.T.x m.T.n (L.id j)<m.T.n:=p;unfold Fx.aO;rw[b_ (by omega)];exact h.row j b
 show aI m.own (aP v) (m.own (aP v)+1) a=((mX (Fx.cK L.id k (jE v.o v.seq)) ((a:Int)+1) (L.nn+1):Nat):Int);rw[Mv _ g,t];have B:(1099511627776*v.o+v.seq) / 1099511627776=v.o:=by omega
 rw[B];unfold aI;by_cases e:a=aP v
 ·rw[d_ e,<- e,h.own a s,d_ (by unfold aP at e; omega)]; rfl
 rw[b_ e,h.own a s,b_ (by unfold aP at e; omega)]; rfl
attribute [local irreducible] bO dz dI in
theorem gy.qD(h:gy m L)(d:m.T.ok)(g:Inv0 L N)(i:bR v=true):ko m v=iP L v:=by
 unfold ko iP;by_cases c:gG m v.o v.req=true
 ·rw[d_ c,d_ ((h.asked i _).1 c)]
 rw[b_ c,b_ (fun e=>c ((h.asked i _).2 e))];obtain⟨j,_⟩:=h.T.path d g v.node;have f:m.T.has v.node=false<->bO L.t L.tn v.node=0:=by
  rw[<- j];constructor
  ·intro b; rw[show m.T.path v.node = []from kZ b]; rfl
  ·intro b
   cases e:m.T.has v.node with
   | false=>rfl
   | true=>rw[dO.step d e]at b; simp at b
 by_cases a:m.T.has v.node=false
 ·rw[d_ a,d_ (f.1 a)]
 rw[b_ a,b_ (fun e=>a (f.2 e))];exact(h.along d g _ _).1
theorem Gu{k1 k2:Nat->Int}{n:Nat}{a b o r:Int}:Cr (Fx.aO k1 n a) (Fx.aO k2 n b) (n+1) o r=true<->(Cr k1 k2 n o r=true\/(a=o/\b=r)):=by
 rw[kI,kI];unfold Fx.aO;constructor
 ·rintro ⟨j,f,c,d⟩;by_cases e:j=n
  ·subst e; rw[d_ rfl]at c d; exact .inr ⟨c,d⟩
  rw[b_ e]at c d; exact .inl ⟨j,by omega,c,d⟩
 rintro (⟨j,f,c,d⟩|⟨c,d⟩)
 ·exact⟨j,by omega,by rw[b_ (by omega)]; exact c,by rw[b_ (by omega)]; exact d⟩
 exact⟨n,by omega,by rw[d_ rfl]; exact c,by rw[d_ rfl]; exact d⟩
theorem gy.Qm(h:gy m L)(w:bR v=true)(d:dP)(f:eF)(i:d.an=m.an+1)(k:d.ao=Fx.aO m.ao m.an v.o)(l:d.ar=Fx.aO m.ar m.an v.req)(n:f.rn=aI L.rn (aP v) (L.rn (aP v)+1))(p:f.rq=aI L.rq (aP v) (aI (L.rq (aP v)) (L.rn (aP v)) v.req)) :
 (∀(a:Nat) (r:Int),a<6->(gG d ((a:Int)+1) r=true <-> ∃ j,j<f.rn a/\f.rq a j=r))/\(∀ o r,gG m o r=true->gG d o r=true)/\gG d v.o v.req=true:=by
 obtain⟨b,x,t⟩:=eU (je w);have u:aP v=b:=by unfold aP; omega
 have g : ∀ o r,gG d o r=true<->(gG m o r=true\/(v.o=o/\v.req=r)):=fun o r=>by
  unfold gG; rw[i,k,l]; exact Gu
 refine⟨fun a r q => ?_,fun o r h=>(g o r).2 (.inl h),(g _ _).2 (.inr ⟨rfl,rfl⟩)⟩;rw[g,h.ask a r q,n,p,u];unfold aI;by_cases e:a=b
 ·subst e;rw[d_ rfl,d_ rfl];constructor
  ·rintro (⟨j,s,e⟩|⟨_,e⟩)
   ·exact⟨j,by omega,by show(if j=L.rn a then v.req else L.rq a j)=r; rw[b_ (by omega)]; exact e⟩
   exact⟨L.rn a,by omega,by show(if L.rn a=L.rn a then v.req else _)=r; rw[d_ rfl]; exact e⟩
  rintro ⟨j,s,e⟩;have e:(if j=L.rn a then v.req else L.rq a j)=r:=e;by_cases c:j=L.rn a
  ·rw[d_ c]at e; exact .inr ⟨t,e⟩
  rw[b_ c]at e; exact .inl ⟨j,by omega,e⟩
 rw[b_ e,b_ e];exact⟨fun h=>h.elim id fun h=>by omega,.inl⟩
attribute [local irreducible] bO dz dI in
theorem gy.take(h:gy m L)(F:m.T.ok)(E:Inv0 L N)(D:bR v=true)(t:iP L v=0):gy (kR m v) (gJ L v):=by
 unfold iP at t;split at t
 ·cases t
 rename_i c1;split at t
 ·cases t
 have I:=(h.along F E (fun x=>bF x v.o v.aT) v.node).2 t;have G : ¬ gG m v.o v.req=true:=fun e=>c1 ((h.asked D _).1 e);obtain⟨k1,k2,J⟩:=h.Qm D (kR m v) (gJ L v) rfl rfl rfl rfl rfl;have s : ∀ j,(kR m v).g j=if j=m.gn then oI v else m.g j:=fun j=>rfl;have A:oI v 0=v.o:=rfl;have B:oI v 1=v.req:=rfl;have y : ∀ j,j<m.gn -> ¬ (m.g j 0=v.o/\m.g j 1=v.req):=fun j d e=>G (by have:=h.ga j d; rw[e.1,e.2]at this; exact this);have u:=Fx.rZ (fun i=>CG v (L.g i)) L.gn
 refine {
  T:=⟨h.T.has,h.T.n,h.T.par⟩
  inn:=h.inn
  left:=h.left
  known:=h.known
  row:=I
  own:=h.own
  gi:=fun i j r d b a => ?_
  gn:=by show m.gn+1=L.gn+1; rw[h.gn]
  g1:=fun q f => ?_
  g2:=fun j d => ?_
  ask:=k1
  ga:=fun i r => ?_
  li:=fun p q z f b a => ?_ }
 ·have r:i<m.gn+1:=r;have d:j<m.gn+1:=d;rw[s,s]at b a;by_cases c:i=m.gn
  ·by_cases l:j=m.gn
   ·omega
   rw[d_ c,b_ l,A]at b; rw[d_ c,b_ l,B]at a;exact N_ ⟨b.symm,a.symm⟩ (y j (by omega))
  by_cases l:j=m.gn
  ·rw[b_ c,d_ l,A]at b; rw[b_ c,d_ l,B]at a;exact N_ ⟨b,a⟩ (y i (by omega))
  rw[b_ c,b_ l]at b a; exact h.gi i j (by omega) (by omega) b a
 ·have f:q<L.gn+1:=f;show ∃ j,j<m.gn+1/\(kR m v).g j=Fx.cK L.g (Fx.down (fun i=>CG v (L.g i)) L.gn) (oI v) q
  rcases dD u f with e|⟨j,d,a,_,_⟩
  ·rw[e,dw]; exact⟨m.gn,by omega,by rw[s,d_ rfl]⟩
  rw[a];obtain⟨i,r,w⟩:=h.g1 j d;exact⟨i,by omega,by rw[s,b_ (by omega)]; exact w⟩
 ·have d:j<m.gn+1:=d;show ∃ q,q<L.gn+1/\Fx.cK L.g (Fx.down (fun i=>CG v (L.g i)) L.gn) (oI v) q=(kR m v).g j;rw[s];by_cases c:j=m.gn
  ·rw[d_ c]; exact⟨_,by omega,dw⟩
  rw[b_ c];obtain⟨q,f,e⟩:=h.g2 j (by omega);obtain⟨K,H,_,a⟩:=zi (k:=Fx.down (fun i=>CG v (L.g i)) L.gn) f;exact⟨K,H,by rw[a]; exact e⟩
 ·have r:i<m.gn+1:=r;rw[s];by_cases c:i=m.gn
  ·rw[d_ c]; exact J
  rw[b_ c]; exact k2 _ _ (h.ga i (by omega))
 have z:p<L.gn+1:=z;have f:q<L.gn+1:=f;have C : ∀ j,j<L.gn -> ¬ (L.g j 0=v.o/\L.g j 1=v.req):=fun j d e=>by
  obtain⟨i,r,w⟩:=h.g1 j d;rw[<- w]at e;exact y i r e
 have b:Fx.cK L.g (Fx.down (fun i=>CG v (L.g i)) L.gn) (oI v) p 0=Fx.cK L.g (Fx.down (fun i=>CG v (L.g i)) L.gn) (oI v) q 0:=b;have a:Fx.cK L.g (Fx.down (fun i=>CG v (L.g i)) L.gn) (oI v) p 1=Fx.cK L.g (Fx.down (fun i=>CG v (L.g i)) L.gn) (oI v) q 1:=a;generalize Fx.down (fun i=>CG v (L.g i)) L.gn=k at b a u
 rcases dD u z with c|⟨j,d,f1,f2,f3⟩
 ·rcases dD u f with l|⟨j',hj',f1',f2',f3'⟩
  ·omega
  rw[c,dw,f1']at b a; exact N_ ⟨b.symm,a.symm⟩ (C j' hj')
 rcases dD u f with l|⟨j',hj',f1',f2',f3'⟩
 ·rw[l,dw,f1]at b a; exact N_ ⟨b,a⟩ (C j d)
 rw[f1,f1']at b a;have:=h.li j j' d hj' b a;omega
attribute [local irreducible] bO dz dI in
theorem gy.qE(h:gy m L)(l:m.T.ok)(k:Inv0 L N)(f:bR v=true):jv m v=gW L v:=by
 unfold jv gW;by_cases c:gG m v.o v.req=true
 ·rw[d_ c,d_ ((h.asked f _).1 c)]
 rw[b_ c,b_ (fun e=>c ((h.asked f _).2 e))];obtain⟨d,j⟩:=h.grant v.o v.of;by_cases b:0<=L.grant v.o v.of
 ·obtain⟨p,r,i,s,t⟩:=j b;have n:=d.2 b;have e:(iy m v.o v.of=false\/m.g (eZ m v.o v.of) 4≠0)<->(L.grant v.o v.of<0\/L.g (wN L v) 4≠0):=by
   rw[i,n];show _<->_\/L.g (L.grant v.o v.of).toNat 4≠0;constructor
   ·rintro (h|h)
    ·cases h
    ·exact .inr h
   ·rintro (h|h)
    ·omega
    ·exact .inr h
  by_cases a:L.grant v.o v.of<0\/L.g (wN L v) 4≠0
  ·rw[d_ a,d_ (e.2 a)]
  rw[b_ a,b_ (fun q=>a (e.1 q)),i];exact(h.along l k _ _).1
 rw[d_ (.inl (by
  cases e:iy m v.o v.of with
  | false=>rfl
  | true=>exact N_ (d.1 e) b)),d_ (.inl (by omega))]
attribute [local irreducible] bO dz dI in
theorem gy.free(h:gy m L)(G:m.T.ok)(F:Inv0 L N)(I:bR v=true)(k:gW L v=0):gy (iQ m v) (eY L v):=by
 unfold gW at k;split at k
 ·cases k
 split at k
 ·cases k
 rename_i c2;have E:0<=L.grant v.o v.of:=by rcases ilt (L.grant v.o v.of)with h1|h1; exact N_ (.inl h1) c2; exact h1
 obtain⟨C,D,t,K,M⟩:=(h.grant v.o v.of).2 E;have H:=(h.along G F (fun x=>bH x v.o (L.g (wN L v) 3)) (L.g (wN L v) 2)).2 k;obtain⟨k1,k2,J⟩:=h.Qm I (iQ m v) (eY L v) rfl rfl rfl rfl rfl;have A:wN L v=(L.grant v.o v.of).toNat:=rfl;have w : ∀ j,(iQ m v).g j=if j=eZ m v.o v.of then upd (m.g (eZ m v.o v.of)) 4 v.req else m.g j:=fun j=>rfl;have u : ∀ q,(eY L v).g q=if q=wN L v then aI (L.g (wN L v)) 4 v.req else L.g q:=fun q=>rfl;have B:upd (m.g (eZ m v.o v.of)) 4 v.req=aI (L.g (wN L v)) 4 v.req:=by rw[t]; rfl
 have f : ∀ j p,(p=0\/p=1)->(iQ m v).g j p=m.g j p:=fun j p s=>by
  rw[w];by_cases c:j=eZ m v.o v.of
  ·subst c; rw[d_ rfl]; rcases s with rfl|rfl <;> rfl
  ·rw[b_ c]
 have z : ∀ j p,(p=0\/p=1)->(eY L v).g j p=L.g j p:=fun j p s=>by
  rw[u];by_cases c:j=wN L v
  ·subst c; rw[d_ rfl]; rcases s with rfl|rfl <;> rfl
  ·rw[b_ c]
 refine {
  T:=⟨h.T.has,h.T.n,h.T.par⟩
  inn:=h.inn
  left:=h.left
  known:=h.known
  row:=fun i r => ?_
  own:=h.own
  gi:=fun i j r a l d=>h.gi i j r a (by rw[f i 0 (.inl rfl),f j 0 (.inl rfl)]at l; exact l) (by rw[f i 1 (.inr rfl),f j 1 (.inr rfl)]at d; exact d)
  gn:=h.gn
  g1:=fun q b => ?_
  g2:=fun j a => ?_
  ask:=k1
  ga:=fun i r=>by rw[f i 0 (.inl rfl),f i 1 (.inr rfl)]; exact k2 _ _ (h.ga i r)
  li:=fun p q s b l d=>h.li p q s b (by rw[z p 0 (.inl rfl),z q 0 (.inl rfl)]at l; exact l) (by rw[z p 1 (.inr rfl),z q 1 (.inr rfl)]at d; exact d) }
 ·have:=H i r;show(qj m (fun x=>bH x v.o (m.g (eZ m v.o v.of) 3)) (m.T.path (m.g (eZ m v.o v.of) 2))).R (m.idx (L.id i))=_;rw[t]; exact this
 ·have b:q<L.gn:=b;rw[u];by_cases c:q=wN L v
  ·rw[d_ c]; exact⟨eZ m v.o v.of,D,by rw[w,d_ rfl,B]⟩
  rw[b_ c];obtain⟨j,a,y⟩:=h.g1 q b;refine⟨j,a,?_⟩;rw[w,b_]
  ·exact y
  intro e;rw[e,t]at y;exact c (h.li q _ b C (congrFun y.symm 0) (congrFun y.symm 1))
 have a:j<m.gn:=a;rw[w];by_cases c:j=eZ m v.o v.of
 ·rw[d_ c]; exact⟨wN L v,C,by rw[u,d_ rfl,B]⟩
 rw[b_ c];obtain⟨q,b,e⟩:=h.g2 j a;refine⟨q,b,?_⟩;rw[u,b_]
 ·exact e
 intro d;rw[d]at e;exact c (h.gi j _ a D (by rw[t,<- e,A]) (by rw[t,<- e,A]))
theorem gy.move(h:gy m L)(i:m.T.ok)(a:Inv0 L N)(k:bR v=true)(j:v.kind=5):kQ m v=qg L v/\(qg L v=0->gy (D8 m v) (Ga L v)):=by
 obtain⟨b,l,n⟩:=P8 k j;unfold kQ qg;by_cases c:L.node v.node<0
 ·rw[d_ c,d_ ((h.Mw a _).2 c)];exact⟨rfl,fun h=>by cases h⟩
 have f:0<=L.node v.node:=by omega
 rw[b_ c,b_ (fun e=>c ((h.Mw a _).1 e)),h.inn];have g:tT m v=zh L v:=by unfold tT zh; rw[<- h.rk a f]; rfl
 have e:(v.dst<1\/6<v.dst\/L.inn (v.dst-1).toNat=false)<->L.inn (v.dst-1).toNat=false:=⟨fun h=>by rcases h with h|h|h; omega; omega; exact h,fun h => .inr (.inr h)⟩
 by_cases d:L.inn (v.dst-1).toNat=false
 ·rw[d_ d,d_ (e.2 d)];exact⟨rfl,fun h=>by cases h⟩
 rw[b_ d,b_ (fun q=>d (e.1 q)),g];refine⟨rfl,fun _ => ?_⟩;have:=h.Dr i a ((h.node a _).2 f) (zh L v).1;unfold D8 Ga;rw[g]; exact this
theorem gy.raise(h:gy m L)(f:m.T.ok)(a:Inv0 L N):jP m v=xO L v/\(xO L v=0->gy (vo m v) (F9 L v)):=by
 unfold jP xO;by_cases c:L.node v.node<0
 ·rw[d_ c,d_ ((h.Mw a _).2 c)];exact⟨rfl,fun h=>by cases h⟩
 have b:0<=L.node v.node:=by omega
 have d:m.R (m.idx v.node)=L.R (L.node v.node).toNat:=h.rk a b;rw[b_ c,b_ (fun e=>c ((h.Mw a _).1 e)),d];refine⟨rfl,fun _ => ?_⟩;unfold vo F9;rw[d];exact h.Dr f a ((h.node a _).2 b) _
theorem gy.does(h:gy m L)(c:m.T.ok)(b:Inv0 L N)(d:bR v=true):fG m v=dQ L v/\(dQ L v=0->gy (iZ m v) (fT L v)):=by
 have j:=jB d;unfold fG dQ iZ fT;by_cases k1:v.kind=1
 ·rw[d_ k1,d_ k1,d_ k1,d_ k1]; exact⟨h.ajL c b d k1,fun e=>h.make c b d k1 e⟩
 rw[b_ k1,b_ k1,b_ k1,b_ k1];by_cases k2:v.kind=2
 ·rw[d_ k2,d_ k2,d_ k2,d_ k2]; exact h.raise c b
 rw[b_ k2,b_ k2,b_ k2,b_ k2];by_cases f:v.kind=3
 ·rw[d_ f,d_ f,d_ f,d_ f]; exact⟨h.qD c b d,fun e=>h.take c b d e⟩
 rw[b_ f,b_ f,b_ f,b_ f];by_cases g:v.kind=4
 ·rw[d_ g,d_ g,d_ g,d_ g]; exact⟨h.qE c b d,fun e=>h.free c b d e⟩
 rw[b_ g,b_ g,b_ g,b_ g];by_cases a:v.kind=5
 ·rw[d_ a,d_ a,d_ a,d_ a]; exact h.move c b d a
 rw[b_ a,b_ a,b_ a,b_ a];by_cases i:v.kind=6
 ·rw[d_ i,d_ i,d_ i];exact⟨rfl,fun _ => { h with T:=⟨h.T.has,h.T.n,h.T.par⟩,inn:=by show aI m.inn _ true=aI L.inn _ true; rw[h.inn] }⟩
 rw[b_ i,b_ i,b_ i];exact⟨rfl,fun _ => { h with T:=⟨h.T.has,h.T.n,h.T.par⟩,left:=by show aI m.left _ true=aI L.left _ true; rw[h.left] }⟩
theorem gy.apply(h:gy m L)(f:m.T.ok)(d:Inv0 L N)(v:EvM):bZ m v=bD L v/\gy (gX m v) (bP L v):=by
 have e:bZ m v=bD L v:=by
  unfold bZ bD;rw[h.known,h.inn,h.left]
  cases b:bR v with
  | false=>rfl
  | true =>
    rw[(h.does f d b).1]
 refine⟨e,?_⟩;unfold gX bP;rw[e];by_cases c:bD L v=0
 ·rw[d_ c,d_ c];have b:=(EA (iA c)).1;have g:dQ L v=0:=by
   unfold bD at c;rw[b_ (by rw[b]; decide)]at c;split at c; · cases c
   split at c; · cases c
   split at c; · cases c
   exact c
  have a:=(h.does f d b).2 g;exact { a with T:=⟨a.T.has,a.T.n,a.T.par⟩,known:=by show aI (iZ m v).known _ _=aI (fT L v).known _ _; rw[a.known] }
 rw[b_ c,b_ c]; exact h
theorem gy.sound(h:gy m L)(k:m.T.ok)(c:Inv0 L N):QlK m := {
 own:=fun a l=>by
  have b:=Ql (f:=L.id) (o:=(a:Int)+1) L.nn;have d:=c.nn;rw[h.own a l]; omega
 row:=fun i g p n=>by
  obtain⟨j,hj,e⟩:=(h.T.has _).1 (dO.AP g);have b:=h.row j hj;rw[e]at b;have d:m.idx (m.T.x i)=i:=nu k.inj g rfl;unfold Ec at b;rw[d]at b;rw[b];exact lY (c.may j hj) p n
 ga:=h.ga
 kn:=by rw[h.known]; exact c.kn }
end
end Rt
namespace Rt
def oK(x:Nat->Int):Int:=x 0*18446744073709551616+x 1
structure yI(L:eF):Prop where
 up : ∀ i j,i<j->j<L.gn->oK (L.g i)<oK (L.g j)
 wf : ∀ q,q<L.gn->jA (L.g q 1)/\jA (L.g q 4)
 ga : ∀ q,q<L.gn->1<=L.g q 0/\L.g q 0<=6 /\ ∃ j,j<L.rn (L.g q 0-1).toNat/\L.rq (L.g q 0-1).toNat j=L.g q 1
section
variable {L:eF} {N:Nat} {v:EvM}
theorem Xx(a:jA v.req){x:Nat->Int}(hx:jA (x 1)):CG v x=true<->oK (oI v)<oK x:=by
 unfold CG oK jA at *;rw[Bool.or_eq_true,T_,Q_,Q_,Q_];show v.o<x 0\/x 0=v.o/\v.req<x 1<->v.o*18446744073709551616+v.req<x 0*18446744073709551616+x 1;omega
theorem Cu{a:Nat}{r:Int}(d:eF)(f:d.rn=aI L.rn a (L.rn a+1))(g:d.rq=aI L.rq a (aI (L.rq a) (L.rn a) r)):(∀ b y,(∃ j,j<L.rn b/\L.rq b j=y) -> ∃ j,j<d.rn b/\d.rq b j=y) /\ ∃ j,j<d.rn a/\d.rq a j=r:=by
 rw[f,g];unfold aI;refine⟨fun b y ⟨j,h,e⟩ => ?_,L.rn a,by rw[d_ rfl]; omega,by rw[d_ rfl,d_ rfl]⟩;by_cases c:b=a
 ·subst c;exact⟨j,by rw[d_ rfl]; omega,by rw[d_ rfl,b_ (by omega)]; exact e⟩
 exact⟨j,by rw[b_ c]; exact h,by rw[b_ c]; exact e⟩
attribute [local irreducible] bO dz in
theorem Oz(h:yI L)(J:bR v=true)(M:gI v)(t:iP L v=0):yI (gJ L v):=by
 have z:=nI J;have m:jA v.req:=M.req;unfold iP at t;split at t
 ·cases t
 rename_i c1;obtain⟨w,x⟩:=Cu (L:=L) (a:=aP v) (r:=v.req) (gJ L v) rfl rfl;have K : ∀ j,j<L.gn -> ¬ (L.g j 0=v.o/\L.g j 1=v.req):=fun j f e=>c1 (by
  obtain⟨_,_,q,b,y⟩:=h.ga j f;rw[e.1,e.2]at y;rw[e.1]at b;unfold eF.kg;rw[wE];exact⟨q,b,f_ y⟩)
 obtain⟨k,u⟩ : ∃ k,k=Fx.down (fun i=>CG v (L.g i)) L.gn:=⟨_,rfl⟩;have l:k<=L.gn:=by rw[u]; exact Fx.rZ _ _
 have I : ∀ q,k<=q->q<L.gn->oK (oI v)<oK (L.g q):=fun q D d=>(Xx m (h.wf q d).1).1 (Fx.Ju (P:=fun i=>CG v (L.g i)) (n:=L.gn) (i:=q) (by omega) d);have H : ∀ q,q<k->oK (L.g q)<oK (oI v):=fun q D=>by
  obtain⟨j,rfl⟩ : ∃ j,k=j+1:=⟨k-1,by omega⟩;have d:=Fx.Jv (P:=fun i=>CG v (L.g i)) (n:=L.gn) (j:=j) u.symm;have E : ¬ oK (oI v)<oK (L.g j):=fun e=>by
   have:=(Xx m (h.wf j (by omega)).1).2 e;rw[this]at d; cases d
  have F:oK (L.g j)<oK (oI v):=by
   rcases Int.lt_trichotomy (oK (L.g j)) (oK (oI v))with c|c|c
   ·exact c
   ·exfalso;have G:=(h.wf j (by omega)).1;refine K j (by omega) ?_;unfold oK at c;have c:L.g j 0*18446744073709551616+L.g j 1=v.o*18446744073709551616+v.req:=c;unfold jA at G m;omega
   ·exact N_ c E
  by_cases e:q=j
  ·rw[e]; exact F
  ·have:=h.up q j (by omega) (by omega); omega
 have p:(gJ L v).g=Fx.cK L.g k (oI v):=by rw[u]; rfl
 have s:(gJ L v).gn=L.gn+1:=rfl;refine⟨fun i j N f => ?_,fun q b => ?_,fun q b => ?_⟩
 ·rw[s]at f;rw[p]
  rcases dD l (show i<L.gn+1 by omega)with rfl|⟨q,b,eq,q1,q2⟩
  ·rcases dD l f with rfl|⟨r,hr,er,w,x⟩
   ·omega
   rw[dw,er]; exact I r (by omega) hr
  rcases dD l f with rfl|⟨r,hr,er,w,x⟩
  ·rw[dw,eq]; exact H q (by omega)
  rw[eq,er]; exact h.up q r (by omega) hr
 ·rw[s]at b;rw[p]
  rcases dD l b with rfl|⟨r,hr,er,_,_⟩
  ·rw[dw]; exact⟨m,by show jA 0; unfold jA; omega⟩
  rw[er]; exact h.wf r hr
 rw[s]at b;rw[p]
 rcases dD l b with rfl|⟨r,hr,er,_,_⟩
 ·rw[dw]; exact⟨z.1,z.2.1,x⟩
 rw[er];obtain⟨A,B,C⟩:=h.ga r hr;exact⟨A,B,w _ _ C⟩
attribute [local irreducible] bO dz in
theorem OA(h:yI L)(w:bR v=true)(s:gI v)(u:gW L v=0):yI (eY L v):=by
 obtain⟨t,x⟩:=Cu (L:=L) (a:=aP v) (r:=v.req) (eY L v) rfl rfl;have e : ∀ q,(eY L v).g q=if q=wN L v then aI (L.g (wN L v)) 4 v.req else L.g q:=fun q=>rfl;have b : ∀ j p,(p=0\/p=1)->(eY L v).g j p=L.g j p:=fun j p o=>by
  rw[e];by_cases c:j=wN L v
  ·subst c; rw[d_ rfl]; rcases o with rfl|rfl <;> rfl
  ·rw[b_ c]
 refine⟨fun i j m n => ?_,fun q d => ?_,fun q d => ?_⟩
 ·unfold oK;rw[b i 0 (.inl rfl),b i 1 (.inr rfl),b j 0 (.inl rfl),b j 1 (.inr rfl)];exact h.up i j m n
 ·rw[b q 1 (.inr rfl)];refine⟨(h.wf q d).1,?_⟩;rw[e];by_cases c:q=wN L v
  ·rw[d_ c]; exact s.req
  rw[b_ c]; exact(h.wf q d).2
 rw[b q 0 (.inl rfl),b q 1 (.inr rfl)];obtain⟨f,k,l⟩:=h.ga q d;exact⟨f,k,t _ _ l⟩
theorem Gv(h:yI L)(e:gI v):yI (bP L v):=by
 unfold bP;by_cases c:bD L v=0
 ·rw[d_ c];have b:=(EA (iA c)).1;have a:dQ L v=0:=by
   unfold bD at c;rw[b_ (by rw[b]; decide)]at c;split at c; · cases c
   split at c; · cases c
   split at c; · cases c
   exact c
  have d:yI (fT L v):=by
   unfold dQ at a;unfold fT;by_cases k1:v.kind=1
   ·rw[d_ k1]; exact⟨h.up,h.wf,h.ga⟩
   rw[b_ k1]at a ⊢;by_cases k2:v.kind=2
   ·rw[d_ k2]; exact⟨h.up,h.wf,h.ga⟩
   rw[b_ k2]at a ⊢;by_cases f:v.kind=3
   ·rw[d_ f]at a ⊢; exact Oz h b e a
   rw[b_ f]at a ⊢;by_cases g:v.kind=4
   ·rw[d_ g]at a ⊢; exact OA h b e a
   rw[b_ g]at a ⊢;by_cases i:v.kind=5
   ·rw[d_ i]; exact⟨h.up,h.wf,h.ga⟩
   rw[b_ i];by_cases j:v.kind=6
   ·rw[d_ j]; exact⟨h.up,h.wf,h.ga⟩
   ·rw[b_ j]; exact⟨h.up,h.wf,h.ga⟩
  exact⟨d.up,d.wf,d.ga⟩
 rw[b_ c]; exact h
theorem Mx(k a:Nat):yI (jL k a).core:=⟨fun i j _ h=>N_ h (z_ _),fun q h=>N_ h (z_ _),fun q h=>N_ h (z_ _)⟩
theorem gy.new(k l d e f c b g:Nat):gy (yH k l d e f c b) (jL k g).core where
 T:=⟨fun q=>⟨fun h=>(nomatch h),fun⟨i,h,_⟩=>N_ h (z_ _)⟩,rfl,fun i h=>N_ h (z_ _)⟩
 inn:=rfl
 left:=rfl
 known:=rfl
 row:=fun i h=>N_ h (z_ _)
 own:=fun a _=>rfl
 gi:=fun i j h=>N_ h (z_ _)
 gn:=rfl
 g1:=fun q h=>N_ h (z_ _)
 g2:=fun q h=>N_ h (z_ _)
 ask:=fun a r _=>⟨fun h=>(nomatch h),fun⟨j,h,_⟩=>N_ h (z_ _)⟩
 ga:=fun i h=>N_ h (z_ _)
 li:=fun i j h=>N_ h (z_ _)
structure StC(L:eF)(m:dP)(l:List Int)(gl:List Ki):Prop where
 nn:l.length=L.nn
 gn:gl.length=L.gn
 n : ∀ k,k<L.nn->l.getD k 0=L.id k/\m.T.par (l.getD k 0)=L.par k/\Ec m (l.getD k 0)=L.R k
 g : ∀ k,k<L.gn->(gl.getD k g0).x=L.g k
theorem StC.of{m:dP}{l:List Int}{c:List Ki}(h:gy m L)(F:Inv0 L N)(u:yI L)(B:l.Pairwise (· < ·) /\ ∀ k,k∈l<->m.T.has k=true)(s:GrS m c):StC L m l c:=by
 have w:l=(List.range L.nn).map L.id:=vR B.1 (by
  rw[List.pairwise_map];exact(List.pairwise_lt_range (n:=L.nn)).imp_of_mem fun {a b} _ hb hab=>F.rise a b hab (P_.1 hb)) fun k=>by
  rw[B.2,h.T.has,List.mem_map];exact⟨fun⟨i,d,e⟩=>⟨i,P_.2 d,e⟩,fun⟨i,d,e⟩=>⟨i,P_.1 d,e⟩⟩
 have y:c.map Mq=(List.range L.gn).map fun q=>oK (L.g q):=vR (by rw[List.pairwise_map]; exact s.up) (by
  rw[List.pairwise_map];exact(List.pairwise_lt_range (n:=L.gn)).imp_of_mem fun {a b} _ hb hab=>u.up a b hab (P_.1 hb)) fun k=>by
  rw[List.mem_map,List.mem_map];constructor
  ·rintro ⟨x,v,e⟩;obtain⟨i,d,p⟩:=s.mem x v;obtain⟨q,o,r⟩:=h.g2 i d;refine⟨q,P_.2 o,?_⟩;rw[r,<- p]; exact e
  ·rintro ⟨q,o,e⟩;obtain⟨j,G,C⟩:=h.g1 q (P_.1 o);obtain⟨x,v,E⟩:=s.all j G;refine⟨x,v,?_⟩;rw[<- e,<- C,<- E]; rfl
 have I:c.length=L.gn:=by have:=M_ List.length y; rwa [List.length_map,List.length_map,List.length_range]at this
 refine⟨by rw[w,List.length_map,List.length_range],I,fun k f => ?_,fun k f => ?_⟩
 ·have:l.getD k 0=L.id k:=by
   rw[w,r_,o_ (by rw[List.length_map,List.length_range]; exact f)];simp
  rw[this];exact⟨rfl,h.T.par k f,h.row k f⟩
 have t:k<c.length:=by omega
 have H:c.getD k g0∈c:=by rw[r_,o_ t]; exact R_ t
 have D:Mq (c.getD k g0)=oK (L.g k):=by
  have A:=M_ (fun z=>z.getD k 0) y;simp only[r_,List.getElem?_map,o_ t,List.getElem?_range f]at A;rw[r_,o_ t]; exact A
 obtain⟨i,d,p⟩:=s.mem _ H;obtain⟨q,o,r⟩:=h.g2 i d;have J:oK (L.g q)=oK (L.g k):=by rw[r,<- p,<- D]; rfl
 have:q=k:=by
  rcases Nat.lt_trichotomy q k with h5|h5|h5
  ·have:=u.up q k h5 f; omega
  ·exact h5
  ·have:=u.up k q h5 o; omega
 rw[p,<- r,this]
end
end Rt
end Go.Proofs.YtcbedgfikejkoaaGreatDoor
namespace Go.Proofs.YtcbedgfikejkoaaGreatDoor
open Go.RowKit Go.WideShapes Go.ChangeShapes Go.Deep
theorem R8{w:World}{x:Addr}{v:Value}(h:w.cell? x=some v) : ∃ b a,x=⟨b,a,none⟩:=by
 obtain⟨b,a,c⟩:=x
 cases c with
 | none=>exact⟨b,a,rfl⟩
 | some q =>
   unfold World.cell? at h;simp at h;split at h <;> cases h
def At4(a k1 k2 c:IntKind)(w:World)(b off:Nat)(x0 x1 x2 d:Int):Prop :=
 w.cell? ⟨b,off,none⟩=some (.int a x0)/\w.cell? ⟨b,off+1,none⟩=some (.int k1 x1)/\w.cell? ⟨b,off+2,none⟩=some (.int k2 x2)/\w.cell? ⟨b,off+3,none⟩=some (.int c d)
def Wf4(a k1 k2 b:IntKind)(x0 x1 x2 c:Int):Prop:=(Lit.int a x0).wf=true/\(Lit.int k1 x1).wf=true/\(Lit.int k2 x2).wf=true/\(Lit.int b c).wf=true
def Sl4(g k1 k2 h:IntKind)(w:World)(a:Option Addr)(len:Nat)(c d e f:Nat->Int):Prop :=
 ∀ i,i<len->(∃ b j,a=some ⟨b,j,none⟩/\At4 g k1 k2 h w b (j+i*4) (c i) (d i) (e i) (f i))/\Wf4 g k1 k2 h (c i) (d i) (e i) (f i)
theorem Sl4.up{m k1 k2 n:IntKind}{w w':World}{a:Option Addr}{len:Nat}{g j k l:Nat->Int}(h:Sl4 m k1 k2 n w a len g j k l)(f:Below w.heap.size w w'):Sl4 m k1 k2 n w' a len g j k l:=by
 intro i q;obtain⟨⟨b,d,e,o,r,s,t⟩,hw⟩:=h i q;have c:=block_lt_of_cell o
 dsimp only at c
 exact⟨⟨b,d,e,(f.cell (p:=⟨b,d+i*4,none⟩) c).trans o,(f.cell (p:=⟨b,d+i*4+1,none⟩) c).trans r,(f.cell (p:=⟨b,d+i*4+2,none⟩) c).trans s,(f.cell (p:=⟨b,d+i*4+3,none⟩) c).trans t⟩,hw⟩
instance {g k1 k2 i:IntKind} {w w':World} {a:Option Addr} {len:Nat} {c d e f:Nat->Int}:Rt.Tr w w' (Sl4 g k1 k2 i w a len c d e f) (Sl4 g k1 k2 i w' a len c d e f):=⟨fun b h=>h.up b⟩
def zu(P:Program):Nat->TypeId->Option (List (Option IntKind))
 | 0,_=>none
 | d+1,t=>match P.underlying t with
   | some (.int k)=>some [some k]
   | some .bool=>some [none]
   | some (.array n e)=>(zu P d e).bind fun a=>if P.cellsOf e=a.length/\P.cellsOf t=n*a.length then some (List.replicate n a).flatten else none
   | some (.struct fs)=>(fs.toList.foldlM (fun l f=>(zu P d f.type).bind fun a=>if f.offset=l.length/\P.cellsOf f.type=a.length then some (l++a)else none) []).bind fun l=>if P.cellsOf t=l.length then some l else none
   | _=>none
def SS(k:Option IntKind)(v:Value):Prop:=match k with|some k => ∃ n,v = .int k n/\(Lit.int k n).wf=true|none => ∃ b,v = .bool b
def acp(ks:List (Option IntKind))(cs:List Value):Prop:=cs.length=ks.length /\ ∀(j:Nat) (k:Option IntKind),ks[j]? = some k -> ∃ v,cs[j]? = some v/\SS k v
theorem DF{ks:List (Option IntKind)}{k:Option IntKind} : ∀(n j:Nat),(List.replicate n ks).flatten[j]? = some k->ks[j % ks.length]? = some k/\j / ks.length<n
 | 0,j,h=>by simp at h
 | n+1,j,h=>by
   rw[List.replicate_succ,List.flatten_cons]at h;by_cases b:j<ks.length
   ·rw[List.getElem?_append_left b]at h;rw[Nat.mod_eq_of_lt b,Nat.div_eq_of_lt b]; exact⟨h,by omega⟩
   ·rw[List.getElem?_append_right (by omega)]at h;have c:0<ks.length:=by
     rcases Nat.eq_zero_or_pos ks.length with e|e
     ·obtain⟨a,_⟩:=DF n _ h;have:=(List.getElem?_eq_some_iff.1 a).1; omega
     ·exact e
    obtain⟨a,d⟩:=DF n _ h;rw[Nat.mod_eq_sub_mod (by omega),Nat.div_eq_sub_div c (by omega)];exact⟨a,by omega⟩
section
variable {H:Type} {enc:TypeId × Value->H} {P:Program} {w:World} {base:Nat} {spare:Nat->Bool} {held:Bool}
theorem Gw{ks:List (Option IntKind)}{cs:List Value}{o s j:Nat}{k:Option IntKind}(h:acp ks ((cs.drop o).take s))(e:s=ks.length)(b:ks[j]? = some k) : ∃ v,cs[o+j]? = some v/\SS k v:=by
 obtain⟨n,a,c⟩:=h.2 j k b;have d:=(List.getElem?_eq_some_iff.1 b).1;rw[List.getElem?_take_of_lt (by omega),List.getElem?_drop]at a;exact⟨n,a,c⟩
theorem DI : ∀(d:Nat) (t:TypeId) (q:List (Option IntKind)),zu P d t=some q -> ∀(C:Nat) (p:List Value) (x:DataW H × List MemPlace),DataW.trod enc P w base spare held C t p=some x->acp q p
 | 0,_,_,h=>by simp[zu]at h
 | d+1,t,q,h=>by
   intro C p x z;unfold zu at h;split at h
   ·rename_i k hu;simp only[Option.some.injEq]at h; subst h;obtain⟨n,rfl,_,U⟩:=DataW.trod_int hu z;refine⟨rfl,fun j W a => ?_⟩
    match j,a with
    | 0,a=>simp at a; subst a; exact⟨_,rfl,n,rfl,U⟩
    | j+1,a=>simp at a
   ·rename_i hu;simp only[Option.some.injEq]at h; subst h;obtain⟨b,rfl,_⟩:=DataW.trod_bool hu z;refine⟨rfl,fun j W a => ?_⟩
    match j,a with
    | 0,a=>simp at a; subst a; exact⟨_,rfl,b,rfl⟩
    | j+1,a=>simp at a
   ·rename_i n e hu;obtain⟨I,S,h⟩:=Option.bind_eq_some_iff.1 h;split at h
    ·rename_i hc;simp only[Option.some.injEq]at h; subst h;obtain⟨Y,m,_,_,c,F,J⟩:=DataW.trod_array hu z;refine⟨by rw[c,hc.2]; simp,fun j k a => ?_⟩;obtain⟨r,A⟩:=DF n j a;have u:=J (j / I.length) A;rw[o_ (by omega),hc.1]at u;have:=Gw (DI d e I S _ _ _ u) rfl r;rw[Nat.mul_comm,Nat.div_add_mod]at this;exact this
    ·cases h
   ·rename_i fs hu;obtain⟨l,c,h⟩:=Option.bind_eq_some_iff.1 h;split at h
    ·rename_i hc;simp only[Option.some.injEq]at h; subst h;obtain⟨Y,m,_,_,T,F,K⟩:=DataW.trod_struct hu z;refine⟨by rw[T,hc],?_⟩;have M : ∀ f,f∈fs.toList -> ∃ y,DataW.trod enc P w base spare held m f.type ((p.drop f.offset).take (P.cellsOf f.type))=some y:=by
      intro f N;obtain⟨i,u,e⟩:=List.mem_iff_getElem.1 N;have E:i<fs.size:=(by simpa using u);have r:fs[i]? = some f:=(by rw[Array.getElem?_eq_getElem E]; simpa using e);have:=K i f r;rw[o_ (by rw[F]; exact E)]at this;exact⟨_,this⟩
     have X : ∀(L:List Field) (o:List (Option IntKind)),(∀ f,f∈L -> ∃ y,DataW.trod enc P w base spare held m f.type ((p.drop f.offset).take (P.cellsOf f.type))=some y)->(∀(j:Nat) (k:Option IntKind),o[j]? = some k -> ∃ v,p[j]? = some v/\SS k v) -> ∀ l,L.foldlM (fun l f=>(zu P d f.type).bind fun q=>if f.offset=l.length/\P.cellsOf f.type=q.length then some (l++q)else none) o=some l -> ∀(j:Nat) (k:Option IntKind),l[j]? = some k -> ∃ v,p[j]? = some v/\SS k v:=by
      intro L
      induction L with
      | nil=>intro o _ B l c; simp at c; subst c; exact B
      | cons f L ih =>
        intro o D B l c;rw[List.foldlM_cons]at c;obtain⟨Z,r,A⟩:=Option.bind_eq_some_iff.1 c;obtain⟨G,R,s⟩:=Option.bind_eq_some_iff.1 r;split at s
        ·rename_i hcc;simp only[Option.some.injEq]at s; subst s;refine ih (o++G) (fun g O=>D g (List.mem_cons_of_mem _ O)) (fun j k a => ?_) l A;by_cases Q:j<o.length
         ·rw[List.getElem?_append_left Q]at a; exact B j k a
         ·rw[List.getElem?_append_right (by omega)]at a;obtain⟨y,V⟩:=D f (List.mem_cons_self ..);have:=Gw (DI d f.type G R _ _ _ V) hcc.2 a;rw[hcc.1,show o.length+(j-o.length)=j by omega]at this;exact this
        ·cases s
     exact X fs.toList [] M (fun j k a=>by simp at a) l c
    ·cases h
   ·cases h
end
section
variable {H:Type} {enc:TypeId × Value->H} {P:Program} {w:World} {base:Nat} {spare:Nat->Bool} {held:Bool}
theorem R9{t e:TypeId}{ks:List (Option IntKind)}{fuel D:Nat}{cs:List Value}{x:DataW H × List MemPlace}(S:P.underlying t=some (.slice e))(O:zu P D e=some ks)(F:P.cellsOf e=ks.length)(C:0<ks.length)
 (h:DataW.trod enc P w base spare held fuel t cs=some x) : ∃ a c l,cs = [.slice a c l]/\c<=maxLen/\c<=l /\ ∃ X:Nat->Nat->Value,(∀ i,i<c -> ∀(j:Nat) (k:Option IntKind),ks[j]? = some k->SS k (X i j))/\Fx.nV w a c ks.length (Fx.flat ks.length X):=by
 rcases open_slice S h with ⟨rfl,_⟩|⟨a',c,l,m,n,D',Pl,rfl,_,hl,hm,hmm,_,hx⟩
 ·exact⟨none,0,0,rfl,by unfold maxLen; omega,A_ _,fun _ _=>undef,fun i d=>N_ d (by omega),fun h=>N_ h (by omega)⟩
 have W:c<=m:=by rw[hmm]; split <;> omega
 have r : ∀ i j:Nat,∃ q:Value,i<c -> ∀ k,ks[j]? = some k->w.cell? (a'.add (i*ks.length+j))=some q/\SS k q:=by
  intro i j;by_cases d:i<c/\j<ks.length
  ·obtain⟨U,A,J⟩:=hx i (by omega);rw[F]at A;obtain⟨_,V,M⟩:=World.cells?_some A;obtain⟨q,y,z⟩:=(DI _ _ _ O _ _ _ J).2 j _ (o_ d.2);refine⟨q,fun _ k v => ?_⟩;rw[o_ d.2,Option.some.injEq]at v;subst v;have E:=M j (by omega);rw[add_add]at E;exact⟨by rw[<- y]; simpa using E,z⟩
  ·refine⟨undef,fun y k z=>N_ ⟨y,(List.getElem?_eq_some_iff.1 z).1⟩ d⟩
 refine⟨some a',c,l,rfl,by omega,hl,fun i j=>Classical.choose (r i j),fun i d j k v=>(Classical.choose_spec (r i j) d k v).2,fun K => ?_⟩;have G:a'.add (0*ks.length+0)=a':=by unfold Addr.add; simp
 obtain⟨Z,L⟩:=r 0 0;have Q:=o_ C;have B:=(L K _ Q);have g:=B.1;rw[G]at g;have o : ∃ b f,a'=⟨b,f,none⟩:=by
  have u:=B.2;unfold SS at u;split at u
  ·obtain⟨Y,rfl,_⟩:=u; exact R8 g
  ·obtain⟨T,rfl⟩:=u;unfold World.cell? at g
   cases a' with
   | mk b f sp =>
     cases sp with
     | none=>exact⟨b,f,rfl⟩
     | some s=>simp at g; split at g <;> simp_all
 obtain⟨b,f,o⟩:=o;refine⟨b,f,by rw[o],fun p R => ?_⟩;have N:p % ks.length<ks.length:=K_ _ C;have d:p / ks.length<c:=Nat.div_lt_of_lt_mul (by rw[Nat.mul_comm]; exact R);have:=(Classical.choose_spec (r (p / ks.length) (p % ks.length)) d _ (o_ N)).1;have I:a'.add (p / ks.length*ks.length+p % ks.length)=⟨b,f+p,none⟩:=by rw[o,addr_add,Nat.mul_comm,Nat.div_add_mod]
 exact(M_ w.cell? I).symm.trans this
end
section
variable {H:Type} {enc:TypeId × Value->H} {P:Program} {w:World}
theorem nV.vQ{w:World}{a:Option Addr}{n s:Nat}{x y:Nat->Value}(h:Fx.nV w a n s x)(e : ∀ p,p<n*s->x p=y p):Fx.nV w a n s y:=fun f=>by
 obtain⟨b,j,d,g⟩:=h f;exact⟨b,j,d,fun i c=>by rw[<- e i c]; exact g i c⟩
end
end Go.Proofs.YtcbedgfikejkoaaGreatDoor
namespace Go.Proofs.YtcbedgfikejkoaaGreatDoor
open Go.RowKit Rt
open Fx (Lv sN Ln Ws Wl Wr Sb Wk Wb Wx Wo yP zB fP zC wT zA aA aQ bG ev flat dJ bE nV bK cells_one jg iJ bU cZ dh gZ iH)
namespace Rt
def Qo(L:eF)(c:Option Addr)(d:Nat)(a:Option Addr)(b:Nat):FQ:=⟨L.inn,L.left,L.known,c,L.nn,d,a,L.gn,b⟩
def ndL(L:eF):Nat->Nat->Value:=fun k=>mW (L.id k) (L.par k) (L.R k)
def Yp(L:eF):Nat->Nat->Value:=fun k=>jf (L.g k)
structure LWf(L:eF):Prop where
 n : ∀ k,k<L.nn->jA (L.id k)/\jA (L.par k) /\ ∀ p,p<54->tJ (L.R k p)
 g : ∀ k,k<L.gn->tJ (L.g k 0)/\jA (L.g k 1)/\jA (L.g k 2)/\tJ (L.g k 3)/\jA (L.g k 4)
 k : ∀ i,i<6->jA (L.known i)
 bn:L.nn<=900000
 bg:L.gn<=900000
theorem LWf.of{L:eF}{N:Nat}(a:Inv0 L N)(o:Bp L)(m:yI L)(A:N<=900000):LWf L where
 n:=fun k c=>by
  have y:=a.pos k c;have z:=a.top k c;have f:=lY (a.may k c);refine⟨⟨by omega,by omega⟩,?_,fun p r=>by have:=f p r; exact⟨by omega,by omega⟩⟩
  rcases a.up k c with e|⟨j,b,e⟩
  ·rw[e]; exact⟨by omega,by omega⟩
  ·have h:=a.pos j b;have l:=a.top j b;rw[<- e]; exact⟨by omega,by omega⟩
 g:=fun k c=>by
  obtain⟨d,u,v,w,x⟩:=o.gb k c;obtain⟨s,t⟩:=m.wf k c;obtain⟨j,b,e⟩:=iV.1 d;rw[a.Dm]at b;rw[(a.tid j b).1]at e;have h:=a.pos j b;have l:=a.top j b;exact⟨⟨by omega,by omega⟩,s,by rw[<- e]; exact⟨by omega,by omega⟩,⟨by omega,by omega⟩,t⟩
 k:=fun i q=>by have:=a.kn i q; exact⟨by omega,by omega⟩
 bn:=by have:=a.nn; omega
 bg:=by have:=a.gn; omega
end Rt
structure Qp(w:World)(s:FQ)(L:eF):Prop where
 e:s=Qo L s.na s.nc s.ga s.gc
 n:nV w s.na L.nn 56 (flat 56 (ndL L))
 g:nV w s.ga L.gn 5 (flat 5 (Yp L))
theorem Qp.up{w w':World}{s:FQ}{L:eF}(h:Qp w s L)(a:Below w.heap.size w w'):Qp w' s L:=⟨h.e,h.n.up a rfl,h.g.up a rfl⟩
instance {w w':World} {s:FQ} {L:eF}:Rt.Tr w w' (Qp w s L) (Qp w' s L):=⟨fun b h=>h.up b⟩
theorem Qp.ldg{w:World}{p:Nat}{m:lZ}(h:DX w p m):Qp w m.s m.core:=⟨rfl,h.an,h.ag⟩
theorem Qp.of{w:World}{B:Nat}{m:dP}{s:FQ}{l:List Int}{p:List Ki}{L:eF}{N:Nat}(h:StQ w B m s l p)(d:gy m L)(r:Inv0 L N)(q:yI L):Qp w s L:=by
 have e:=StC.of d r q h.ls h.gs;have f:s.nn=L.nn:=by rw[h.nn,e.nn]
 have i:s.gn=L.gn:=by rw[h.gn,e.gn]
 refine⟨?_,?_,?_⟩
 ·cases s
  unfold Qo;have a:=h.inn;have b:=h.left;have c:=h.known;simp only at a b c f i ⊢;rw[a,b,c,d.inn,d.left,d.known,f,i]
 ·have:=h.n.arr;rw[f]at this;refine nV.vQ this<|bK fun k o j _ => ?_;obtain⟨a,b,c⟩:=e.n k o;unfold Xu ndL;rw[b,c,a]
 have:=h.g.arr;rw[i]at this;refine nV.vQ this<|bK fun k o j _ => ?_;unfold Yo Yp;rw[e.g k o]
namespace Rt
def OB(x y:Value):Nat->Value:=fun q=>if q=0 then x else y
theorem ajN(x y v:Value):dJ (OB x y) 0 v=OB v y:=by funext q; unfold dJ OB; split <;> rfl
theorem ajO(x y v:Value) : ∀ j,j<2->dJ (OB x y) 1 v j=OB x v j:=fun j a=>by
 unfold dJ OB
 rcases j with _|_|j
 ·rfl
 ·rfl
 ·omega
def I7(a:Nat->Nat):Nat->Value:=fun i=>(pt (a i))
def I8(w:World)(B n:Nat)(b:Nat->Nat)(a:Nat->lZ):Prop := ∀ i,i<n->wM w B (b i) (a i)
theorem I8.up{w w':World}{B n:Nat}{b:Nat->Nat}{a:Nat->lZ}(h:I8 w B n b a)(c:Below w.heap.size w w'):I8 w' B n b a:=fun i d=>(h i d).up c
instance {w w':World} {B n:Nat} {c:Nat->Nat} {a:Nat->lZ}:Rt.Tr w w' (I8 w B n c a) (I8 w' B n c a):=⟨fun b h=>h.up b⟩
theorem I8.kV{w w':World}{B n:Nat}{c:Nat->Nat}{b:Nat->lZ}{a:List TypeId}(h:I8 w B n c b)(e:jg a w w')(f:(Lp.all fun T => !a.contains T)=true):I8 w' B n c b:=fun i d=>(h i d).kV e f
instance {w w':World} {B n:Nat} {d:Nat->Nat} {c:Nat->lZ} {a:List TypeId}:Rt.Tc a w w' (I8 w B n d c) (I8 w' B n d c) (Lp.all fun T => !a.contains T):=⟨fun b h e=>h.kV b (by simpa using e)⟩
theorem I8.put{w:World}{B n o p:Nat}{b:Nat->Nat}{a:Nat->lZ}{m:lZ}(h:I8 w B n b a)(d:wM w B p m):I8 w B n (aI b o p) (aI a o m):=fun i c=>by
 unfold aI;by_cases e:i=o
 ·rw[d_ e,d_ e]; exact d
 ·rw[b_ e,b_ e]; exact h i c
theorem I8.snoc{w:World}{B n p:Nat}{b:Nat->Nat}{a:Nat->lZ}{m:lZ}(h:I8 w B n b a)(c:wM w B p m):I8 w B (n+1) (aI b n p) (aI a n m):=fun i d=>by
 unfold aI;by_cases e:i=n
 ·rw[d_ e,d_ e]; exact c
 ·rw[b_ e,b_ e]; exact h i (by omega)
theorem ags{n p:Nat}{a:Nat->Nat}{z:Nat->Value} : ∀ j,j<(n+1)*1->iJ (I7 a) (n*1) (bG z (0*1) 1 (fun _=>(pt p))) j=I7 (aI a n p) j:=by
 intro j b;unfold iJ I7 aI;by_cases h:j<n*1
 ·rw[d_ h,b_ (by omega)]
 rw[b_ h,d_ (by omega)];unfold bG;rw[d_ (by omega)]
theorem Xy{o p:Nat}{a:Nat->Nat}:dJ (I7 a) o (pt p)=I7 (aI a o p):=by
 funext j; unfold dJ I7 aI
 by_cases h:j=o
 ·rw[d_ h,d_ h]
 rw[b_ h,b_ h]
theorem agt{n:Nat}{e:Nat->EvM}{v:EvM}{z:Nat->Value} : ∀ j,j<(n+1)*14->iJ (evX e) (n*14) (bG z (0*14) 14 (bI v)) j=evX (aI e n v) j:=fun j a =>
 (Fx.yQ j a).trans (bK (fun i _ q _=>by unfold Fx.rY aI; split <;> rfl) j a)
structure WM where
 n:Nat
 la:Option Addr
 lc:Nat
 pl:Nat->Nat
 ml:Nat->lZ
 an:Nat
 aa:Option Addr
 ac:Nat
 ev:Nat->EvM
end Rt
structure oL(w:World)(B p:Nat)(M:WM)(T:Nat):Prop where
 c:aQ w p 2 (OB (.slice M.la M.n M.lc) (.slice M.aa M.an M.ac)) 78
 l:Fx.Own w B 29 1 (.slice M.la M.n M.lc) M.n (I7 M.pl)
 a:Fx.Own w B 37 14 (.slice M.aa M.an M.ac) M.an (evX M.ev)
 g:I8 w B M.n M.pl M.ml
 inv : ∀ i,i<M.n->Inv (M.ml i).core T
 wf : ∀ k,k<M.an->gI (M.ev k)
 may : ∀ k,k<M.an->bR (M.ev k)=true
 sm : ∀ k,k<M.an->sH (M.ev k)
 cz:Cz M.n M.an M.ev fun o=>(M.ml o).s.known
 pB:B<=p
 n1:1<=M.n
 n6:M.n<=6
def agu:List Nat := [78,29,37]++Lp
theorem oL.up{w w':World}{B p T:Nat}{M:WM}(h:oL w B p M T)(b:Below w.heap.size w w'):oL w' B p M T := { h with c:=h.c.cu (Sb b) (u_ h.c.lt),l:=h.l.up b,a:=h.a.up b,g:=h.g.up b }
instance {w w':World} {B p T:Nat} {M:WM}:Rt.Tr w w' (oL w B p M T) (oL w' B p M T):=⟨fun b h=>h.up b⟩
theorem oL.kV{w w':World}{B p T:Nat}{M:WM}{e:List TypeId}(h:oL w B p M T)(b:jg e w w')(j:(agu.all fun T => !e.contains T)=true):oL w' B p M T:=by
 have i : ∀ d∈agu,e.contains d=false:=fun d f=>by
  have:=List.all_eq_true.1 j d f
  simpa using this
 exact { h with c:=h.c.kV b (i _ (by decide)),l:=h.l.kV b (i _ (by decide)),a:=h.a.kV b (i _ (by decide)),g:=h.g.kV b (List.all_eq_true.2 fun T f=>List.all_eq_true.1 j T (List.mem_append_right _ f)) }
instance {w w':World} {B p T:Nat} {M:WM} {a:List TypeId}:Rt.Tc a w w' (oL w B p M T) (oL w' B p M T) (agu.all fun T => !a.contains T):=⟨fun b h e=>h.kV b (by simpa using e)⟩
theorem aaw{w:World}{B p k a:Nat}(d:aQ w p 27 (nk (jL k a)) 56)(f:aQ w a 1 (fun _ => .slice none 0 0) 156)(h1:B<=p)(b:B<=a):wM w B p (jL k a) where
 c:=d
 n:=wT _ _ _ _ _
 g:=wT _ _ _ _ _
 tc:=f
 t:=wT _ _ _ _ _
 r:=⟨fun _ _=>wT _ _ _ _ _,fun _ _ _ _ _ _ e=>by cases e⟩
 pB:=h1
 tB:=b
 bn:=L_ _
 bg:=L_ _
 bt:=L_ _
 br:=fun _ _=>L_ _
theorem Rt.Cv(k a:Nat):Inv (jL k a).core 0 where
 Dm:=rfl
 nn:=L_ _
 tid:=fun _ h=>N_ h (z_ _)
 rise:=fun _ _ _ h=>N_ h (z_ _)
 pos:=fun _ h=>N_ h (z_ _)
 top:=fun _ h=>N_ h (z_ _)
 up:=fun _ h=>N_ h (z_ _)
 dep:=fun _=>⟨0,L_ _,by show(-1:Int)<0; decide⟩
 gn:=A_ _
 rn:=fun _ _=>A_ _
 may:=fun _ h=>N_ h (z_ _)
 g47:=fun _ h=>N_ h (z_ _)
 kn:=fun _ _=>⟨O_ _,by show(0:Int)<_; decide⟩
 s:=⟨fun _ h=>N_ h (z_ _),fun _ h=>N_ h (z_ _)⟩
 b:=⟨fun _ _=>O_ _,fun _ h=>N_ h (z_ _),fun _ _ _ h=>N_ h (z_ _)⟩
set_option maxRecDepth 20000 in
theorem OC(n:Nat)(w:World)(V:1<=n)(W:n<=6) :
 Calls Tryz.prog 27 #[au (n:Int)] w fun e w' => ∃ p M,e = .returned (pt p)/\M.n=n/\M.an=0/\(∀ i,(M.ml i).core=(jL n 0).core)/\oL w' w.heap.size p M 0/\Below w.heap.size w w':=by
 refine Kent Tryz.func27 30 ?_;refine ay<|av (.pointer none)<|aD<|ay<|av (.agg (aA 2 (fun _ => .slice none 0 0)))<|pO fun b P ku X s1 z1 => ?_;have b1:=bB s1.old (Below.refl w.heap.size w);have tC:=gN ku;have uK:=X.lt;refine av (pt b)<|aD<|Ws<|ay<|av (au 0)<|aD<|Wb ?_;have m2:aQ P b 2 (OB (.slice none 0 0) (.slice none 0 0)) 78:=X.congr (fun j _=>by unfold OB; split <;> rfl)
 have m3:Fx.Own P w.heap.size 29 1 (.slice none 0 0) 0 (I7 (fun _=>0)):=wT _ _ _ _ _;have m4:I8 P w.heap.size 0 (fun _=>0) (fun _=>jL n 0):=fun _ h=>N_ h (z_ _);refine Wo (fun f G => ∃ k:Nat,∃ a:Option Addr,∃ u:Nat,∃ t:Nat->Nat,∃ r:Nat->lZ,k<=n/\(∀ i,∃ z,r i=jL n z)/\f 0=au (n:Int)/\f 3=(pt b)/\f 4=au (k:Int)/\aQ G b 2 (OB (.slice a k u) (.slice none 0 0)) 78/\Fx.Own G w.heap.size 29 1 (.slice a (k) (u)) k (I7 t)/\I8 G w.heap.size k t r/\Below w.heap.size w G) (fun f _=>(n-(intOf (f 4)).toNat)) ⟨0,none,0,(fun _=>0),(fun _=>jL n 0),by omega,(fun _=>⟨0,rfl⟩),Fx.ic,(by rfl),Fx.ic,m2,m3,m4,b1⟩ ?_;rintro f1 w2 ⟨k,a,u,t,r,hk,F,J,E,K,m5,m6,m7,A⟩;refine Ws<|ay<|aU K<|aU J ?_;by_cases S:(k:Int)<(n:Int)
 ·refine Lv aG (iD S)<|aD<|aN<|Wk<|sN<|Ws<|Wb<|ay<|aU J<|kF (aiu n _ V W) ?_;rintro e9 w3 ⟨d,O,T,hp3,_,hb3,hc3,ht3,arI⟩;refine⟨.tuple #[(pt d),au 0],T,?_⟩;clear T;have⟨N,m9,m10,Q⟩:=jW hb3 m5 m6 m7 A;have hL1:wM w3 w.heap.size d (jL n O):=aaw hc3 ht3 (m_ A.size hp3) (m_ A.size arI);refine av (.tuple #[(pt d),au 0])<|av (pt d)<|av (au 0)<|av (pt d)<|av (au 0)<|aD<|Wl<|aU E<|aU E<|av (pt b)<|av (pt b)<|Lv (.slice a (k) (u)) (aM N.aH 0)<|av (pt d)<|yP (vs := [(0,(pt d))]) (s:=1) (zc:=fun _ => .pointer none) (y:=bG (fun j => .pointer none) (0*1) 1 (fun _=>(pt d))) (by rfl) rfl rfl Tryz.underlying75 (by kernel_rfl) (by rfl) (by rfl) (by kernel_rfl) (by rw[bE (off:=0*1) (s:=1) (y:=fun _=>(pt d)) rfl (cells_one (by rfl)) (by rfl)]; rfl) rfl fun g2 w4 I Y s3 z2 => ?_;have⟨m12,L,m14,m15,H⟩:=nE s3.old N m9 m10 hL1 Q;have qX:=iK I Q.size;have Gj:=cO I N.lt;have Br:(.slice a (k) (u):Value).ownBlock≠some g2:=by rw[I]; exact m9.kM (A_ _)
  have zM:=Y.lt;refine zB (B:=w.heap.size) (s:=1) (bytes:=8) (k:=k) (m:=1) (v := .slice a (k) (u)) (x:=I7 t) (by rfl) rfl rfl rfl Tryz.underlying75 (by kernel_rfl) (by kernel_rfl) rfl rfl L Y.aH (zP (fun _=>rfl)) (by omega) (by omega) (by omega) H.size fun D C w5 ho1 U xg hlt1 => ?_;have gF:=zC U L;have⟨Z,m18,m19⟩:=BO gF m12 m14 m15;have m16:Fx.Own w5 w.heap.size 29 1 (bM D (k+1) C) (k+1) (I7 (aI t k d)):=(ho1.congr (fun j hj=>ags j hj));have R:Below w.heap.size w w5:=zA H U H.size (fun q hq=>(L.ge hq).1);refine av (pt b)<|av (pt b)<|ji Z 0 (bM D (k+1) C) fun w6 m20 s4 z3 => ?_;have m21:aQ w6 b 2 (OB (bM D (k+1) C) (.slice none 0 0)) 78:=m20.to (ajN _ _ _);have jT:=fP s4 Z.ty;have⟨m22,m23,m24⟩:=BO jT m18 m19 m16;have b6:=s4.below R R.size (by omega);refine Ln<|bU<|sN<|Wl<|aU K<|Lv (au ((k:Int)+1)) fH<|av (au ((k:Int)+1))<|Ln ?_;have nW:I8 w6 w.heap.size (k+1) (aI t k d) (aI r k (jL n O)):=m22.snoc m23
  skip
  refine iH ⟨k+1,(some ⟨D,0,none⟩),C,(aI t k d),(aI r k (jL n O)),by omega,(fun i=>by unfold aI; split <;> first|exact⟨_,rfl⟩|exact F i),(J.trans Fx.ic),E,Fx.ic,m21,m24,nW,b6⟩ ?_
  show(n-(intOf (au ((k:Int)+1))).toNat)<_;simp only[K,intOf]; omega
 refine Lv aF (iE S)<|aD<|aK<|Wx<|cZ<|gZ<|dh<|sN<|ay<|aU E<|av (pt b)<|aD<|Wr<|aJ (pt b) ?_;obtain rfl:k=n:=by omega
 exact⟨b,⟨k,a,u,t,r,0,none,0,fun _=>⟨0,0,fun _=>0,0,0,0,0,0,0⟩⟩,rfl,rfl,rfl,(fun i=>by obtain⟨z,e⟩:=F i; show(r i).core=_; rw[e]; rfl),{ c:=m5,l:=m6,a:=wT _ _ _ _ _,g:=m7,inv:=fun i _=>by obtain⟨z,e⟩:=F i; show Inv (r i).core 0; rw[e]; exact Cv k z,wf:=fun _ h=>N_ h (z_ _),may:=fun _ h=>N_ h (z_ _),sm:=fun _ h=>N_ h (z_ _),cz:=Cz.zero k (fun o _=>by obtain⟨z,e⟩:=F o; show(r o).s.known=_; rw[e]; rfl),pB:=tC,n1:=V,n6:=W },A⟩
end Go.Proofs.YtcbedgfikejkoaaGreatDoor
namespace Go.Proofs.YtcbedgfikejkoaaGreatDoor
open Go.RowKit Go Rt
namespace Rt
section
variable {L:eF} {N:Nat} {v:EvM}
theorem OD(b:Inv0 L N)(h:Bp L):Bp (bP L v):=by
 unfold bP;by_cases c:bD L v=0
 ·rw[d_ c];have a:=(EA (iA c)).1;have d:dQ L v=0:=by
   unfold bD at c;rw[b_ (by rw[a]; decide)]at c;split at c; · cases c
   split at c; · cases c
   split at c; · cases c
   exact c
  have:=IG b h a d;exact⟨this.us,this.gb⟩
 rw[b_ c]; exact h
def jd(L:eF)(x i:Int):Int:=if L.node x<0 then 0 else fU (L.R (L.node x).toNat) i
theorem OE(i:Int):fU Gs i=0:=by
 unfold fU;by_cases c:(iq i&&may Gs)=true
 ·rw[d_ c];rw[T_]at c;obtain⟨a,d,e,b⟩:=qx c.1;have:=vX (lY c.2) a d;rw[b,this]; rfl
 rw[b_ c]
theorem gy.local{m:dP}(h:gy m L)(a:Inv0 L N)(x i:Int):fU (aW m x) i=jd L x i:=by
 unfold aW jd;by_cases c:L.node x<0
 ·rw[b_ (by rw[(h.Mw a x).2 c]; decide),d_ c]; exact OE i
 rw[d_ ((h.node a x).2 (by omega)),b_ c,h.rk a (by omega)]
structure I9(m m':dP):Prop where
 et:m'.tp=m.tp
 em:m'.mb=m.mb
 ep:m'.pb=m.pb
 er:m'.rb=m.rb
 eg:m'.gb=m.gb
 ea:m'.ab=m.ab
theorem I9.refl(m:dP):I9 m m:=⟨rfl,rfl,rfl,rfl,rfl,rfl⟩
theorem I9.trans{a b c:dP}(h:I9 a b)(k:I9 b c):I9 a c:=⟨k.et.trans h.et,k.em.trans h.em,k.ep.trans h.ep,k.er.trans h.er,k.eg.trans h.eg,k.ea.trans h.ea⟩
end
end Rt
structure xU(w:World)(B lp:Nat)(m:dP)(L:eF)(N:Nat):Prop where
 q:lS w B lp m
 s:gy m L
 i:Inv0 L N
 u:Bp L
 g:yI L
section
variable {w w':World} {B lp:Nat} {m:dP} {L:eF} {N:Nat} {v:EvM}
theorem xU.up(h:xU w B lp m L N)(a:Below w.heap.size w w'):xU w' B lp m L N := { h with q:=h.q.up a }
instance:Rt.Tr w w' (xU w B lp m L N) (xU w' B lp m L N):=⟨fun b h=>h.up b⟩
theorem xU.kV{a:List TypeId}(h:xU w B lp m L N)(b:Fx.jg a w w')(c:(a.contains 114 || a.contains 165)=false):xU w' B lp m L N := { h with q:=h.q.kV b c }
instance {a:List TypeId}:Rt.Tc a w w' (xU w B lp m L N) (xU w' B lp m L N) (!(a.contains 114 || a.contains 165)):=⟨fun b h e=>h.kV b (by simpa using e)⟩
theorem xU.weak{a:Nat}(h:xU w B lp m L N)(b:a<=B):xU w a lp m L N := { h with q:=h.q.weak b }
theorem xU.mono{a:Nat}(h:xU w B lp m L N)(b:N<=a):xU w B lp m L a := { h with i:=h.i.mono b }
theorem xU.wf(h:xU w B lp m L N)(a:N<=900000):LWf L:=LWf.of h.i h.u h.g a
theorem lS.ql(h:lS w B lp m)(a:Fx.jI (RS m lp w.heap.size) w w')(c:B<=w.heap.size):Below B w w':=⟨a.os,a.tape,a.output,a.size,fun k d=>a.block k (by omega) fun b=>by
 rcases b with b|b
 ·have:=(h.ltS b).1; omega
 ·omega⟩
theorem lS.typed(h:lS w B lp m)(d:Fx.jI (RS m lp w.heap.size) w w'):Fx.zH [114] w w':=⟨d.os,d.tape,d.output,d.size,fun k T b e=>d.block k b.ltw fun f=>by
 rcases f with (rfl|rfl|rfl|rfl|rfl|rfl)|f
 ·have:=Fx.Ty.only h.c.ty b;rw[this]at e; simp at e
 ·exact h.t.map.sZ b
 ·exact h.p.sZ b
 ·exact h.r.sZ b
 ·exact h.g.sZ b
 ·exact h.a.sZ b
 ·have:=b.ltw; omega⟩
theorem Gx{B:Nat}{a b c:World}(h:Below a.heap.size a b)(e:Below B b c)(d:a.heap.size<=B):Below a.heap.size a c:=h.trans (e.mono d)
theorem nR{P:Program}{g:Nat}{a b:Array Value}{w:World}{R:Ending->World->Prop}(h:Calls P g b w R)(e:a=b):Calls P g a w R:=e ▸ h
theorem Qq{x:Value}{y:Nat->Value}(hy : ∀ j,j<14->y j=bI v j):(#[x,.agg (Fx.aA 14 y)]:Array Value) = #[x,.agg (Fx.aA 14 (bI v))]:=M_ (fun z=>(#[x,.agg z]:Array Value)) (Fx.dS hy)
theorem acr(k:Nat)(d:1<=k/\k<=6)(w:World):Calls Tryz.prog 29 #[au (k:Int)] w fun e w' => ∃ lp m,e = .returned (.tuple #[(pt lp),au 0])/\xU w' w.heap.size lp m (jL k 0).core 0/\Below w.heap.size w w' :=
 (ajH k d w).mono fun e w' ⟨lp,m,c,⟨n,i,j,l,h,g,a⟩,f,b⟩=>⟨lp,m,c,⟨f,by rw[a]; exact gy.new ..,(Cv k 0).toInv0,(Cv k 0).s,Mx k 0⟩,b⟩
theorem Qr(h:xU w B lp m L N)(b:gI v)(c:1<=B)(d:Fx.iU w 0 0 8 Ct){y:Nat->Value}(hy : ∀ j,j<14->y j=bI v j) :
 Calls Tryz.prog 20 #[(pt lp),.agg (Fx.aA 14 y)] w fun e w'=>e = .returned (au (bD L v))/\xU w' B lp (gX m v) (bP L v) (N+1)/\Fx.jI (RS m lp w.heap.size) w w':=by
 have a:=h.s.apply h.q.t.inv h.i v;refine nR ((aaf m lp B w h.q v b (h.s.sound h.q.t.inv h.i) c d).mono fun e w' ⟨k,l,f⟩=>⟨by rw[k,a.1],⟨l,a.2,Bo h.i,OD h.i h.u,Gv h.g b⟩,f⟩) (Qq hy)
theorem aax(h:xU w B lp m L N)(g:gI v)(a:1<=B)(b:Fx.iU w 0 0 8 Ct){y:Nat->Value}(hy : ∀ j,j<14->y j=bI v j) :
 Calls Tryz.prog 19 #[(pt lp),.agg (Fx.aA 14 y)] w fun e w'=>e = .returned (au (bD L v))/\Below w.heap.size w w':=by
 have f:=h.s.apply h.q.t.inv h.i v;refine nR ((arn m lp B w h.q v g (h.s.sound h.q.t.inv h.i) a b).mono fun e w' ⟨d,c⟩=>⟨by rw[d,f.1],c⟩) (Qq hy)
theorem Qu(h:xU w B lp m L N):Calls Tryz.prog 21 #[(pt lp)] w fun e w'=>e = .returned (.agg (Fx.aA 6 (Fx.rv .u64 L.known)))/\Below w.heap.size w w':=by
 rw[<- h.s.known]; exact aag m lp B w h.q
theorem Kj(h:xU w B lp m L N)(i x:Int)(hi : -9223372036854775808<=i/\i<=9223372036854775807):Calls Tryz.prog 31 #[(pt lp),au i,aC x] w fun e w'=>e = .returned (au (jd L x i))/\Below w.heap.size w w':=by
 rw[<- h.s.local h.i]; exact aah m lp B w h.q i x hi
def lsP(L:eF)(x:Int):Nat->Value:=Fx.rv .u64 fun q=>aZ L.t L.tn q x
theorem agv(h:xU w B lp m L N)(x:Int):Calls Tryz.prog 30 #[(pt lp),aC x] w fun e w' => ∃ a c,e = .returned (.slice a (bO L.t L.tn x) c)/\Fx.Own w' w.heap.size 23 1 (.slice a (bO L.t L.tn x) c) (bO L.t L.tn x) (lsP L x)/\Below w.heap.size w w':=by
 obtain⟨d,l⟩:=h.s.T.path h.q.t.inv h.i x;refine(agf m lp B w h.q x).mono fun e w' ⟨a,c,g,b,f⟩=>⟨a,c,by rw[g,d],?_,f⟩;unfold Yl at b;rw[d]at b;exact b.congr fun j k=>by
  rw[Nat.mul_one]at k;show Value.int .u64 ((m.T.path x).getD j 0)=aC (aZ L.t L.tn j x);rw[l j (by omega)]
structure Nb(w:World)(B:Nat)(s:FQ)(L:eF):Prop where
 e:s=Qo L s.na s.nc s.ga s.gc
 n:Fx.Own w B 84 56 (.slice s.na L.nn s.nc) L.nn (Fx.flat 56 (ndL L))
 g:Fx.Own w B 106 5 (.slice s.ga L.gn s.gc) L.gn (Fx.flat 5 (Yp L))
theorem Nb.r{s:FQ}(h:Nb w B s L):Qp w s L:=⟨h.e,h.n.arr,h.g.arr⟩
theorem Nb.up{s:FQ}(h:Nb w B s L)(a:Below w.heap.size w w'):Nb w' B s L:=⟨h.e,h.n.up a,h.g.up a⟩
instance {s:FQ}:Rt.Tr w w' (Nb w B s L) (Nb w' B s L):=⟨fun b h=>h.up b⟩
theorem Nb.kV{s:FQ}{a:List TypeId}(h:Nb w B s L)(c:Fx.jg a w w')(b:(a.contains 84 || a.contains 106)=false):Nb w' B s L:=by
 rw[Bool.or_eq_false_iff]at b;exact⟨h.e,h.n.kV c b.1,h.g.kV c b.2⟩
instance {s:FQ} {a:List TypeId}:Rt.Tc a w w' (Nb w B s L) (Nb w' B s L) (!(a.contains 84 || a.contains 106)):=⟨fun b h e=>h.kV b (by simpa using e)⟩
theorem Nb.om{s:FQ}{a:List TypeId}(h:Nb w B s L)(c:Fx.zH a w w')(b:(a.contains 84 || a.contains 106)=false):Nb w' B s L:=by
 rw[Bool.or_eq_false_iff]at b;exact⟨h.e,h.n.om c b.1,h.g.om c b.2⟩
theorem Qw(h:xU w B lp m L N)(z:N<=900000):Calls Tryz.prog 18 #[(pt lp)] w fun e w' => ∃ s,e = .returned (.agg (Fx.aA 20 (rF s)))/\Nb w' w.heap.size s L/\Below w.heap.size w w':=by
 refine(aat m lp B w h.q (by rw[h.s.gn]; have:=h.i.gn; omega)).mono fun e w' ⟨s,l,y,x,a,v⟩=>⟨s,x,?_,v⟩;have b:=StC.of h.s h.i h.g a.ls a.gs;have o:s.nn=L.nn:=by rw[a.nn,b.nn]
 have p:s.gn=L.gn:=by rw[a.gn,b.gn]
 have f:=a.n;have d:=a.g;rw[o]at f;rw[p]at d;refine⟨(Qp.of a h.s h.i h.g).e,f.congr (Fx.bK fun k c j _ => ?_),d.congr (Fx.bK fun k c j _ => ?_)⟩
 ·obtain⟨r,t,u⟩:=b.n k c;unfold Xu ndL;rw[t,u,r]
 unfold Yo Yp;rw[b.g k c]
end
end Go.Proofs.YtcbedgfikejkoaaGreatDoor
namespace Go.Proofs.YtcbedgfikejkoaaGreatDoor
open Go.RowKit Rt
open Fx (bf dF gH eG gD Lv sN Ln Ws Qv Wl Wc Wr Sb Wk rV Wb qZ Qn fP A9 rv aA aQ bG ev Stp aL dJ aS bE iM bJ cells_one bA qR jQ bU)
namespace Rt
def SV:Int:=1099511627777
def ajP(n:Int)(i:Nat):Int:=if i=0 then n else 0
def vA:EvM:=⟨1,1,fun _=>0,1,0,0,10,0,0⟩
def vC:EvM:=⟨1,2,ajP 1,5,SV,2,4,0,0⟩
def vD:EvM:=⟨2,1,ajP 2,3,SV,0,4,1,0⟩
theorem Xz{m:dP}(b:m.T.ok)(v:EvM):(gX m v).T.ok:=by
 unfold gX;by_cases c:bZ m v=0
 ·rw[d_ c];have e:=qI c;have a:=(qJ c).2.1;have f:=nI e;show(iZ m v).T.ok;unfold fG at a;unfold iZ;by_cases k1:v.kind=1
  ·rw[d_ k1]at a ⊢;have d:m.T.err (nU v) v.node=0:=by
    unfold jr at a;split at a
    ·cases a
    ·exact a
   exact CB.put b d (by unfold nU; omega)
  rw[b_ k1]
  repeat' split
  all_goals exact b
 rw[b_ c]; exact b
structure DJ(m:dP)(L:eF)(N:Nat):Prop where
 s:gy m L
 t:m.T.ok
 i:Inv0 L N
theorem DJ.new(k:Nat):DJ (yH k 0 0 0 0 0 0) (jL k 0).core 0:=⟨gy.new ..,CB.zero _ _,(Cv k 0).toInv0⟩
theorem DJ.apply{m:dP}{L:eF}{N:Nat}(h:DJ m L N)(v:EvM):DJ (gX m v) (bP L v) (N+1):=⟨(h.s.apply h.t h.i v).2,Xz h.t v,Bo h.i⟩
theorem DJ.err{m:dP}{L:eF}{N:Nat}(h:DJ m L N)(v:EvM){c:Int}(e:bZ m v=c):bD L v=c:=(h.s.apply h.t h.i v).1.symm.trans e
theorem DJ.loc{m:dP}{L:eF}{N:Nat}(h:DJ m L N)(x i:Int){c:Int}(e:fU (aW m x) i=c):jd L x i=c:=(h.s.local h.i x i).symm.trans e
noncomputable def wq0:dP:=yH 2 0 0 0 0 0 0
noncomputable def Et:dP:=gX wq0 vA
noncomputable def wq2:dP:=gX Et vC
noncomputable def wq3:dP:=gX wq2 vD
theorem tw0:DJ wq0 (jL 2 0).core 0 := .new 2
end Rt
namespace Rt
structure Gy where
 who:Nat
 meet:Bool
 other:Nat
 kind:Nat
 node:Nat
 dst:Nat
 aT:Nat
 req:Nat
 of:Nat
structure Ja(x:Gy):Prop where
 who:x.who<=255
 other:x.other<=255
 kind:x.kind<=255
 node:x.node<=255
 dst:x.dst<=255
 aT:x.aT<=65535
 req:x.req<=255
 of:x.of<=255
def Ho(x:Gy):Nat->Value:=fun p=>if p=0 then .int .u8 (x.who:Int)else if p=1 then .bool x.meet else if p=2 then .int .u8 (x.other:Int)else if p=3 then .int .u8 (x.kind:Int)else if p=4 then .int .u8 (x.node:Int)else if p=5 then .int .u8 (x.dst:Int)else if p=6 then .int .u16 (x.aT:Int)else if p=7 then .int .u8 (x.req:Int)else .int .u8 (x.of:Int)
theorem EG{k n r:Nat}(e:r=k % n):Int.tmod (k:Int) (n:Int)=(r:Int):=by
 rw[Int.tmod_eq_emod_of_nonneg (by omega),e];exact(Int.natCast_emod k n).symm
theorem Fb(V:EvM)(x:Int) : ∀ j,j<14->dJ (bI V) 9 (aC x) j=bI { V with node:=x } j:=fun j a=>by
 rcases j with _|_|_|_|_|_|_|_|_|_|_|_|_|_|j <;> first|rfl|omega
theorem XA(V:EvM)(x:Int) : ∀ j,j<14->dJ (bI V) 10 (au x) j=bI ⟨V.o,V.seq,V.deps,V.kind,V.node,x,V.aT,V.req,V.of⟩ j:=fun j a=>by
 rcases j with _|_|_|_|_|_|_|_|_|_|_|_|_|_|j <;> first|rfl|omega
theorem Gz(V:EvM)(x:Int) : ∀ j,j<14->dJ (bI V) 11 (au x) j=bI { V with aT:=x } j:=fun j a=>by
 rcases j with _|_|_|_|_|_|_|_|_|_|_|_|_|_|j <;> first|rfl|omega
theorem XB(V:EvM)(x:Int) : ∀ j,j<14->dJ (bI V) 12 (aC x) j=bI { V with req:=x } j:=fun j a=>by
 rcases j with _|_|_|_|_|_|_|_|_|_|_|_|_|_|j <;> first|rfl|omega
theorem ajQ(V:EvM)(x:Int) : ∀ j,j<14->dJ (bI V) 13 (aC x) j=bI { V with of:=x } j:=fun j a=>by
 rcases j with _|_|_|_|_|_|_|_|_|_|_|_|_|_|j <;> first|rfl|omega
end Rt
set_option maxRecDepth 20000 in
set_option maxHeartbeats 2000000 in
theorem aay(M:WM)(B p T:Nat)(x:Gy)(w:World)(Z:oL w B p M T)(hx:Ja x) :
 Calls Tryz.prog 57 #[(pt p),.agg (aA 9 (Ho x))] w fun e w' => ∃ V,gI V/\sH V/\(V.o=((x.who % M.n:Nat):Int)+1/\V.seq=(M.ml (x.who % M.n)).s.known (x.who % M.n)+1/\V.deps=(M.ml (x.who % M.n)).s.known)/\e = .returned (.agg (aA 14 (bI V)))/\Below w.heap.size w w':=by
 have hWc:=Z.c;have hWl:=Z.l;have hWa:=Z.a;have hWg:=Z.g;have hn1:=Z.n1;have hn6:=Z.n6;have hpB:=Z.pB;have lpp:p<w.heap.size:=hWc.lt;have hxw:=hx.who;have hxo:=hx.other;have hxk:=hx.kind;have hxn:=hx.node;have hxt:=hx.dst;have hxa:=hx.aT;have hxr:=hx.req;have hxf:=hx.of;refine Kent Tryz.func57 143 ?_;refine ay<|pO fun G w1 ku m1 s1 z1 => ?_;have⟨m2,m3,m4,m5,b1⟩:=nE s1.old hWc hWl hWa hWg (Below.refl w.heap.size w);have tC:=gN ku;have nK:=cO ku hWc.lt;have uK:=m1.lt;refine nS 14 zQ0 fun U w2 uO m6 s2 z2 => ?_;have⟨m7,m8,m9,m10,m11,b2⟩:=rz s2.old m2 m3 m4 m5 m1 b1;have qX:=iK uO b1.size;have Px:=cO uO m2.lt;have L9:(.slice M.aa (M.an) (M.ac):Value).ownBlock≠some U:=by rw[uO]; exact m4.kM (A_ _)
 have Gi:=cO uO m1.lt;have zM:=m6.lt;refine aD<|Ws ?_;obtain⟨o,eo⟩ : ∃ r,r=x.who % M.n:=⟨_,rfl⟩;have ho:o<M.n:=by rw[eo]; exact K_ _ (by omega)
 refine Af<|aX (pt G)<|Qv (.int .u8 (x.who:Int)) (fun E D=>aM (m11.aH.dr D) 0)<|Qv (au x.who) (fun E D=>dF rfl rfl (by kernel_rfl) Tryz.underlying3 (iM (by omega) rfl))<|aX (pt p)<|aX (pt p)<|aX (pt p)<|Qv (.slice M.la (M.n) (M.lc)) (fun E D=>aM (m7.aH.dr D) 0)<|aX (au M.n)<|Qv (au o) (fun E D=>Fx.xZ rfl rfl rfl (by omega) (EG eo))<|aX (au o)<|Qn ?_;rintro _ ⟨qd,rfl⟩;obtain⟨Et,pY⟩ : ∃ E,E=World.drewN w2 qd:=⟨_,rfl⟩;rw[<- pY];have s3:Stp w2.heap.size w2 Et:=by rw[pY]; exact Sb (jX w2 qd)
 have⟨m12,m13,m14,m15,m16,m17,b3⟩:=jJ s3.old m7 m8 m9 m10 m11 m6 b2;clear pY;refine sN<|ay<|av (pt p)<|av (pt p)<|av (pt p)<|Lv (.slice M.la (M.n) (M.lc)) (aM m12.aH 0)<|av (au o) ?_;obtain⟨DZ,eq1⟩:=m13.addr (by omega);have m18:Fx.Own Et B 29 1 (bM DZ M.n M.lc) M.n (I7 M.pl):=m13.fu (M_ (fun q=>Value.slice q M.n M.lc) eq1);refine Lv (pf DZ o) (dB 1 (hx:=(rfl.trans (M_ (fun q=>Value.slice q (M.n) (M.lc)) eq1))))<|Lv (pt (M.pl o)) (aM m18.aH o)<|av (pt (M.pl o))<|aD<|Ws ?_;obtain⟨H,ajR⟩ : ∃ r,r=x.kind % 7:=⟨_,rfl⟩;have ayW:H<7:=by rw[ajR]; exact K_ _ (by omega)
 have aaz:=m15 o (by omega);have GA:=aaz.c;have ajS:=aaz.n;have hkn:=(Z.inv o (by omega)).kn;have hko:=hkn o (by omega);have hko:0<=(M.ml o).s.known o/\(M.ml o).s.known o<1099511627776:=hko;have hU : ∀ k,k<(M.ml o).s.nn->jA ((M.ml o).id k):=fun k hk=>by have Y:=(Z.inv o (by omega)).pos k hk; have I:=(Z.inv o (by omega)).top k hk; exact⟨by show(0:Int)<=(M.ml o).core.id k; omega,by show(M.ml o).core.id k<=_; omega⟩
 have hbn:=(Z.g o (by omega)).bn;refine qZ (T:=37) (T':=37) (a := .tmp 7) (v := .tmp 44) (m:=14) (z:=fun h=>if h<1 then au 0 else if h<8 then aC 0 else if h<9 then .int .u8 (0)else if h<10 then aC 0 else if h<12 then au 0 else aC 0) (y:=bG (bG (bG (bG zQ0 0 1 (fun _=>au ((o:Int)+1))) 1 1 (fun _=>aC ((M.ml o).s.known o+1))) 2 6 (rv .u64 ((M.ml o).s.known))) 8 1 (fun _ => .int .u8 ((H:Int)+1))) (u := .agg (aA 14 (bG (bG (bG (bG zQ0 0 1 (fun _=>au ((o:Int)+1))) 1 1 (fun _=>aC ((M.ml o).s.known o+1))) 2 6 (rv .u64 ((M.ml o).s.known))) 8 1 (fun _ => .int .u8 ((H:Int)+1))))) 20 21 (List.replicate 22 (0,2,[],[])) #[au (o:Int),au ((o:Int)+1),(pt (M.pl o)),au (o:Int),(pt (M.pl o)),(pt (M.pl o)),(pf (M.pl o) 12),(pf (M.pl o) (o+12)),aC ((M.ml o).s.known o),aC ((M.ml o).s.known o+1),(pt (M.pl o)),(pt (M.pl o)),(pt (M.pl o)),(pf (M.pl o) 12),.agg (aA 6 (rv .u64 ((M.ml o).s.known))),(pf G 3),.int .u8 (x.kind:Int),.int .u8 (H:Int),.int .u8 ((H:Int)+1),.agg (aA 14 (bG (bG (bG (bG zQ0 0 1 (fun _=>au ((o:Int)+1))) 1 1 (fun _=>aC ((M.ml o).s.known o+1))) 2 6 (rv .u64 ((M.ml o).s.known))) 8 1 (fun _ => .int .u8 ((H:Int)+1)))),undef,undef] (by kernel_rfl) (by kernel_rfl) (by kernel_rfl) (by kernel_rfl) (by kernel_rfl) (by kernel_rfl) rfl (by kernel_rfl) rfl rfl (by kernel_rfl) (fun A=>(show ev _ (.tmp 7)=(pt A)from by kernel_rfl)) (fun A=>(show ev _ (.tmp 44) = .agg (aA 14 (bG (bG (bG (bG zQ0 0 1 (fun _=>au ((o:Int)+1))) 1 1 (fun _=>aC ((M.ml o).s.known o+1))) 2 6 (rv .u64 ((M.ml o).s.known))) 8 1 (fun _ => .int .u8 ((H:Int)+1))))from by kernel_rfl)) (bJ _ _) (bA (bA (bA (bA (fun jq _=>by show(zQ0 jq).oneCell'=true; simp only[zQ0]; repeat (first|rfl|split)) (fun _ _=>rfl)) (fun _ _=>rfl)) (fun _ _=>rfl)) (fun _ _=>rfl)) (by kernel_rfl) (fun A => ?_) ?_
 ·refine⟨?_,?_,?_,?_,?_,?_,?_,?_,?_,?_,?_,?_,?_,?_,?_,?_,?_,?_,?_,?_,?_,?_,trivial⟩
  ·exact .inr (.inr qQ)
  ·exact .inr (.inr (uo (au ((o:Int)+1)) fun E D=>Fx.KE rfl (show ev _ (.tmp 25)=au (o:Int)from by kernel_rfl) (show ev _ (.const (au 1))=au 1 from by kernel_rfl) Fx.io))
  ·exact .inr (.inr qQ)
  ·exact .inr (.inr qQ)
  ·exact .inr (.inr qQ)
  ·exact .inr (.inr qQ)
  ·exact .inr (.inr qQ)
  ·exact .inr (.inr (uo (pf (M.pl o) (o+12)) fun E D=>gH rfl (show ev _ (.tmp 31)=(pf (M.pl o) 12)from by kernel_rfl) (show ev _ (.tmp 28)=au (o:Int)from by kernel_rfl) Tryz.underlying35 (s:=1) (by kernel_rfl) (by omega) (by omega) (by omega)))
  ·exact .inr (.inr (uo (aC ((M.ml o).s.known o)) fun E D=>bf (x:=nk (M.ml o)) rfl (show ev _ (.tmp 32)=(pf (M.pl o) (o+12))from by kernel_rfl) (by kernel_rfl) (GA.aH.below D (by have:=GA.lt; omega)) (i:=o+12) (by omega) (by omega) (mI _ (by omega) (nO _ (by omega) (by omega)))))
  ·exact .inr (.inr (uo (aC ((M.ml o).s.known o+1)) fun E D=>Fx.KE rfl (show ev _ (.tmp 33)=aC ((M.ml o).s.known o)from by kernel_rfl) (show ev _ (.const (aC 1))=aC 1 from by kernel_rfl) (jQ (by omega) (by omega))))
  ·exact .inr (.inr qQ)
  ·exact .inr (.inr qQ)
  ·exact .inr (.inr qQ)
  ·exact .inr (.inr qQ)
  ·exact .inr (.inr (uo (.agg (aA 6 (rv .u64 ((M.ml o).s.known)))) fun E D=>eG (x:=nk (M.ml o)) (y:=rv .u64 ((M.ml o).s.known)) rfl (show ev _ (.tmp 38)=(pf (M.pl o) 12)from by kernel_rfl) (by kernel_rfl) (by kernel_rfl) (GA.aH.below D (by have:=GA.lt; omega)) (i:=12) (by omega) (by omega) (fun j C=>mI _ (by omega) (nO _ C (by omega)))))
  ·exact .inr (.inr qQ)
  ·exact .inr (.inr (uo (.int .u8 (x.kind:Int)) fun E D=>bf (x:=Ho x) rfl (show ev _ (.tmp 40)=(pf G 3)from by kernel_rfl) (by kernel_rfl) (m16.aH.below D (by have:=m16.lt; omega)) (i:=3) (by omega) (by omega) rfl))
  ·exact .inr (.inr (uo (.int .u8 (H:Int)) fun E D=>Fx.xZ rfl (show ev _ (.tmp 41) = .int .u8 (x.kind:Int)from by kernel_rfl) (show ev _ (.const (.int .u8 (7))) = .int .u8 (7)from by kernel_rfl) (by omega) (EG ajR)))
  ·exact .inr (.inr (uo (.int .u8 ((H:Int)+1)) fun E D=>Fx.KE rfl (show ev _ (.const (.int .u8 (1))) = .int .u8 (1)from by kernel_rfl) (show ev _ (.tmp 42) = .int .u8 (H:Int)from by kernel_rfl) (Fx.u8e (by omega) (by omega))))
  ·exact .inr (.inr (uo (.agg (aA 14 (bG (bG (bG (bG zQ0 0 1 (fun _=>au ((o:Int)+1))) 1 1 (fun _=>aC ((M.ml o).s.known o+1))) 2 6 (rv .u64 ((M.ml o).s.known))) 8 1 (fun _ => .int .u8 ((H:Int)+1))))) fun E D=>gD (vs := [(0,au ((o:Int)+1)),(1,aC ((M.ml o).s.known o+1)),(2,.agg (aA 6 (rv .u64 ((M.ml o).s.known)))),(3,.int .u8 ((H:Int)+1))]) (places := #[(0,1),(1,1),(2,6),(8,1),(9,1),(10,1),(11,1),(12,1),(13,1)]) (m:=14) (x:=fun h=>if h<1 then au 0 else if h<8 then aC 0 else if h<9 then .int .u8 (0)else if h<10 then aC 0 else if h<12 then au 0 else aC 0) rfl (Fx.acV (show ev _ (.tmp 26)=au ((o:Int)+1)from by kernel_rfl) (show ev _ (.tmp 34)=aC ((M.ml o).s.known o+1)from by kernel_rfl) (show ev _ (.tmp 39) = .agg (aA 6 (rv .u64 ((M.ml o).s.known)))from by kernel_rfl) (show ev _ (.tmp 43) = .int .u8 ((H:Int)+1)from by kernel_rfl)) Tryz.underlying37 (by kernel_rfl) (by kernel_rfl) (by rw[bE (off:=0) (s:=1) (y:=fun _=>au ((o:Int)+1)) (by kernel_rfl) (cells_one (by rfl)) (by rfl)]; rw[bE (off:=1) (s:=1) (y:=fun _=>aC ((M.ml o).s.known o+1)) (by kernel_rfl) (cells_one (by rfl)) (by rfl)]; rw[bE (off:=2) (s:=6) (y:=rv .u64 ((M.ml o).s.known)) (by kernel_rfl) (bJ _ _) (by rfl)]; rw[bE (off:=8) (s:=1) (y:=fun _ => .int .u8 ((H:Int)+1)) (by kernel_rfl) (cells_one (by rfl)) (by rfl)]; rfl)))
  ·exact .inl rfl
  exact .inr (.inl rfl)
 rintro A w3 f1 hf1 BF m19 hb1;have Xo:p≠A:=u_ (n_ (m12.lt) BF);have arL:G≠A:=u_ (n_ (m16.lt) BF);have Xm:U≠A:=u_ (n_ (m17.lt) BF);have agw:DZ≠A:=u_ (n_ (m18.lt) BF);have ajT:(M.pl o)≠A:=u_ (n_ (GA.lt) BF);have Xp:(.slice M.aa (M.an) (M.ac):Value).ownBlock≠some A:=fun e=>by have:=(m14.ge e).2; omega
 have⟨m22,m23,m24,nW,pU,b4⟩:=rz hb1 m15 m16 m17 m18 ajS b3;have BF:w.heap.size<=A:=m_ b3.size BF;have GZ:=m19.lt;have q1:f1 3=(pt G):=by rw[hf1]; kernel_rfl
 have q2:f1 4=(pt U):=by rw[hf1]; kernel_rfl
 have q3:f1 6=(pt (M.pl o)):=by rw[hf1]; kernel_rfl
 have q4:f1 7=(pt A):=by rw[hf1]; kernel_rfl
 clear hf1;refine sN<|Ws ?_;obtain⟨d,eV0⟩ : ∃ V:EvM,V=(⟨(o:Int)+1,(M.ml o).s.known o+1,(M.ml o).s.known,(H:Int)+1,0,0,0,0,0⟩:EvM):=⟨_,rfl⟩;have hz1:jA 0:=⟨by decide,by decide⟩;have hz2:tJ 0:=⟨by decide,by decide⟩;have t:gI d:=by rw[eV0]; exact⟨⟨by show(_:Int)<=(o:Int)+1; omega,by show(o:Int)+1<=_; omega⟩,⟨by show(0:Int)<=(M.ml o).s.known o+1; omega,by show(M.ml o).s.known o+1<=_; omega⟩,fun i hi=>⟨(hkn i hi).1,by have q:(M.ml o).s.known i<1099511627776:=(hkn i hi).2; show(M.ml o).s.known i<=_; omega⟩,⟨by show(0:Int)<=(H:Int)+1; omega,by show(H:Int)+1<=255; omega⟩,hz1,hz2,hz2,hz1,hz1⟩
 have pV:aQ w3 A 14 (bI d) 37:=m19.congr (fun j C=>by rw[eV0]; rcases j with _|_|_|_|_|_|_|_|_|_|_|_|_|_|j <;> first|rfl|omega|exact M_ (Value.int .u8) (by omega))
 have X:sH d:=by rw[eV0]; exact⟨by show(0:Int)<=_; decide,by show(0:Int)<=_; decide⟩
 have hd0:d.o=(o:Int)+1/\d.seq=(M.ml o).s.known o+1/\d.deps=(M.ml o).s.known:=by rw[eV0]; exact⟨rfl,rfl,rfl⟩
 have ek0:d.kind=(H:Int)+1:=by rw[eV0]
 refine Wl<|av (aC 0)<|aD ?_;have nX:Fx.Own w3 B 29 1 (.slice M.la (M.n) (M.lc)) M.n (I7 M.pl):=nW.fu (M_ (fun q=>Value.slice q M.n M.lc) eq1.symm);refine A9 (fun f w_ => ∃ nd:Int,jA nd/\f 3=(pt G)/\f 4=(pt U)/\f 7=(pt A)/\f 8=aC nd/\aQ w_ G 9 (Ho x) 72/\aQ w_ U 14 zQ0 37/\aQ w_ A 14 (bI d) 37/\Below w.heap.size w w_) ?_ ?_
 ·refine Ws ?_;have aaA:=m22 o (by omega);have XC:=aaA.c;have auK:=aaA.n;refine Wl<|aU q3<|av (pt (M.pl o))<|av (pt (M.pl o))<|av (pf (M.pl o) 18)<|Lv (.slice (M.ml o).s.na ((M.ml o).s.nn) ((M.ml o).s.nc)) (aM XC.aH 18)<|av (au (((M.ml o).s.nn:Nat):Int))<|Lv (.bool (decide (0<(((M.ml o).s.nn:Nat):Int)))) (Fx.Te rfl rfl rfl)<|aD<|Wc (b:=decide (0<(((M.ml o).s.nn:Nat):Int))) rfl (fun c51 => ?_)<|fun c51 => ?_
  ·have c51:=h_ c51;obtain⟨Yq,ajV⟩ : ∃ r,r=x.node % (M.ml o).s.nn:=⟨_,rfl⟩;have arM:Yq<(M.ml o).s.nn:=(by rw[ajV]; exact K_ _ (by omega));refine Af<|eT q3<|aX (pt (M.pl o))<|aX (pt (M.pl o))<|aX (pf (M.pl o) 18)<|Qv (.slice (M.ml o).s.na ((M.ml o).s.nn) ((M.ml o).s.nc)) (fun E D=>aM (XC.aH.dr D) 18)<|Qv (pf G 4) (fun E D=>jo q1 4)<|Qv (.int .u8 (x.node:Int)) (fun E D=>aM (m23.aH.dr D) 4)<|Qv (au x.node) (fun E D=>dF rfl rfl (by kernel_rfl) Tryz.underlying3 (iM (by omega) rfl))<|eT q3<|aX (pt (M.pl o))<|aX (pt (M.pl o))<|aX (pf (M.pl o) 18)<|Qv (.slice (M.ml o).s.na ((M.ml o).s.nn) ((M.ml o).s.nc)) (fun E D=>aM (XC.aH.dr D) 18)<|aX (au (((M.ml o).s.nn:Nat):Int))<|Qv (au Yq) (fun E D=>Fx.xZ rfl rfl rfl (by omega) (EG ajV)) ?_;obtain⟨PN,JY⟩:=pU.addr (by omega);have ou:Fx.Own w3 B 84 56 (.slice (some ⟨PN,0,none⟩) ((M.ml o).s.nn) ((M.ml o).s.nc)) ((M.ml o).s.nn) (Kw (M.ml o)):=pU.fu (M_ (fun q=>Value.slice q ((M.ml o).s.nn) ((M.ml o).s.nc)) JY);refine Qv (pf PN (56*Yq)) (fun E D=>dB 56 (hx:=(rfl.trans (M_ (fun q=>Value.slice q ((M.ml o).s.nn) ((M.ml o).s.nc)) JY))))<|aX (pf PN (56*Yq))<|Qv (aC ((M.ml o).id Yq)) (fun E D=>aM (ou.aH.dr D) (56*Yq) (Fx.iB (k:=Yq) (j:=0) (by omega) (by omega) rfl))<|aX (aC ((M.ml o).id Yq))<|Qn ?_;rintro _ ⟨qd,rfl⟩;obtain⟨wq2,xH⟩ : ∃ E,E=World.drewN w3 qd:=⟨_,rfl⟩;rw[<- xH];have s5:Stp w3.heap.size w3 wq2:=(by rw[xH]; exact Sb (jX w3 qd));have⟨nL,oO,qV,sJ,b5⟩:=nE s5.old m23 m24 pV ou b4;clear xH;have mK:Fx.Own wq2 B 84 56 (.slice (M.ml o).s.na ((M.ml o).s.nn) ((M.ml o).s.nc)) ((M.ml o).s.nn) (Kw (M.ml o)):=sJ.fu (M_ (fun q=>Value.slice q ((M.ml o).s.nn) ((M.ml o).s.nc)) JY.symm);exact qR ⟨((M.ml o).id Yq),(hU Yq arM),q1,q2,q4,Fx.ic,nL,oO,qV,b5⟩
  have c51:=j_ c51;refine Wk ?_;exact qR ⟨0,⟨by decide,by decide⟩,q1,q2,q4,Fx.ic,m23,m24,pV,b4⟩
 rintro f2 w4 ⟨nd,Qx,Y,I,F,h4,ni,mR,K,J⟩;refine Ws<|ay<|Lv (pf A 8) (jo F 8)<|Lv (.int .u8 (d.kind)) (aM K.aH 8)<|aD<|Wb<|ay ?_;by_cases c73:d.kind=1
 ·refine Lv aG (dZ c73)<|av aG<|aD<|aN<|Ws<|Ws ?_;obtain⟨r76,ajW⟩ : ∃ r,r=x.node % 2:=⟨_,rfl⟩;have ayX:r76<2:=by rw[ajW]; exact K_ _ (by omega)
  refine Wl<|Lv (pf G 4) (jo Y 4)<|Lv (.int .u8 (x.node:Int)) (aM ni.aH 4)<|Lv (.int .u8 (r76:Int)) (Fx.xZ rfl rfl rfl (by omega) (EG ajW)) ?_;by_cases c77:(r76:Int)=1
  ·refine Lv aG (dZ c77)<|aD<|aN<|Wl<|aU h4<|Lv (pf A 9) (jo F 9)<|ji K 9 (aC nd) fun w5 qW s6 z3 => ?_;obtain⟨L,eV1⟩ : ∃ V:EvM,V=⟨d.o,d.seq,d.deps,d.kind,nd,d.dst,d.aT,d.req,d.of⟩:=⟨_,rfl⟩;have MB:gI L:=(by rw[eV1]; exact⟨t.o,t.seq,t.deps,t.kind,Qx,t.dst,t.aT,t.req,t.of⟩);have arO:L.o=(o:Int)+1/\L.seq=(M.ml o).s.known o+1/\L.deps=(M.ml o).s.known:=(by rw[eV1]; exact hd0);have arP:sH L:=(by rw[eV1]; exact⟨X.aT,X.req⟩);have ow:aQ w5 A 14 (bI L) 37:=qW.congr (fun j C=>by rw[eV1]; exact Fb _ _ j C);have gF:=fP s6 K.ty;have sK:=jh gF ni;have vE:=mR.cu s6 (by omega);have b7:=s6.below J J.size (by omega);refine aD<|Wl<|Lv (pf G 6) (jo Y 6)<|Lv (.int .u16 (x.aT:Int)) (aM sK.aH 6)<|Lv (au x.aT) (dF rfl rfl (by kernel_rfl) Tryz.underlying2 (iM (by omega) rfl))<|Lv (pf A 11) (jo F 11)<|ji ow 11 (au x.aT) fun w6 sM s7 z4 => ?_;obtain⟨V2,eV2⟩ : ∃ V:EvM,V=⟨L.o,L.seq,L.deps,L.kind,L.node,L.dst,(x.aT:Int),L.req,L.of⟩:=⟨_,rfl⟩;have arQ:gI V2:=(by rw[eV2]; exact⟨MB.o,MB.seq,MB.deps,MB.kind,MB.node,MB.dst,(show tJ (x.aT:Int)from⟨by omega,by omega⟩),MB.req,MB.of⟩);have arR:V2.o=(o:Int)+1/\V2.seq=(M.ml o).s.known o+1/\V2.deps=(M.ml o).s.known:=(by rw[eV2]; exact arO);have arS:sH V2:=(by rw[eV2]; exact⟨by show(x.aT:Int)<=65536; omega,arP.req⟩);have rQ:aQ w6 A 14 (bI V2) 37:=sM.congr (fun j C=>by rw[eV2]; exact Gz _ _ j C);have uw:=vE.cu s7 (by omega);have b8:=s7.below b7 b7.size (by omega);refine Ln<|bU<|sN<|ay<|Lv (.agg (aA 14 (bI V2))) (fM rQ.aH 0 (ha:=F))<|dM uw 0 (ha:=I) (h1:=(dW _)) fun w7 ug s8 z5 => ?_;have uW:aQ w7 U 14 (bI V2) 37:=aL ug;have uh:=rQ.cu s8 (by omega);have b9:=s8.below b8 b8.size (by omega);refine aD (Wr (⟨.agg (aA 14 (bI V2)),rV Tryz.results57 ⟨_,I,aS uW.aH (by kernel_rfl) (by kernel_rfl)⟩,?_⟩));exact⟨V2,arQ,arS,by rw[<- eo]; exact arR,rfl,b9⟩
  refine Lv aF (fB c77)<|aD<|aK<|Wk<|sN<|Wl<|Lv (pf G 6) (jo Y 6)<|Lv (.int .u16 (x.aT:Int)) (aM ni.aH 6)<|Lv (au x.aT) (dF rfl rfl (by kernel_rfl) Tryz.underlying2 (iM (by omega) rfl))<|Lv (pf A 11) (jo F 11)<|ji K 11 (au x.aT) fun w8 rR s9 z6 => ?_;obtain⟨V3,eV3⟩ : ∃ V:EvM,V=⟨d.o,d.seq,d.deps,d.kind,d.node,d.dst,(x.aT:Int),d.req,d.of⟩:=⟨_,rfl⟩;have arT:gI V3:=by rw[eV3]; exact⟨t.o,t.seq,t.deps,t.kind,t.node,t.dst,(show tJ (x.aT:Int)from⟨by omega,by omega⟩),t.req,t.of⟩
  have arU:V3.o=(o:Int)+1/\V3.seq=(M.ml o).s.known o+1/\V3.deps=(M.ml o).s.known:=by rw[eV3]; exact hd0
  have arV:sH V3:=by rw[eV3]; exact⟨by show(x.aT:Int)<=65536; omega,X.req⟩
  have sw:aQ w8 A 14 (bI V3) 37:=rR.congr (fun j C=>by rw[eV3]; exact Gz _ _ j C);have rE:=mR.cu s9 (by omega);have b10:=s9.below J J.size (by omega);refine Ln<|bU<|sN<|ay<|Lv (.agg (aA 14 (bI V3))) (fM sw.aH 0 (ha:=F))<|dM rE 0 (ha:=I) (h1:=(dW _)) fun w9 uj s10 z7 => ?_;have nY:aQ w9 U 14 (bI V3) 37:=aL uj;have m64:=sw.cu s10 (by omega);have b11:=s10.below b10 b10.size (by omega);refine aD (Wr (⟨.agg (aA 14 (bI V3)),rV Tryz.results57 ⟨_,I,aS nY.aH (by kernel_rfl) (by kernel_rfl)⟩,?_⟩));exact⟨V3,arT,arV,by rw[<- eo]; exact arU,rfl,b11⟩
 refine Lv aF (fB c73)<|av aF<|aD<|aK<|ay ?_;by_cases c85:d.kind=2
 ·refine Lv aG (dZ c85)<|av aG<|aD<|aN<|ay<|aU h4<|Lv (pf A 9) (jo F 9)<|ji K 9 (aC nd) fun su xq s11 z8 => ?_;obtain⟨P,eV4⟩ : ∃ V:EvM,V=⟨d.o,d.seq,d.deps,d.kind,nd,d.dst,d.aT,d.req,d.of⟩:=⟨_,rfl⟩;have MC:gI P:=by rw[eV4]; exact⟨t.o,t.seq,t.deps,t.kind,Qx,t.dst,t.aT,t.req,t.of⟩
  have arW:P.o=(o:Int)+1/\P.seq=(M.ml o).s.known o+1/\P.deps=(M.ml o).s.known:=by rw[eV4]; exact hd0
  have arX:sH P:=by rw[eV4]; exact⟨X.aT,X.req⟩
  have wI:aQ su A 14 (bI P) 37:=xq.congr (fun j C=>by rw[eV4]; exact Fb _ _ j C);have vT:=fP s11 K.ty;have vF:=jh vT ni;have yt:=mR.cu s11 (by omega);have b12:=s11.below J J.size (by omega);refine aD<|Wl<|Lv (pf G 6) (jo Y 6)<|Lv (.int .u16 (x.aT:Int)) (aM vF.aH 6)<|Lv (au x.aT) (dF rfl rfl (by kernel_rfl) Tryz.underlying2 (iM (by omega) rfl))<|Lv (au ((x.aT:Int)+1)) fH<|Lv (pf A 11) (jo F 11)<|ji wI 11 (au ((x.aT:Int)+1)) fun Ah sO s12 z9 => ?_;obtain⟨V5,eV5⟩ : ∃ V:EvM,V=⟨P.o,P.seq,P.deps,P.kind,P.node,P.dst,(x.aT:Int)+1,P.req,P.of⟩:=⟨_,rfl⟩;have arY:gI V5:=by rw[eV5]; exact⟨MC.o,MC.seq,MC.deps,MC.kind,MC.node,MC.dst,(show tJ ((x.aT:Int)+1)from⟨by omega,by omega⟩),MC.req,MC.of⟩
  have arZ:V5.o=(o:Int)+1/\V5.seq=(M.ml o).s.known o+1/\V5.deps=(M.ml o).s.known:=by rw[eV5]; exact arW
  have asa:sH V5:=by rw[eV5]; exact⟨by show(x.aT:Int)+1<=65536; omega,arX.req⟩
  have vG:aQ Ah A 14 (bI V5) 37:=sO.congr (fun j C=>by rw[eV5]; exact Gz _ _ j C);have vH:=yt.cu s12 (by omega);have b13:=s12.below b12 b12.size (by omega);refine Ln<|bU<|sN<|ay<|Lv (.agg (aA 14 (bI V5))) (fM vG.aH 0 (ha:=F))<|dM vH 0 (ha:=I) (h1:=(dW _)) fun BZ vI s13 YP => ?_;have yL:aQ BZ U 14 (bI V5) 37:=aL vI;have yV:=vG.cu s13 (by omega);have b14:=s13.below b13 b13.size (by omega);refine aD (Wr (⟨.agg (aA 14 (bI V5)),rV Tryz.results57 ⟨_,I,aS yL.aH (by kernel_rfl) (by kernel_rfl)⟩,?_⟩));exact⟨V5,arY,asa,by rw[<- eo]; exact arZ,rfl,b14⟩
 refine Lv aF (fB c85)<|av aF<|aD<|aK<|ay ?_;by_cases c94:d.kind=3
 ·refine Lv aG (dZ c94)<|av aG<|aD<|aN<|ay<|aU h4<|Lv (pf A 9) (jo F 9)<|ji K 9 (aC nd) fun FK yX Ba z11 => ?_;obtain⟨Q,eV6⟩ : ∃ V:EvM,V=⟨d.o,d.seq,d.deps,d.kind,nd,d.dst,d.aT,d.req,d.of⟩:=⟨_,rfl⟩;have ME:gI Q:=by rw[eV6]; exact⟨t.o,t.seq,t.deps,t.kind,Qx,t.dst,t.aT,t.req,t.of⟩
  have asb:Q.o=(o:Int)+1/\Q.seq=(M.ml o).s.known o+1/\Q.deps=(M.ml o).s.known:=by rw[eV6]; exact hd0
  have asc:sH Q:=by rw[eV6]; exact⟨X.aT,X.req⟩
  have yM:aQ FK A 14 (bI Q) 37:=yX.congr (fun j C=>by rw[eV6]; exact Fb _ _ j C);have RF:=fP Ba K.ty;have wK:=jh RF ni;have vV:=mR.cu Ba (by omega);have b15:=Ba.below J J.size (by omega);refine aD<|ay<|Lv (pf G 6) (jo Y 6)<|Lv (.int .u16 (x.aT:Int)) (aM wK.aH 6)<|Lv (au x.aT) (dF rfl rfl (by kernel_rfl) Tryz.underlying2 (iM (by omega) rfl))<|Lv (au ((x.aT:Int)+1)) fH<|Lv (pf A 11) (jo F 11)<|ji yM 11 (au ((x.aT:Int)+1)) fun K6 vJ s15 z12 => ?_;obtain⟨R,eV7⟩ : ∃ V:EvM,V=⟨Q.o,Q.seq,Q.deps,Q.kind,Q.node,Q.dst,(x.aT:Int)+1,Q.req,Q.of⟩:=⟨_,rfl⟩;have MF:gI R:=by rw[eV7]; exact⟨ME.o,ME.seq,ME.deps,ME.kind,ME.node,ME.dst,(show tJ ((x.aT:Int)+1)from⟨by omega,by omega⟩),ME.req,ME.of⟩
  have ase:R.o=(o:Int)+1/\R.seq=(M.ml o).s.known o+1/\R.deps=(M.ml o).s.known:=by rw[eV7]; exact asb
  have asf:sH R:=by rw[eV7]; exact⟨by show(x.aT:Int)+1<=65536; omega,asc.req⟩
  have yu:aQ K6 A 14 (bI R) 37:=vJ.congr (fun j C=>by rw[eV7]; exact Gz _ _ j C);have Qy:=fP s15 yM.ty;have zK:=jh Qy wK;have wL:=vV.cu s15 (by omega);have b16:=s15.below b15 b15.size (by omega);refine aD<|Wl<|Lv (pf G 7) (jo Y 7)<|Lv (.int .u8 (x.req:Int)) (aM zK.aH 7)<|Lv (aC x.req) (dF rfl rfl (by kernel_rfl) Tryz.underlying23 (jQ (by omega) rfl))<|Lv (aC ((x.req:Int)+1)) fH<|Lv (pf A 12) (jo F 12)<|ji yu 12 (aC ((x.req:Int)+1)) fun JE Ai s16 z13 => ?_;obtain⟨V8,eV8⟩ : ∃ V:EvM,V=⟨R.o,R.seq,R.deps,R.kind,R.node,R.dst,R.aT,(x.req:Int)+1,R.of⟩:=⟨_,rfl⟩;have asg:gI V8:=by rw[eV8]; exact⟨MF.o,MF.seq,MF.deps,MF.kind,MF.node,MF.dst,MF.aT,(show jA ((x.req:Int)+1)from⟨by omega,by omega⟩),MF.of⟩
  have ash:V8.o=(o:Int)+1/\V8.seq=(M.ml o).s.known o+1/\V8.deps=(M.ml o).s.known:=by rw[eV8]; exact ase
  have asi:sH V8:=by rw[eV8]; exact⟨asf.aT,by show(x.req:Int)+1<=256; omega⟩
  have zL:aQ JE A 14 (bI V8) 37:=Ai.congr (fun j C=>by rw[eV8]; exact XB _ _ j C);have yY:=wL.cu s16 (by omega);have b17:=s16.below b16 b16.size (by omega);refine Ln<|bU<|sN<|ay<|Lv (.agg (aA 14 (bI V8))) (fM zL.aH 0 (ha:=F))<|dM yY 0 (ha:=I) (h1:=(dW _)) fun w16 yZ Ih z14 => ?_;have Aj:aQ w16 U 14 (bI V8) 37:=aL yZ;have C9:=zL.cu Ih (by omega);have b18:=Ih.below b17 b17.size (by omega);refine aD (Wr (⟨.agg (aA 14 (bI V8)),rV Tryz.results57 ⟨_,I,aS Aj.aH (by kernel_rfl) (by kernel_rfl)⟩,?_⟩));exact⟨V8,asg,asi,by rw[<- eo]; exact ash,rfl,b18⟩
 refine Lv aF (fB c94)<|av aF<|aD<|aK<|ay ?_;by_cases ajX:d.kind=4
 ·refine Lv aG (dZ ajX)<|av aG<|aD<|aN<|ay<|Lv (pf G 7) (jo Y 7)<|Lv (.int .u8 (x.req:Int)) (aM ni.aH 7)<|Lv (aC x.req) (dF rfl rfl (by kernel_rfl) Tryz.underlying23 (jQ (by omega) rfl))<|Lv (aC ((x.req:Int)+1)) fH<|Lv (pf A 12) (jo F 12)<|ji K 12 (aC ((x.req:Int)+1)) fun Ph Cc Ir z15 => ?_;obtain⟨S,eV9⟩ : ∃ V:EvM,V=⟨d.o,d.seq,d.deps,d.kind,d.node,d.dst,d.aT,(x.req:Int)+1,d.of⟩:=⟨_,rfl⟩;have MG:gI S:=by rw[eV9]; exact⟨t.o,t.seq,t.deps,t.kind,t.node,t.dst,t.aT,(show jA ((x.req:Int)+1)from⟨by omega,by omega⟩),t.of⟩
  have asj:S.o=(o:Int)+1/\S.seq=(M.ml o).s.known o+1/\S.deps=(M.ml o).s.known:=by rw[eV9]; exact hd0
  have ajY:sH S:=by rw[eV9]; exact⟨X.aT,by show(x.req:Int)+1<=256; omega⟩
  have CF:aQ Ph A 14 (bI S) 37:=Cc.congr (fun j C=>by rw[eV9]; exact XB _ _ j C);have ajZ:=fP Ir K.ty;have Al:=jh ajZ ni;have ES:=mR.cu Ir (by omega);have b19:=Ir.below J J.size (by omega);refine aD<|Wl<|Lv (pf G 8) (jo Y 8)<|Lv (.int .u8 (x.of:Int)) (aM Al.aH 8)<|Lv (aC x.of) (dF rfl rfl (by kernel_rfl) Tryz.underlying23 (jQ (by omega) rfl))<|Lv (aC ((x.of:Int)+1)) fH<|Lv (pf A 13) (jo F 13)<|ji CF 13 (aC ((x.of:Int)+1)) fun Un Ev s19 z16 => ?_;obtain⟨Yr,aaB⟩ : ∃ V:EvM,V=⟨S.o,S.seq,S.deps,S.kind,S.node,S.dst,S.aT,S.req,(x.of:Int)+1⟩:=⟨_,rfl⟩;have akb:gI Yr:=by rw[aaB]; exact⟨MG.o,MG.seq,MG.deps,MG.kind,MG.node,MG.dst,MG.aT,MG.req,(show jA ((x.of:Int)+1)from⟨by omega,by omega⟩)⟩
  have akc:Yr.o=(o:Int)+1/\Yr.seq=(M.ml o).s.known o+1/\Yr.deps=(M.ml o).s.known:=by rw[aaB]; exact asj
  have akd:sH Yr:=by rw[aaB]; exact⟨ajY.aT,ajY.req⟩
  have ET:aQ Un A 14 (bI Yr) 37:=Ev.congr (fun j C=>by rw[aaB]; exact ajQ _ _ j C);have uX:=ES.cu s19 (by omega);have b20:=s19.below b19 b19.size (by omega);refine Ln<|bU<|sN<|ay<|Lv (.agg (aA 14 (bI Yr))) (fM ET.aH 0 (ha:=F))<|dM uX 0 (ha:=I) (h1:=(dW _)) fun w19 xI s20 z17 => ?_;have uY:aQ w19 U 14 (bI Yr) 37:=aL xI;have oU:=ET.cu s20 (by omega);have M7:=s20.below b20 b20.size (by omega);refine aD (Wr (⟨.agg (aA 14 (bI Yr)),rV Tryz.results57 ⟨_,I,aS uY.aH (by kernel_rfl) (by kernel_rfl)⟩,?_⟩));exact⟨Yr,akb,akd,by rw[<- eo]; exact akc,rfl,M7⟩
 refine Lv aF (fB ajX)<|av aF<|aD<|aK<|ay ?_;by_cases XD:d.kind=5
 ·refine Lv aG (dZ XD)<|av aG<|aD<|aN<|ay<|aU h4<|Lv (pf A 9) (jo F 9)<|ji K 9 (aC nd) fun Q7 oF s21 z18 => ?_;obtain⟨N,aaC⟩ : ∃ V:EvM,V=⟨d.o,d.seq,d.deps,d.kind,nd,d.dst,d.aT,d.req,d.of⟩:=⟨_,rfl⟩;have Eh:gI N:=by rw[aaC]; exact⟨t.o,t.seq,t.deps,t.kind,Qx,t.dst,t.aT,t.req,t.of⟩
  have ake:N.o=(o:Int)+1/\N.seq=(M.ml o).s.known o+1/\N.deps=(M.ml o).s.known:=by rw[aaC]; exact hd0
  have akf:sH N:=by rw[aaC]; exact⟨X.aT,X.req⟩
  have qb:aQ Q7 A 14 (bI N) 37:=oF.congr (fun j C=>by rw[aaC]; exact Fb _ _ j C);have akg:=fP s21 K.ty;have oG:=jh akg ni;have oV:=mR.cu s21 (by omega);have JD:=s21.below J J.size (by omega);refine aD<|ay<|Lv (pf G 6) (jo Y 6)<|Lv (.int .u16 (x.aT:Int)) (aM oG.aH 6)<|Lv (au x.aT) (dF rfl rfl (by kernel_rfl) Tryz.underlying2 (iM (by omega) rfl))<|Lv (au ((x.aT:Int)+1)) fH<|Lv (pf A 11) (jo F 11)<|ji qb 11 (au ((x.aT:Int)+1)) fun w21 rJ Zx z19 => ?_;obtain⟨O,aaD⟩ : ∃ V:EvM,V=⟨N.o,N.seq,N.deps,N.kind,N.node,N.dst,(x.aT:Int)+1,N.req,N.of⟩:=⟨_,rfl⟩;have Ei:gI O:=by rw[aaD]; exact⟨Eh.o,Eh.seq,Eh.deps,Eh.kind,Eh.node,Eh.dst,(show tJ ((x.aT:Int)+1)from⟨by omega,by omega⟩),Eh.req,Eh.of⟩
  have akh:O.o=(o:Int)+1/\O.seq=(M.ml o).s.known o+1/\O.deps=(M.ml o).s.known:=by rw[aaD]; exact ake
  have acu:sH O:=by rw[aaD]; exact⟨by show(x.aT:Int)+1<=65536; omega,akf.req⟩
  have sF:aQ w21 A 14 (bI O) 37:=rJ.congr (fun j C=>by rw[aaD]; exact Gz _ _ j C);have aki:=fP Zx qb.ty;have oZ:=jh aki oG;have rM:=oV.cu Zx (by omega);have SH:=Zx.below JD JD.size (by omega);refine aD ?_;obtain⟨W,er6⟩ : ∃ r,r=x.dst % 6:=⟨_,rfl⟩;have hr6:W<6:=by rw[er6]; exact K_ _ (by omega)
  refine Wl<|Lv (pf G 5) (jo Y 5)<|Lv (.int .u8 (x.dst:Int)) (aM oZ.aH 5)<|Lv (au x.dst) (dF rfl rfl (by kernel_rfl) Tryz.underlying3 (iM (by omega) rfl))<|Lv (au W) (Fx.xZ rfl rfl rfl (by omega) (EG er6))<|Lv (au ((W:Int)+1)) fH<|Lv (pf A 10) (jo F 10)<|ji sF 10 (au ((W:Int)+1)) fun w22 yE s23 z20 => ?_;obtain⟨Yt,aaE⟩ : ∃ V:EvM,V=⟨O.o,O.seq,O.deps,O.kind,O.node,(W:Int)+1,O.aT,O.req,O.of⟩:=⟨_,rfl⟩;have akk:gI Yt:=by rw[aaE]; exact⟨Ei.o,Ei.seq,Ei.deps,Ei.kind,Ei.node,(show tJ ((W:Int)+1)from⟨by omega,by omega⟩),Ei.aT,Ei.req,Ei.of⟩
  have akl:Yt.o=(o:Int)+1/\Yt.seq=(M.ml o).s.known o+1/\Yt.deps=(M.ml o).s.known:=by rw[aaE]; exact akh
  have akm:sH Yt:=by rw[aaE]; exact⟨acu.aT,acu.req⟩
  have uD:aQ w22 A 14 (bI Yt) 37:=yE.congr (fun j C=>by rw[aaE]; exact XA _ _ j C);have Bc:=rM.cu s23 (by omega);have Pg:=s23.below SH SH.size (by omega);refine Ln<|bU<|sN<|ay<|Lv (.agg (aA 14 (bI Yt))) (fM uD.aH 0 (ha:=F))<|dM Bc 0 (ha:=I) (h1:=(dW _)) fun w23 wm s24 z21 => ?_;have tO:aQ w23 U 14 (bI Yt) 37:=aL wm;have xJ:=uD.cu s24 (by omega);have b25:=s24.below Pg Pg.size (by omega);refine aD (Wr (⟨.agg (aA 14 (bI Yt)),rV Tryz.results57 ⟨_,I,aS tO.aH (by kernel_rfl) (by kernel_rfl)⟩,?_⟩));exact⟨Yt,akk,akm,by rw[<- eo]; exact akl,rfl,b25⟩
 refine Lv aF (fB XD)<|av aF<|aD<|aK<|ay ?_;by_cases akn:d.kind=6
 ·refine Lv aG (dZ akn)<|av aG<|aD<|aN ?_;obtain⟨W,er6⟩ : ∃ r,r=x.dst % 6:=⟨_,rfl⟩;have hr6:W<6:=by rw[er6]; exact K_ _ (by omega)
  refine Wl<|Lv (pf G 5) (jo Y 5)<|Lv (.int .u8 (x.dst:Int)) (aM ni.aH 5)<|Lv (au x.dst) (dF rfl rfl (by kernel_rfl) Tryz.underlying3 (iM (by omega) rfl))<|Lv (au W) (Fx.xZ rfl rfl rfl (by omega) (EG er6))<|Lv (au ((W:Int)+1)) fH<|Lv (pf A 10) (jo F 10)<|ji K 10 (au ((W:Int)+1)) fun w24 xK Yk z22 => ?_;obtain⟨Yu,aaF⟩ : ∃ V:EvM,V=⟨d.o,d.seq,d.deps,d.kind,d.node,(W:Int)+1,d.aT,d.req,d.of⟩:=⟨_,rfl⟩;have ako:gI Yu:=by rw[aaF]; exact⟨t.o,t.seq,t.deps,t.kind,t.node,(show tJ ((W:Int)+1)from⟨by omega,by omega⟩),t.aT,t.req,t.of⟩
  have akp:Yu.o=(o:Int)+1/\Yu.seq=(M.ml o).s.known o+1/\Yu.deps=(M.ml o).s.known:=by rw[aaF]; exact hd0
  have akq:sH Yu:=by rw[aaF]; exact⟨X.aT,X.req⟩
  have tQ:aQ w24 A 14 (bI Yu) 37:=xK.congr (fun j C=>by rw[aaF]; exact XA _ _ j C);have Da:=mR.cu Yk (by omega);have YN:=Yk.below J J.size (by omega);refine Ln<|bU<|sN<|ay<|Lv (.agg (aA 14 (bI Yu))) (fM tQ.aH 0 (ha:=F))<|dM Da 0 (ha:=I) (h1:=(dW _)) fun w25 Bd s26 z23 => ?_;have Ao:aQ w25 U 14 (bI Yu) 37:=aL Bd;have Ce:=tQ.cu s26 (by omega);have YO:=s26.below YN YN.size (by omega);refine aD (Wr (⟨.agg (aA 14 (bI Yu)),rV Tryz.results57 ⟨_,I,aS Ao.aH (by kernel_rfl) (by kernel_rfl)⟩,?_⟩));exact⟨Yu,ako,akq,by rw[<- eo]; exact akp,rfl,YO⟩
 refine Lv aF (fB akn)<|av aF<|aD<|aK<|Wk<|bU<|sN<|ay<|Lv (.agg (aA 14 (bI d))) (fM K.aH 0 (ha:=F))<|dM mR 0 (ha:=I) (h1:=(dW _)) fun w26 ze s27 z24 => ?_;have xL:aQ w26 U 14 (bI d) 37:=aL ze;have Hg:=K.cu s27 (by omega);have Yj:=s27.below J J.size (by omega);refine aD (Wr (⟨.agg (aA 14 (bI d)),rV Tryz.results57 ⟨_,I,aS xL.aH (by kernel_rfl) (by kernel_rfl)⟩,?_⟩));exact⟨d,t,X,by rw[<- eo]; exact hd0,rfl,Yj⟩
end Go.Proofs.YtcbedgfikejkoaaGreatDoor
