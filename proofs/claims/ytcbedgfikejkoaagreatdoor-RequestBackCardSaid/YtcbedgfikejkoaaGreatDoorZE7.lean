/-
  What the proof of the law rests on, part 7: walks of functions, and plain laws; each says its conditions itself.
-/
import Derived.Test.YtcbedgfikejkoaaGreatDoorZE6
set_option maxRecDepth 20000
set_option linter.unusedVariables false
set_option maxHeartbeats 1600000
set_option linter.unusedSimpArgs false
namespace Go.Proofs.YtcbedgfikejkoaaGreatDoor
open Go.RowKit Rt
open Fx (bf dF Lv sN Ln Ws Qv Rp Wr Sb Wk rV sR Rs Rd Qn yP zB fP zC uf uS vN Ad rv aA aQ bG ev Stp aL aS bE jI iM bJ jg)
theorem Rt.Sd{L:eF}{v:EvM}(h:bD L v=0):bR v=true:=by
 unfold bD at h;split at h; · cases h
 rename_i h1; simpa using h1
structure Rt.DoR(o:Nat)(x:Gy)(M M':WM)(v:EvM):Prop where
 n:M'.n=M.n
 oth : ∀ q,q≠o->M'.ml q=M.ml q
 c:(v=zeroE/\M'.an=M.an/\M'.ev=M.ev/\((M'.ml o).core=(M.ml o).core\/x.meet=true/\(M'.ml o).core=Gf M.ev M.an (M.ml (x.other % M.n)).s.known (M.ml o).core))\/(x.meet=false/\M'.an=M.an+1/\M'.ev=aI M.ev M.an v/\bD (M.ml o).core v=0/\(M'.ml o).core=bP (M.ml o).core v/\v.o=(o:Int)+1/\v.seq=(M.ml o).s.known o+1/\v.deps=(M.ml o).s.known)
theorem Rt.zV{L:eF}{v:EvM}(h:bD L v=0):(bP L v).known=aI L.known (aP v) (L.known (aP v)+1):=by
 rcases oJ L v with ⟨_,a⟩|⟨h1,_⟩
 ·exact a
 exact N_ h h1
theorem Rt.Cw:gI zeroE:=by
 have z:jA 0:=⟨by decide,by decide⟩;have y:tJ 0:=⟨by decide,by decide⟩;exact⟨y,z,fun _ _=>z,⟨by decide,by decide⟩,z,y,y,z,z⟩
def Yv(p:Nat)(M:WM)(k:Nat):Prop:=k=p\/(Value.slice M.la M.n M.lc).ownBlock=some k\/(Value.slice M.aa M.an M.ac).ownBlock=some k
def aaG(w:World)(p:Nat)(M a:WM):Prop := ∀ k,Yv p a k->Yv p M k\/w.heap.size<=k
theorem oL.ge{w:World}{B p T:Nat}{M:WM}(h:oL w B p M T) : ∀ k,Yv p M k->B<=k/\k<w.heap.size:=fun k b=>by
 rcases b with rfl|e|e
 ·exact⟨h.pB,h.c.lt⟩
 ·exact h.l.ge e
 ·exact h.a.ge e
theorem oL.ql{w w':World}{B p T:Nat}{M:WM}(h:oL w B p M T)(a:B<=w.heap.size)(c:jI (Yv p M) w w'):Below B w w':=Fx.jI.below (Below.refl B w) c (fun k b=>(h.ge k b).1) a
theorem oL.CP{w w':World}{B p T:Nat}{M:WM}(h:oL w B p M T)(d:jI (Yv p M) w w'):jg [78,29,37] w w':=Fx.jg.Tz d fun k b=>by
 rcases b with rfl|e|e
 ·exact⟨_,h.c.ty,by decide⟩
 ·exact⟨_,h.l.ty e,by decide⟩
 ·exact⟨_,h.a.ty e,by decide⟩
theorem aaG.app{w b:World}{p g:Nat}{M a:WM}(i:(Value.slice M.aa M.an M.ac).ownBlock=some g\/g=b.heap.size)(l:w.heap.size<=b.heap.size)(h1:a.la=M.la:=by rfl)(c:a.n=M.n:=by rfl)(d:a.lc=M.lc:=by rfl)(f:(Value.slice a.aa a.an a.ac).ownBlock=some g:=by rfl):aaG w p M a:=fun k j=>by
 rcases j with h|h|h
 ·exact .inl (.inl h)
 ·rw[h1,c,d]at h; exact .inl (.inr (.inl h))
 ·have e:g=k:=C_ (f.symm.trans h)
  rcases i with h5|h5
  ·exact .inl (.inr (.inr (e ▸ h5)))
  ·exact .inr (by omega)
theorem oL.mono{w:World}{B p T T':Nat}{M:WM}(h:oL w B p M T)(a:T<=T'):oL w B p M T' := { h with inv:=fun i b=>(h.inv i b).mono a }
set_option maxRecDepth 20000 in
set_option maxHeartbeats 2000000 in
theorem akr(M:WM)(B p T:Nat)(x:Gy)(w:World)(d:oL w B p M T)(hB:B<=w.heap.size)(hx:Ja x)(han:M.an<=60)(hT:T<=890000) :
 Calls Tryz.prog 28 #[(pt p),.agg (aA 9 (Ho x))] w fun e w' => ∃ v,e = .returned (.agg (aA 14 (bI v)))/\gI v /\ ∃ O,oL w' B p O (T+3660)/\DoR (x.who % M.n) x M O v/\O.an<=M.an+1/\(x.meet=true->O.an=M.an)/\jI (Yv p M) w w'/\aaG w p M O:=by
 have hWc:=d.c;have hWl:=d.l;have hWa:=d.a;have hWg:=d.g;have hn1:=d.n1;have hn6:=d.n6;have hpB:=d.pB;have lpp:p<w.heap.size:=hWc.lt;have hxw:=hx.who;have hxo:=hx.other;have hxk:=hx.kind;have hxn:=hx.node;have hxt:=hx.dst;have hxa:=hx.aT;have hxr:=hx.req;have hxf:=hx.of;refine Kent Tryz.func28 94 ?_;refine ay<|pO fun g1 w1 ku m1 s1 z1 => ?_;have⟨m2,f,m4,m5,m6⟩:=nE s1.old hWc hWl hWa hWg d;have b1:=(uS (Yv p M) w).then s1 (.inr (uS (Yv p M) w).size);have tC:w.heap.size<=g1:=by rw[ku]; exact(uS (Yv p M) w).size
 have nK:=cO ku hWc.lt;have uK:=m1.lt;refine nS 14 zQ0 fun R w2 ad m7 s2 z2 => ?_;have⟨m8,m9,m10,m11,m12,m13⟩:=rz s2.old m2 f m4 m5 m6 m1;have b2:=b1.then s2 (.inr b1.size);have qX:=iK ad b1.size;have Wd:=cO ad m2.lt;have Gr:(.slice M.aa (M.an) (M.ac):Value).ownBlock≠some R:=by rw[ad]; exact m4.kM (A_ _)
 have Br:=cO ad m1.lt;have zM:=m7.lt;refine aD<|Ws ?_;obtain⟨o,Q⟩ : ∃ r,r=x.who % M.n:=⟨_,rfl⟩;have ho:o<M.n:=by rw[Q]; exact K_ _ (by omega)
 refine Af<|aX (pt g1)<|Qv (.int .u8 (x.who:Int)) (fun D C=>aM (m13.aH.dr C) 0)<|Qv (au x.who) (fun D C=>dF rfl rfl (by kernel_rfl) Tryz.underlying3 (iM (by omega) rfl))<|aX (pt p)<|aX (pt p)<|aX (pt p)<|Qv (.slice M.la (M.n) (M.lc)) (fun D C=>aM (m8.aH.dr C) 0)<|aX (au M.n)<|Qv (au o) (fun D C=>Fx.xZ rfl rfl rfl (by omega) (EG Q))<|aX (au o)<|Qn ?_;rintro _ ⟨qd,rfl⟩;obtain⟨Et,pY⟩ : ∃ D,D=World.drewN w2 qd:=⟨_,rfl⟩;rw[<- pY];have s3:Stp w2.heap.size w2 Et:=by rw[pY]; exact Sb (jX w2 qd)
 have⟨m14,m15,m16,m17,m18,Y,m20⟩:=jJ s3.old m8 m9 m10 m11 m12 m13 m7;have Z:=b2.then s3 (.inr b2.size);clear pY;refine sN<|Ws<|ay<|av (pf g1 1) ?_;by_cases H:x.meet=true
 ·refine Lv aG (aM Y.aH 1 ((show _=Value.bool x.meet from rfl).trans (M_ Value.bool H)))<|aD<|aN<|Ws ?_;obtain⟨A,agy⟩ : ∃ r,r=x.other % M.n:=⟨_,rfl⟩;have ayZ:A<M.n:=by rw[agy]; exact K_ _ (by omega)
  have aaz:=m17 A (by omega);have GA:=aaz.c;have aaA:=m17 o (by omega);refine jY [0,1,2,4,5,6,7,9,12,13,14,16,17,18,20,23,24,25,3,8,10,11,15,19,21,22,26,27,28,29,30,31,32,33,34,35,36,37] [0,0,0,1,0,0,0,0,4,0,0,4,0,0,0,4,0,0,0,4,0,4,0,0,0,0,4,0,0,0,4,0,0,0,4,2,0,3] [(37,3,[3]),(35,8,[11,10,8]),(37,8,[8]),(35,11,[11]),(37,11,[11]),(35,15,[15]),(37,15,[15]),(35,19,[34,33,32,31,30,29,19]),(37,19,[19]),(35,21,[34,33,32,31,30,29,28,22,21]),(37,21,[21]),(35,26,[34,33,32,31,30,29,28,27,26]),(37,26,[26]),(35,30,[34,33,32,31,30]),(37,30,[30]),(35,34,[34]),(37,34,[34]),(36,35,[35]),(37,35,[35])] fun qU dU iC => ?_;have s4:Stp Et.heap.size Et qU:=Sb dU;have⟨G,m22,m23,m24,nW,oN,pU,pV⟩:=mO dU m14 m15 m16 m17 Y m20 GA aaA;have b4:=Z.then s4 (.inr Z.size);refine aY (pt p)<|aY (pt p)<|aY (pt p)<|aY (au o)<|aY (pt p)<|aY (pt p)<|aY (pt p)<|aY (au o)<|aY (pt p)<|aY (pt p)<|aY (pf p 1)<|aY (pt p)<|aY (pt p)<|aY (pt p)<|aY (pf g1 2)<|aY (pt p)<|aY (pt p)<|aY (pt p)<|Rd (v := .slice M.la (M.n) (M.lc)) (by rfl) (by rfl) (uf _) (fun D C=>bf (x:=OB (.slice M.la (M.n) (M.lc)) (.slice M.aa (M.an) (M.ac))) rfl rfl (by kernel_rfl) (G.aH.below C (by have:=G.lt; omega)) (i:=0) (by omega) (by omega) rfl) ?_;refine Rs (.slice M.la (M.n) (M.lc)) (aM G.aH 0) ?_;obtain⟨S,J⟩:=m22.addr (by omega);have nX:Fx.Own qU B 29 1 (bM S M.n M.lc) M.n (I7 M.pl):=m22.fu (M_ (fun q=>Value.slice q M.n M.lc) J);refine Rp (pf S o) (fun _=>dB 1 (hx:=(rfl.trans (M_ (fun q=>Value.slice q (M.n) (M.lc)) J))))<|Rs (pt (M.pl o)) (aM nX.aH o) ?_;refine Rs (.slice M.aa (M.an) (M.ac)) (aM G.aH 1) ?_;refine Rs (.slice M.la (M.n) (M.lc)) (aM G.aH 0) ?_;refine Rs (.int .u8 (x.other:Int)) (aM nW.aH 2) ?_;refine Rp (au x.other) (fun D=>dF rfl rfl (by kernel_rfl) Tryz.underlying3 (iM (by omega) rfl))<|Rs (.slice M.la (M.n) (M.lc)) (aM G.aH 0) ?_;refine aY (au M.n)<|Rp (au A) (fun D=>Fx.xZ rfl rfl rfl (by omega) (EG agy))<|Rp (pf S A) (fun _=>dB 1 (hx:=(rfl.trans (M_ (fun q=>Value.slice q (M.n) (M.lc)) J))))<|Rs (pt (M.pl A)) (aM nX.aH A) ?_;refine aY (pt (M.pl A))<|aY (pt (M.pl A))<|aY (pf (M.pl A) 12)<|Rs (.agg (aA 6 (rv .u64 ((M.ml A).s.known)))) (fM pU.aH 12 (fun j W=>mI _ (by omega) (nO _ W (by omega)))) ?_;refine zG<|kF (ZK (M.ml o) B (M.pl o) T M.aa M.an M.ac M.ev ((M.ml A).s.known) _ pV (d.inv o (by omega)) m23.arr d.wf d.may d.sm han hT) ?_;rintro e9 w3 ⟨t,f,E,hlc,hI3,hL1,hb1⟩;refine⟨(pt t),E,?_⟩;clear E;have s5:=Sb hb1;have⟨ou,lu,m32,nL,nT⟩:=nE hb1 G m23 m24 oN nX;have b5:=b4.then s5 (.inr b4.size);refine Ln ⟨s5.old,?_⟩;refine Rp (pf S o) (fun _=>dB 1 (hx:=(rfl.trans (M_ (fun q=>Value.slice q (M.n) (M.lc)) J))))<|gQ<|qP nT o (pt t) fun w4 qV s6 z3 => ?_;have gF:=fP s6 nT.KJ;have⟨qB,pE,sJ,ni,qw⟩:=qA gF ou lu m32 nL hL1;have b6:=b5.then s6 (.inl (.inr (.inl (by rw[J]; rfl))));have qW:Fx.Own w4 B 29 1 (bM S M.n M.lc) M.n (I7 (aI M.pl o t)):=qV.congr (fun F _=>congrFun Xy F);refine Ln<|bT<|ay<|av (.agg (aA 14 zQ0))<|dM ni 0 (h1:=(fun F _=>by show(zQ0 F).oneCell'=true; simp only[zQ0]; repeat (first|rfl|split))) fun w5 ow s7 z4 => ?_
  have sK:aQ w5 R 14 zQ0 37:=aL ow;have jT:=fP s7 ni.ty;have vE:=jh jT qB;have sM:=pE.cu s7 Gr;have⟨rQ,ug,uW⟩:=BO jT sJ qw qW;have b7:=b6.then s7 (.inr qX);refine aD (Wr (sR (⟨.agg (aA 14 zQ0),rV Tryz.results28 ⟨_,rfl,aS sK.aH (by kernel_rfl) (by kernel_rfl)⟩,?_⟩)));have xk:Fx.Own w5 B 29 1 (.slice M.la (M.n) (M.lc)) M.n (I7 (aI M.pl o t)):=uW.fu (M_ (fun q=>Value.slice q M.n M.lc) J.symm);exact⟨zeroE,M_ (fun z=>Ending.returned (Value.agg z)) (Fx.dS (y:=bI zeroE) fun j W=>by rcases j with _|_|_|_|_|_|_|_|_|_|_|_|_|_|j <;> first|rfl|omega),Cw,{ M with pl:=aI M.pl o t,ml:=aI M.ml o f },{ c:=vE,l:=xk,a:=sM,g:=rQ.put ug,inv:=(fun i U=>by show Inv (aI M.ml o f i).core _; unfold aI; split; exact hI3; exact(d.inv i U).mono (by omega)),wf:=d.wf,may:=d.may,sm:=d.sm,cz:=d.cz.learn (o:=o) (by omega) (L:=(M.ml o).core) rfl (fun q u=>by show(aI M.ml o f q).s.known=_; unfold aI; rw[b_ u]) (by show(aI M.ml o f o).s.known=_; unfold aI; rw[d_ rfl]; exact M_ eF.known hlc),pB:=hpB,n1:=hn1,n6:=hn6 },(by rw[<- Q]; exact⟨rfl,fun q u=>by show aI M.ml o f q=_; unfold aI; rw[b_ u],.inl ⟨rfl,rfl,rfl,.inr ⟨H,by rw[<- agy]; show(aI M.ml o f o).core=_; unfold aI; rw[d_ rfl]; exact hlc⟩⟩⟩),(by show M.an<=M.an+1; omega),(fun _=>rfl),b7,fun _ h => .inl h⟩
 rw[U_]at H;refine Lv aF (aM Y.aH 1 ((show _=Value.bool x.meet from rfl).trans (M_ Value.bool H)))<|aD<|aK<|Wk<|sN<|ay<|av (pt p)<|Lv (.agg (aA 9 (Ho x))) (fM Y.aH 0)<|kF (aay M B p T x _ m18 hx) ?_;rintro e9 w6 ⟨V,hV,hVs,hVd,E,hb2⟩;refine⟨_,E,?_⟩;clear E;rw[<- Q]at hVd;have s8:=Sb hb2;have⟨uh,rR,sw,vU,uj,nY⟩:=rz hb2 m14 m15 m16 m17 Y m20;have b8:=Z.then s8 (.inr Z.size);refine nS 14 zQ0 fun g3 w7 ae uy s9 z5 => ?_;have⟨m64,xq,wI,vF,yt,sO⟩:=rz s9.old uh rR sw vU uj nY;have b9:=b8.then s9 (.inr b8.size);have BF:=iK ae b8.size;have asn:=cO ae uh.lt;have OG:(.slice M.aa (M.an) (M.ac):Value).ownBlock≠some g3:=by rw[ae]; exact sw.kM (A_ _)
 have⟨aso,asq⟩:=rD ae uj.lt nY.lt;have GZ:=uy.lt;refine dM uy 0 (h1:=(dW _)) fun w8 vG s10 z6 => ?_;have uN:aQ w8 g3 14 (bI V) 37:=aL vG;have oq:=fP s10 uy.ty;have⟨vH,vI⟩:=vP oq m64 xq;have yL:=wI.cu s10 OG;have⟨wJ,yV⟩:=vP oq vF yt;have yX:=sO.cu s10 (by omega);have b10:=b9.then s10 (.inr BF);refine aD<|Ws ?_;have asr:=wJ o (by omega);refine jY [0,1,2,4,3,5,6,7,8,9,10,11,12,13] [0,0,0,4,0,0,4,4,3,0,0,0,0,0] [(8,3,[6,5,3]),(8,6,[6]),(8,7,[7]),(9,8,[8]),(10,8,[9,8]),(11,8,[9,8]),(12,8,[8]),(13,8,[8])] fun BS fZ mQ => ?_;have s11:Stp w8.heap.size w8 BS:=Sb fZ;have⟨yM,wK,vV,vJ,yu,zK,wL,Ai⟩:=mO fZ vH vI yL wJ yV yX uN asr;have b11:=b10.then s11 (.inr b10.size);refine aY (pt p)<|aY (pt p)<|aY (pt p)<|aY (au o)<|Rs (.slice M.la (M.n) (M.lc)) (aM yM.aH 0) ?_;obtain⟨PN,K⟩:=wK.addr (by omega);have zL:Fx.Own BS B 29 1 (bM PN M.n M.lc) M.n (I7 M.pl):=wK.fu (M_ (fun q=>Value.slice q M.n M.lc) K);refine Rp (pf PN o) (fun _=>dB 1 (hx:=(rfl.trans (M_ (fun q=>Value.slice q (M.n) (M.lc)) K))))<|Rs (pt (M.pl o)) (aM zL.aH o) ?_;refine Rs (.agg (aA 14 (bI V))) (fM wL.aH 0) ?_;refine gQ<|kF (PO (M.ml o) B (M.pl o) T V _ Ai hV (d.inv o (by omega)).w (by omega)) ?_;rintro e9 w9 ⟨t,f,E,hc3,hL2,hb3⟩;refine⟨.tuple #[(pt t),au (bD (M.ml o).core V)],E,?_⟩;clear E;have s12:=Sb hb3;have⟨AB,yY,yZ,Aj,Er,C9,Cc⟩:=jJ hb3 yM vV vJ yu zK wL zL;have b12:=b11.then s12 (.inr b11.size);refine Ln<|aY (.tuple #[(pt t),au (bD (M.ml o).core V)])<|aY (pt t)<|aY (au (bD (M.ml o).core V))<|aY (pt t)<|aY (au (bD (M.ml o).core V))<|bT<|Ws<|ay<|av (au (bD (M.ml o).core V)) ?_;by_cases I:(bD (M.ml o).core V)=0
 ·refine Lv aF (jR I)<|aD<|aK<|Wk<|sN<|ay<|av (pt p)<|av (pt p)<|av (pt p)<|Lv (.slice M.la (M.n) (M.lc)) (aM AB.aH 0)<|av (au o)<|av (pt t)<|Lv (pf PN o) (dB 1 (hx:=(rfl.trans (M_ (fun q=>Value.slice q (M.n) (M.lc)) K))))<|qP Cc o (pt t) fun su CF s13 z7 => ?_;have uq:=fP s13 Cc.KJ;have⟨Al,ES,Ev,ET,FV,uX,xI⟩:=TG uq AB yY yZ Aj Er C9 hL2;have b13:=b12.then s13 (.inl (.inr (.inl (by rw[K]; rfl))));have uY:Fx.Own su B 29 1 (bM PN M.n M.lc) M.n (I7 (aI M.pl o t)):=CF.congr (fun F _=>congrFun Xy F);refine aD<|Ws ?_;have rH:Fx.Own su B 29 1 (.slice M.la (M.n) (M.lc)) M.n (I7 (aI M.pl o t)):=uY.fu (M_ (fun q=>Value.slice q M.n M.lc) K.symm);refine Ad [0,1,2,3,4,5,6,7,8,9,10] [0,0,0,0,1,4,2,2,0,0,3] (jg [37]) vN Fx.jg.trans (fJ := [(10,4,[4]),(6,5,[5]),(7,5,[6,5]),(10,5,[5]),(7,6,[6]),(8,6,[6]),(9,6,[6]),(10,6,[6]),(8,7,[7]),(9,7,[7]),(10,7,[7])]) (by kernel_rfl) (by kernel_rfl) (by kernel_rfl) (by kernel_rfl) (by kernel_rfl) fun SF mF BU => ?_;have Ba:Stp su.heap.size su SF:=Sb mF;have⟨oU,oF,qb,oG,oV,rJ,sF,oZ⟩:=mO mF Al ES Ev ET FV uX xI rH;have b14:=b13.then Ba (.inr b13.size);refine aY (pt p)<|aY (pt p)<|aY (pt p)<|aY (pf p 1)<|Rd (v := .slice M.aa (M.an) (M.ac)) (by rfl) (by rfl) (vN _) (fun D C=>bf (x:=OB (.slice M.la (M.n) (M.lc)) (.slice M.aa (M.an) (M.ac))) rfl rfl (by kernel_rfl) (oU.kV C (by decide)).aH (i:=1) (by omega) (by omega) rfl) ?_;refine Rs (.agg (aA 14 (bI V))) (fM rJ.aH 0) ?_;refine zG<|yP (vs := [(0,.agg (aA 14 (bI V)))]) (s:=14) (zc:=fun b=>if b<1 then au 0 else if b<8 then aC 0 else if b<9 then .int .u8 (0)else if b<10 then aC 0 else if b<12 then au 0 else aC 0) (y:=bG (fun j=>zQ0 (j % 14)) (0*14) 14 (bI V)) (by rfl) rfl rfl Tryz.underlying76 (by kernel_rfl) (by rfl) (by rfl) (by kernel_rfl) (by rw[bE (off:=0*14) (s:=14) (y:=bI V) rfl (bJ _ _) (by rfl)]; rfl) rfl fun g4 Ah af rM s15 z8 => ?_;have⟨yE,uD,yF,wm,tO,qc,xJ⟩:=jJ s15.old oU oF qb oV rJ sF oZ;have b15:=b14.then s15 (.inr b14.size);have NT:=iK af b14.size;have Zm:=cO af oU.lt;have Zn:(.slice M.aa (M.an) (M.ac):Value).ownBlock≠some g4:=by rw[af]; exact oF.kM (A_ _)
  have⟨amx,amy,Zo⟩:=AZ af oG.lt oV.lt rJ.lt;have M9:=rM.lt;refine Ln ⟨Fx.jg.of_below s15.old,?_⟩;refine zG<|zB (B:=B) (s:=14) (bytes:=112) (k:=M.an) (m:=1) (v := .slice M.aa (M.an) (M.ac)) (x:=evX M.ev) (by rfl) rfl rfl rfl Tryz.underlying76 (by kernel_rfl) (by kernel_rfl) rfl rfl uD rM.aH (zP (fun j=>(show(bI V j).oneCell'=true by unfold bI; repeat (first|rfl|split)))) (by omega) (by omega) (by omega) (m_ hB b15.size) fun N ab BZ ho1 hg1 xg hlt1 => ?_
  have uV:=zC hg1 uD;have⟨tQ,Am⟩:=vP uV yE yF;have Bd:=wm.grown hg1 Gr;have amA:R≠N:=fun e=>xg.elim (fun P=>Gr (by rw[e]; exact P)) (fun P=>by have:=wm.lt; omega);have Ao:=tO.grown hg1 OG;have amB:g3≠N:=fun e=>xg.elim (fun P=>OG (by rw[e]; exact P)) (fun P=>by have:=tO.lt; omega);have⟨Bf,Ce⟩:=vP uV qc xJ;have xK:Fx.Own BZ B 37 14 (bM N (M.an+1) ab) (M.an+1) (evX (aI M.ev M.an V)):=(ho1.congr (fun j W=>agt j W));have b16:jI (Yv p M) w BZ:=Fx.jI.grow b15 hg1 (fun q u => .inl (.inr (.inr u)));refine Ln ⟨uV,?_⟩;refine aY (pt p)<|aY (pf p 1)<|gQ<|ji tQ 1 (bM N (M.an+1) ab) fun FK ze s16 z9 => ?_;have xL:aQ FK p 2 (OB (.slice M.la (M.n) (M.lc)) (bM N (M.an+1) ab)) 78:=ze.congr (ajO _ _ _);have vT:=fP s16 tQ.ty;have⟨F6,Db,Dc,Ey,Ez,Bg⟩:=TF vT Am Bd Ao Bf Ce xK;have b17:=b16.then s16 (.inl (.inl rfl));refine Ln<|bT<|ay<|Lv (.agg (aA 14 (bI V))) (fM Dc.aH 0)<|dM Db 0 (h1:=(dW _)) fun K6 Df Ih YP => ?_;have Bh:aQ K6 R 14 (bI V) 37:=aL Df;have Ak:=fP Ih Db.ty;have Dl:=jh Ak F6;have zf:=Dc.cu Ih (by omega);have⟨Bj,yG⟩:=vP Ak Ey Ez;have Di:=Bg.acY Ih (by omega);have NH:=jh Ak xL;have b18:=b17.then Ih (.inr qX);refine aD (Wr (⟨.agg (aA 14 (bI V)),rV Tryz.results28 ⟨_,rfl,aS Bh.aH (by kernel_rfl) (by kernel_rfl)⟩,?_⟩));have hinv:Inv f.core (T+3660):=by rw[hc3]; exact(II hVs (d.inv o (by omega))).mono (by omega)
  have eRo:aP V=o:=by unfold aP; omega
  have hk3:f.s.known=aI (M.ml o).s.known o ((M.ml o).s.known o+1):=(M_ eF.known hc3).trans (by rw[zV I,eRo]; rfl);exact⟨V,rfl,hV,{ M with pl:=aI M.pl o t,ml:=aI M.ml o f,an:=M.an+1,aa:=some ⟨N,0,none⟩,ac:=ab,ev:=aI M.ev M.an V },{ c:=NH,l:=yG,a:=Di,g:=Dl.put Bj,inv:=(fun i U=>by show Inv (aI M.ml o f i).core _; unfold aI; split; exact hinv; exact(d.inv i U).mono (by omega)),wf:=(fun k X=>by have hk2:k<M.an+1:=X; show gI (aI M.ev M.an V k); unfold aI; split; exact hV; exact d.wf k (by omega)),may:=(fun k X=>by have hk2:k<M.an+1:=X; show bR (aI M.ev M.an V k)=true; unfold aI; split; exact Sd I; exact d.may k (by omega)),sm:=(fun k X=>by have hk2:k<M.an+1:=X; show sH (aI M.ev M.an V k); unfold aI; split; exact hVs; exact d.sm k (by omega)),cz:=d.cz.event (o:=o) (by omega) (iA I) eRo hVd.2.2 (fun q u=>by show(aI M.ml o f q).s.known=_; unfold aI; rw[b_ u]) (by show(aI M.ml o f o).s.known=_; unfold aI; rw[d_ rfl]; exact hk3),pB:=hpB,n1:=hn1,n6:=hn6 },(by rw[<- Q]; exact⟨rfl,fun q u=>by show aI M.ml o f q=_; unfold aI; rw[b_ u],.inr ⟨H,rfl,rfl,I,by show(aI M.ml o f o).core=_; unfold aI; rw[d_ rfl]; exact hc3,hVd⟩⟩),A_ _,(fun u=>by rw[H]at u; cases u),b18,aaG.app xg b15.size⟩
 refine Lv aG (kY I)<|aD<|aN<|ay<|av (.agg (aA 14 zQ0))<|dM Er 0 (h1:=(fun F _=>by show(zQ0 F).oneCell'=true; simp only[zQ0]; repeat (first|rfl|split))) fun JE JZ Ir z11 => ?_
 have JQ:aQ JE R 14 zQ0 37:=aL JZ;have Cb:=fP Ir Er.ty;have JR:=jh Cb AB;have NU:=yY.cu Ir Gr;have JU:=jh Cb yZ;have NI:=C9.cu Ir (by omega);have Lx:=jh Cb Cc;have b19:=b12.then Ir (.inr qX);refine aD (Wr (sR (⟨.agg (aA 14 zQ0),rV Tryz.results28 ⟨_,rfl,aS JQ.aH (by kernel_rfl) (by kernel_rfl)⟩,?_⟩)));have NK:Fx.Own JE B 29 1 (.slice M.la (M.n) (M.lc)) M.n (I7 M.pl):=Lx.fu (M_ (fun q=>Value.slice q M.n M.lc) K.symm);exact⟨zeroE,M_ (fun z=>Ending.returned (Value.agg z)) (Fx.dS (y:=bI zeroE) fun j W=>by rcases j with _|_|_|_|_|_|_|_|_|_|_|_|_|_|j <;> first|rfl|omega),Cw,M,{ c:=JR,l:=NK,a:=NU,g:=JU,inv:=fun i U=>(d.inv i U).mono (by omega),wf:=d.wf,may:=d.may,sm:=d.sm,cz:=d.cz,pB:=hpB,n1:=hn1,n6:=hn6 },⟨rfl,fun _ _=>rfl,.inl ⟨rfl,rfl,rfl,.inl rfl⟩⟩,by omega,(fun _=>rfl),b19,fun _ h => .inl h⟩
theorem aks(M:WM)(B p T:Nat)(x:Gy)(w:World)(c:oL w B p M T)(b:B<=w.heap.size)(hx:Ja x)(o:M.an<=60)(m:T<=890000) :
 Calls Tryz.prog 28 #[(pt p),.agg (aA 9 (Ho x))] w fun e d => ∃ v,e = .returned (.agg (aA 14 (bI v)))/\gI v /\ ∃ a,oL d B p a (T+3660)/\DoR (x.who % M.n) x M a v/\a.an<=M.an+1/\(x.meet=true->a.an=M.an)/\Below B w d :=
 (akr M B p T x w c b hx o m).mono fun _ _ ⟨v,f,g,a,h,i,j,k,l,_⟩=>⟨v,f,g,a,h,i,j,k,c.ql b l⟩
end Go.Proofs.YtcbedgfikejkoaaGreatDoor
namespace Go.Proofs.YtcbedgfikejkoaaGreatDoor
open Go.RowKit Go.WideShapes Go.ChangeShapes Go.Deep Rt
def XE:Value->Bool | .bool b=>b|_=>false
theorem SS.int{k:IntKind}{v:Value}(h:SS (some k) v):v = .int k (intOf v)/\(Lit.int k (intOf v)).wf=true:=by
 obtain⟨n,rfl,a⟩:=h; exact⟨rfl,a⟩
theorem SS.bool{v:Value}(h:SS none v):v = .bool (XE v):=by
 obtain⟨b,rfl⟩:=h; rfl
theorem wf_u8{n:Int}(h:(Lit.int .u8 n).wf=true):0<=n/\n<=255:=by simp[Lit.wf,IntKind.min,IntKind.max,IntKind.bits,IntKind.signed]at h; omega
theorem wf_u16{n:Int}(h:(Lit.int .u16 n).wf=true):0<=n/\n<=65535:=by simp[Lit.wf,IntKind.min,IntKind.max,IntKind.bits,IntKind.signed]at h; omega
theorem OH{n:Int}(h:(Lit.int .u8 n).wf=true) : ∃ m:Nat,n=(m:Int)/\m<=255:=by
 have:=wf_u8 h; exact⟨n.toNat,by omega,by omega⟩
theorem aaH{n:Int}(h:(Lit.int .u16 n).wf=true) : ∃ m:Nat,n=(m:Int)/\m<=65535:=by
 have:=wf_u16 h; exact⟨n.toNat,by omega,by omega⟩
theorem Fx.nV.congr{w:World}{a:Option Addr}{n s:Nat}{x y:Nat->Value}(h:Fx.nV w a n s x)(e : ∀ p,p<n*s->x p=y p):Fx.nV w a n s y:=fun f=>by
 obtain⟨b,j,d,g⟩:=h f;exact⟨b,j,d,fun i c=>by rw[<- e i c]; exact g i c⟩
def XF:List (Option IntKind) := [some .u8,none,some .u8,some .u8,some .u8,some .u8,some .u16,some .u8,some .u8]
def XG(X:Nat->Value):Gy:=⟨(intOf (X 0)).toNat,XE (X 1),(intOf (X 2)).toNat,(intOf (X 3)).toNat,(intOf (X 4)).toNat,(intOf (X 5)).toNat,(intOf (X 6)).toNat,(intOf (X 7)).toNat,(intOf (X 8)).toNat⟩
theorem MH{X:Nat->Value}(h : ∀(j:Nat) (k:Option IntKind),XF[j]? = some k->SS k (X j)):Ja (XG X) /\ ∀ j,j<9->X j=Ho (XG X) j:=by
 have a : ∀ j,XF[j]? = some (some .u8)->X j = .int .u8 ((intOf (X j)).toNat:Int)/\(intOf (X j)).toNat<=255:=fun j d=>by
  obtain⟨e,b⟩:=(h j _ d).int;have:=wf_u8 b;exact⟨by rw[Int.toNat_of_nonneg this.1]; exact e,by omega⟩
 have c:X 6 = .int .u16 ((intOf (X 6)).toNat:Int)/\(intOf (X 6)).toNat<=65535:=by
  obtain⟨e,b⟩:=(h 6 (some .u16) rfl).int;have:=wf_u16 b;exact⟨by rw[Int.toNat_of_nonneg this.1]; exact e,by omega⟩
 refine⟨⟨(a 0 rfl).2,(a 2 rfl).2,(a 3 rfl).2,(a 4 rfl).2,(a 5 rfl).2,c.2,(a 7 rfl).2,(a 8 rfl).2⟩,fun j d => ?_⟩
 rcases j with _|_|_|_|_|_|_|_|_|j
 ·exact(a 0 rfl).1
 ·exact(h 1 none rfl).bool
 ·exact(a 2 rfl).1
 ·exact(a 3 rfl).1
 ·exact(a 4 rfl).1
 ·exact(a 5 rfl).1
 ·exact c.1
 ·exact(a 7 rfl).1
 ·exact(a 8 rfl).1
 omega
section
variable {H:Type} {enc:TypeId × Value->H} {P:Program} {w:World}
theorem Sg{t e:TypeId}{a:Option Addr}{len cap D:Nat}{d:DataW H}{r:List MemPlace}(q:P.underlying t=some (.slice e))(b:zu P D e=some XF)(l:P.cellsOf e=9)
 (h:DataW.Trod enc P w 0 (fun _=>true) true t (.slice a len cap) d r) : ∃ g:Nat->Gy,(∀ i,i<len->Ja (g i))/\Fx.nV w a len 9 (Fx.flat 9 fun k=>Ho (g k)):=by
 obtain⟨v,n⟩:=h;obtain⟨s,x,u,f,_,_,X,c,m⟩:=R9 q b l (by decide) n;simp[Value.cells]at f;obtain⟨rfl,rfl,rfl⟩:=f;exact⟨fun i=>XG (X i),fun i o=>(MH (c i o)).1,m.congr (Fx.bK fun k b j p=>(MH (c k b)).2 j p)⟩
end
end Go.Proofs.YtcbedgfikejkoaaGreatDoor
namespace Go.Proofs.YtcbedgfikejkoaaGreatDoor
open Go.RowKit Rt
open Fx (bf eG iX Lv sN Ln Ws Wr Sb Wk rV sR Rs Rn Rd Wb Ac fP ng Ad rv aA aQ bG aO ev Stp aL flat aS iU iT bA dK bL bU fQ)
theorem aaI{B:Nat}{a b c:World}(h:Below a.heap.size a b)(e:Below B b c)(d:a.heap.size<=B):Below a.heap.size a c:=h.trans (e.mono d)
theorem wM.om{w w':World}{B p:Nat}{m:lZ}{e:List TypeId}(h:wM w B p m)(b:Fx.zH e w w')(k:(Lp.all fun T => !e.contains T)=true):wM w' B p m:=by
 have a : ∀ d∈Lp,e.contains d=false:=fun d f=>by
  have:=List.all_eq_true.1 k d f
  simpa using this
 exact { h with
  c:=h.c.om b (a _ (by decide)),n:=h.n.om b (a _ (by decide)),g:=h.g.om b (a _ (by decide)),tc:=h.tc.om b (a _ (by decide)),t:=h.t.om b (a _ (by decide)),r:=⟨fun i j=>(h.r.1 i j).om b (a _ (by decide)),h.r.2⟩ }
section
namespace Rt
structure Ab where
 inn:Nat->Bool
 left:Nat->Bool
 own:Nat->Int
 has:Int->Bool
 par:Int->Int
 R:Int->Nat->Int
 gh:Int->Int->Bool
 g:Int->Int->Nat->Int
 ask:Int->Int->Bool
def Ab.up(A:Ab)(x:Int):Nat->Int
 | 0=>x
 | i+1=>A.par (A.up x i)
def Ab.on(A:Ab)(x y:Int):Bool:=A.has y&&(List.range 6).any fun i=>decide (A.up x i=y)
def rW(v:EvM):Int:=jE v.o v.seq
def aV(v:EvM):Nat:=(v.o-1).toNat
def dV(v:EvM):Nat:=(v.dst-1).toNat
def Ab.dl(A:Ab)(v:EvM)(y:Int)(p:Nat):Int :=
 if v.kind=1 then(if y=rW v/\p=aV v then v.aT else 0)
 else if v.kind=2 then(if y=v.node/\p=aV v then v.aT else 0)
 else if v.kind=3 then(if A.on v.node y=true/\p=6+aV v then v.aT else 0)
 else if v.kind=4 then(if A.on (A.g v.o v.of 2) y=true/\p=12+aV v then A.g v.o v.of 3 else 0)
 else if v.kind=5 then(if y=v.node/\p=18+(6*aV v+dV v)then v.aT else 0)
 else 0
def Ab.qM(A:Ab)(v:EvM):Ab where
 inn:=fun j=>A.inn j || (decide (v.kind=6)&&decide (j=dV v))
 left:=fun j=>A.left j || (decide (v.kind=7)&&decide (j=aV v))
 own:=fun j=>A.own j+if v.kind=1/\j=aV v then 1 else 0
 has:=fun y=>A.has y || (decide (v.kind=1)&&decide (y=rW v))
 par:=fun y=>if v.kind=1/\y=rW v then v.node else A.par y
 R:=fun y p=>A.R y p+A.dl v y p
 gh:=fun o r=>A.gh o r || (decide (v.kind=3)&&(decide (o=v.o)&&decide (r=v.req)))
 g:=fun o r j=>if v.kind=3/\o=v.o/\r=v.req then(if j=2 then v.node else if j=3 then v.aT else 0)else if v.kind=4/\o=v.o/\r=v.of/\j=4 then v.req else A.g o r j
 ask:=fun o r=>A.ask o r || ((decide (v.kind=3) || decide (v.kind=4))&&(decide (o=v.o)&&decide (r=v.req)))
structure Ab.Ok(A:Ab):Prop where
 z:A.has 0=false
 p : ∀ y,A.has y=true->A.par y=0\/A.has (A.par y)=true
 p0 : ∀ y,A.has y=false->A.par y=0
 g : ∀ o r,A.gh o r=true->A.has (A.g o r 2)=true
 r0 : ∀ y p,A.has y=false->A.R y p=0
structure Ab.Pre(A:Ab)(v:EvM):Prop where
 n1:v.kind=1->A.has (rW v)=false/\rW v≠0/\(v.node=0\/A.has v.node=true)
 n2:v.kind=2->A.has v.node=true
 n3:v.kind=3->A.has v.node=true/\A.gh v.o v.req=false
 n4:v.kind=4->A.gh v.o v.of=true
 n5:v.kind=5->A.has v.node=true
section
variable {A B:Ab} {u v:EvM} {y:Int}
theorem Ab.Jb(h:A.Ok){x:Int}(hx:A.has x=true) : ∀ i,A.up x i=0\/A.has (A.up x i)=true
 | 0 => .inr hx
 | i+1=>by
   show A.par (A.up x i)=0\/A.has (A.par (A.up x i))=true
   rcases Ab.Jb h hx i with e|e
   ·left; rw[e]; exact h.p0 0 h.z
   ·exact h.p _ e
theorem Ab.zW(hy:A.has y=true):(A.qM v).has y=true:=by show(A.has y || _)=true; rw[hy]; rfl
theorem Ab.Qz(c:A.Pre v)(hy:A.has y=true):(A.qM v).par y=A.par y:=by
 show(if v.kind=1/\y=rW v then v.node else A.par y)=A.par y;rw[b_];rintro ⟨a,b⟩;have:=(c.n1 a).1;rw[<- b,hy]at this; cases this
theorem Ab.XH(c:A.Pre v):(A.qM v).par 0=A.par 0:=by
 show(if v.kind=1/\(0:Int)=rW v then v.node else A.par 0)=A.par 0;rw[b_];rintro ⟨a,b⟩;exact(c.n1 a).2.1 b.symm
theorem Ab.XI(h:A.Ok)(a:A.Pre v){x:Int}(hx:A.has x=true) : ∀ i,(A.qM v).up x i=A.up x i
 | 0=>rfl
 | i+1=>by
   show(A.qM v).par ((A.qM v).up x i)=A.par (A.up x i);rw[Ab.XI h a hx i]
   rcases Ab.Jb h hx i with e|e
   ·rw[e]; exact Ab.XH a
   ·exact Ab.Qz a e
theorem Ab.Kk(h:A.Ok)(b:A.Pre v){x:Int}(hx:A.has x=true)(y:Int):(A.qM v).on x y=A.on x y:=by
 unfold Ab.on;have e:((List.range 6).any fun i=>decide ((A.qM v).up x i=y))=((List.range 6).any fun i=>decide (A.up x i=y)):=by
  congr 1; funext i; rw[Ab.XI h b hx i]
 rw[e]
 cases hc:(List.range 6).any fun i=>decide (A.up x i=y)
 ·rw[J_,J_]
 rw[Bool.and_true,Bool.and_true];obtain⟨i,_,a⟩:=List.any_eq_true.1 hc;have a:=h_ a;show(A.has y || (decide (v.kind=1)&&decide (y=rW v)))=A.has y
 cases hy:A.has y
 ·rcases Ab.Jb h hx i with e0|e0
  ·rw[a]at e0
   cases c1:decide (v.kind=1)
   ·rfl
   have:=(b.n1 (h_ c1)).2.1;rw[g_ (show ¬ y=rW v by rw[e0]; exact fun q=>this q.symm)]; rfl
  rw[a,hy]at e0; cases e0
 rfl
theorem Ab.MI(f:A.Pre v){o r:Int}(d:A.gh o r=true)(j:Nat)(e:j≠4):(A.qM v).g o r j=A.g o r j:=by
 show(if v.kind=3/\o=v.o/\r=v.req then(if j=2 then v.node else if j=3 then v.aT else 0)else if v.kind=4/\o=v.o/\r=v.of/\j=4 then v.req else A.g o r j)=A.g o r j;rw[b_,b_]
 ·exact fun q=>e q.2.2.2
 rintro ⟨a,b,c⟩;have:=(f.n3 a).2;rw[<- b,<- c,d]at this; cases this
theorem Ab.XJ{o r:Int}(a:A.gh o r=true):(A.qM v).gh o r=true:=by show(A.gh o r || _)=true; rw[a]; rfl
theorem Ab.XK(h:A.Ok)(b:A.Pre v):(A.qM v).Ok where
 z:=by
  show(A.has 0 || (decide (v.kind=1)&&decide ((0:Int)=rW v)))=false;rw[h.z,Bool.false_or]
  cases c1:decide (v.kind=1)
  ·rfl
  ·rw[g_ (fun q=>(b.n1 (h_ c1)).2.1 q.symm)]; rfl
 p:=fun y a=>by
  have a:(A.has y || (decide (v.kind=1)&&decide (y=rW v)))=true:=a;show(if v.kind=1/\y=rW v then v.node else A.par y)=0\/(A.qM v).has (if v.kind=1/\y=rW v then v.node else A.par y)=true;by_cases c:v.kind=1/\y=rW v
  ·rw[d_ c];exact(b.n1 c.1).2.2.imp id Ab.zW
  ·rw[b_ c];have u:A.has y=true:=by
    rcases D_.1 a with q|q
    ·exact q
    ·rw[T_]at q; exact N_ ⟨h_ q.1,h_ q.2⟩ c
   exact(h.p y u).imp id Ab.zW
 p0:=fun y a=>by
  have a:(A.has y || (decide (v.kind=1)&&decide (y=rW v)))=false:=a;rw[Bool.or_eq_false_iff]at a;show(if v.kind=1/\y=rW v then v.node else A.par y)=0;rw[b_]
  ·exact h.p0 y a.1
  ·rintro ⟨s,t⟩;rw[f_ s,f_ t]at a; cases a.2
 g:=fun o r d=>by
  have d:(A.gh o r || (decide (v.kind=3)&&(decide (o=v.o)&&decide (r=v.req))))=true:=d;by_cases c:v.kind=3/\o=v.o/\r=v.req
  ·have:(A.qM v).g o r 2=v.node:=(by show(if v.kind=3/\o=v.o/\r=v.req then _ else _)=v.node; rw[d_ c]; rfl);rw[this]; exact Ab.zW (b.n3 c.1).1
  ·have k:A.gh o r=true:=by
    rcases D_.1 d with q|q
    ·exact q
    ·rw[T_,T_]at q; exact N_ ⟨h_ q.1,h_ q.2.1,h_ q.2.2⟩ c
   rw[Ab.MI b k 2 (by decide)];exact Ab.zW (h.g o r k)
 r0:=fun y p a=>by
  have a:(A.has y || (decide (v.kind=1)&&decide (y=rW v)))=false:=a;rw[Bool.or_eq_false_iff]at a;show A.R y p+A.dl v y p=0;rw[h.r0 y p a.1,Int.zero_add];have l : ∀ x,A.on x y=false:=fun x=>by unfold Ab.on; rw[a.1]; rfl
  unfold Ab.dl;by_cases f:v.kind=1
  ·rw[d_ f,b_];rintro ⟨e,_⟩; rw[f_ f,f_ e]at a; cases a.2
  rw[b_ f];by_cases i:v.kind=2
  ·rw[d_ i,b_];rintro ⟨e,_⟩; rw[e,b.n2 i]at a; cases a.1
  rw[b_ i];by_cases m:v.kind=3
  ·rw[d_ m,b_]; rw[l]; exact fun q=>by cases q.1
  rw[b_ m];by_cases n:v.kind=4
  ·rw[d_ n,b_]; rw[l]; exact fun q=>by cases q.1
  rw[b_ n];by_cases j:v.kind=5
  ·rw[d_ j,b_];rintro ⟨e,_⟩; rw[e,b.n5 j]at a; cases a.1
  rw[b_ j]
theorem Ab.XL(h:A.Ok)(c:A.Pre u)(i:A.Pre v)(y:Int)(p:Nat):(A.qM u).dl v y p=A.dl v y p:=by
 unfold Ab.dl;by_cases d:v.kind=1
 ·rw[d_ d,d_ d]
 rw[b_ d,b_ d];by_cases e:v.kind=2
 ·rw[d_ e,d_ e]
 rw[b_ e,b_ e];by_cases a:v.kind=3
 ·rw[d_ a,d_ a,Ab.Kk h c (i.n3 a).1]
 rw[b_ a,b_ a];by_cases b:v.kind=4
 ·have f:=i.n4 b;rw[d_ b,d_ b,Ab.MI c f 2 (by decide),Ab.MI c f 3 (by decide),Ab.Kk h c (h.g _ _ f)]
 rw[b_ b,b_ b]
theorem Ab.Si(h1:A.inn=B.inn)(a:A.left=B.left)(b:A.own=B.own)(c:A.has=B.has)(d:A.par=B.par)(e:A.R=B.R)(f:A.gh=B.gh)(h:A.g=B.g)(i:A.ask=B.ask):A=B:=by
 cases A; cases B; simp only at h1 a b c d e f h i; subst h1 a b c d e f h i; rfl
theorem Ab.XM(h:A.Ok)(b:A.Pre u)(d:A.Pre v)(k:u.o≠v.o)(i:u.kind=1->v.kind=1->rW u≠rW v):(A.qM u).qM v=(A.qM v).qM u:=by
 apply Ab.Si
 ·funext j; exact Bool.or_right_comm _ _ _
 ·funext j; exact Bool.or_right_comm _ _ _
 ·funext j; exact Int.add_right_comm _ _ _
 ·funext y; exact Bool.or_right_comm _ _ _
 ·funext y
  show(if v.kind=1/\y=rW v then v.node else if u.kind=1/\y=rW u then u.node else A.par y)=(if u.kind=1/\y=rW u then u.node else if v.kind=1/\y=rW v then v.node else A.par y);by_cases c:v.kind=1/\y=rW v
  ·rw[d_ c,d_ c,b_];rintro ⟨e,f⟩;exact i e c.1 (f.symm.trans c.2)
  rw[b_ c,b_ c]
 ·funext y p
  show A.R y p+A.dl u y p+(A.qM u).dl v y p=A.R y p+A.dl v y p+(A.qM v).dl u y p;rw[Ab.XL h b d,Ab.XL h d b,Int.add_right_comm]
 ·funext o r; exact Bool.or_right_comm _ _ _
 ·funext o r j
  show(if v.kind=3/\o=v.o/\r=v.req then _ else if v.kind=4/\o=v.o/\r=v.of/\j=4 then v.req else if u.kind=3/\o=u.o/\r=u.req then _ else if u.kind=4/\o=u.o/\r=u.of/\j=4 then u.req else A.g o r j) =
   (if u.kind=3/\o=u.o/\r=u.req then _ else if u.kind=4/\o=u.o/\r=u.of/\j=4 then u.req else if v.kind=3/\o=v.o/\r=v.req then _ else if v.kind=4/\o=v.o/\r=v.of/\j=4 then v.req else A.g o r j)
  by_cases c:o=v.o
  ·have a : ¬ o=u.o:=fun q=>k (q.symm.trans c);rw[b_ (show ¬ (u.kind=3/\o=u.o/\r=u.req)from fun q=>a q.2.1),b_ (show ¬ (u.kind=4/\o=u.o/\r=u.of/\j=4)from fun q=>a q.2.1),b_ (show ¬ (u.kind=3/\o=u.o/\r=u.req)from fun q=>a q.2.1),b_ (show ¬ (u.kind=4/\o=u.o/\r=u.of/\j=4)from fun q=>a q.2.1)]
  rw[b_ (show ¬ (v.kind=3/\o=v.o/\r=v.req)from fun q=>c q.2.1),b_ (show ¬ (v.kind=4/\o=v.o/\r=v.of/\j=4)from fun q=>c q.2.1),b_ (show ¬ (v.kind=3/\o=v.o/\r=v.req)from fun q=>c q.2.1),b_ (show ¬ (v.kind=4/\o=v.o/\r=v.of/\j=4)from fun q=>c q.2.1)]
 funext o r; exact Bool.or_right_comm _ _ _
end
end Rt
end
section
namespace Rt
def Ar(x:Nat->Int)(a:Nat):Int:=x a-x (6+a)+x (12+a)+(x (18+(6*0+a))+x (18+(6*1+a))+x (18+(6*2+a))+x (18+(6*3+a))+x (18+(6*4+a))+x (18+(6*5+a)))-(x (18+(6*a+0))+x (18+(6*a+1))+x (18+(6*a+2))+x (18+(6*a+3))+x (18+(6*a+4))+x (18+(6*a+5)))
structure Ab.OI(A:Ab)(v:EvM):Prop where
 inn:A.inn (aV v)=true
 left:A.left (aV v)=false
 pre:A.Pre v
 k1:v.kind=1->A.own (aV v)<5/\v.aT<=140737488355328 /\ ¬ ∀ i,i<4->A.has (A.up v.node i)=true
 k2:v.kind=2->A.R v.node (aV v)+v.aT<=140737488355328
 k3:v.kind=3->A.ask v.o v.req=false /\ ∀ y,A.on v.node y=true->v.aT<=Ar (A.R y) (aV v)
 k4:v.kind=4->A.ask v.o v.req=false/\A.g v.o v.of 4=0 /\ ∀ y,A.on (A.g v.o v.of 2) y=true->A.g v.o v.of 3<=A.R y (6+aV v)-A.R y (12+aV v)
 k5:v.kind=5->A.inn (dV v)=true/\v.aT<=Ar (A.R v.node) (aV v)
def akt(a p:Nat):Prop:=p=a\/p=6+a\/p=12+a \/ ∃ k,k<6/\p=18+(6*a+k)
structure Ab.Le(A B:Ab)(a:Nat):Prop where
 inn : ∀ j,A.inn j=true->B.inn j=true
 left:B.left a=A.left a
 own:B.own a=A.own a
 has : ∀ y,A.has y=true->B.has y=true
 hid : ∀ s,1<=s/\s<1099511627776->B.has (jE ((a:Int)+1) s)=A.has (jE ((a:Int)+1) s)
 par : ∀ y,A.has y=true->B.par y=A.par y
 R1 : ∀ y p,A.has y=true->akt a p->B.R y p=A.R y p
 R2 : ∀ y k,A.has y=true->k<6->A.R y (18+(6*k+a))<=B.R y (18+(6*k+a))
 gh : ∀ o r,A.gh o r=true->B.gh o r=true /\ ∀ j,j≠4->B.g o r j=A.g o r j
 gho : ∀ r,B.gh ((a:Int)+1) r=A.gh ((a:Int)+1) r
 go : ∀ r,B.g ((a:Int)+1) r 4=A.g ((a:Int)+1) r 4
 ask : ∀ r,B.ask ((a:Int)+1) r=A.ask ((a:Int)+1) r
structure Nc(v:EvM):Prop where
 o:1<=v.o/\v.o<=6
 seq:1<=v.seq/\v.seq<1099511627776
 aT:0<=v.aT
 dst:v.kind=5->1<=v.dst/\v.dst<=6
section
variable {A B:Ab} {u v:EvM} {a:Nat} {x y:Int}
theorem Nc.reg(h:Nc v):v.o=(aV v:Int)+1/\aV v<6:=by have:=h.o; unfold aV; omega
theorem Nc.id(h:Nc v):rW v=1099511627776*v.o+v.seq:=by
 unfold rW jE; rw[d_ ⟨h.o.1,h.o.2,h.seq.1,h.seq.2⟩]
theorem Nc.ne(a:Nc u)(b:Nc v)(h:u.o≠v.o):rW u≠rW v:=by
 rw[a.id,b.id]; have:=a.seq; have:=b.seq; have:=a.o; have:=b.o; omega
theorem Ab.Le.refl(A:Ab)(a:Nat):A.Le A a:=⟨fun _ h=>h,rfl,rfl,fun _ h=>h,fun _ _=>rfl,fun _ _=>rfl,fun _ _ _ _=>rfl,fun _ _ _ _=>O_ _,fun _ _ h=>⟨h,fun _ _=>rfl⟩,fun _=>rfl,fun _=>rfl,fun _=>rfl⟩
theorem Ab.Le.up(h:A.Le B a)(b:A.Ok)(c:B.Ok)(hx:A.has x=true) : ∀ i,B.up x i=A.up x i
 | 0=>rfl
 | i+1=>by
   show B.par (B.up x i)=A.par (A.up x i);rw[h.up b c hx i]
   rcases Ab.Jb b hx i with e|e
   ·rw[e,b.p0 0 b.z,c.p0 0 c.z]
   ·exact h.par _ e
theorem Ab.Le.on(h:A.Le B a)(c:A.Ok)(d:B.Ok)(hx:A.has x=true)(y:Int):B.on x y=A.on x y:=by
 unfold Ab.on;have e:((List.range 6).any fun i=>decide (B.up x i=y))=((List.range 6).any fun i=>decide (A.up x i=y)):=by
  congr 1; funext i; rw[h.up c d hx i]
 rw[e]
 cases hc:(List.range 6).any fun i=>decide (A.up x i=y)
 ·rw[J_,J_]
 rw[Bool.and_true,Bool.and_true];obtain⟨i,_,b⟩:=List.any_eq_true.1 hc;have b:=h_ b
 rcases Ab.Jb c hx i with e0|e0
 ·rw[b]at e0; rw[e0,c.z,d.z]
 rw[b]at e0; rw[e0,h.has _ e0]
theorem Ab.OJ(h:A.on x y=true):A.has y=true:=by unfold Ab.on at h; rw[T_]at h; exact h.1
theorem Ab.Le.loc(h:A.Le B a)(ha:a<6)(hy:A.has y=true):Ar (A.R y) a<=Ar (B.R y) a:=by
 have o : ∀ k,k<6->B.R y (18+(6*a+k))=A.R y (18+(6*a+k)):=fun k b=>h.R1 y _ hy (.inr (.inr (.inr ⟨k,b,rfl⟩)));unfold Ar;rw[h.R1 y a hy (.inl rfl),h.R1 y (6+a) hy (.inr (.inl rfl)),h.R1 y (12+a) hy (.inr (.inr (.inl rfl))),o 0 (by omega),o 1 (by omega),o 2 (by omega),o 3 (by omega),o 4 (by omega),o 5 (by omega)];have:=h.R2 y 0 hy (by omega); have:=h.R2 y 1 hy (by omega); have:=h.R2 y 2 hy (by omega); have:=h.R2 y 3 hy (by omega); have:=h.R2 y 4 hy (by omega); have:=h.R2 y 5 hy (by omega);omega
theorem Ab.Le.okE(h:A.Le B (aV v))(l:A.Ok)(m:B.Ok)(t:Nc v)(a:A.OI v):B.OI v:=by
 obtain⟨c,p⟩:=t.reg;have P:=a.pre;have w : ∀ r,B.gh v.o r=A.gh v.o r:=fun r=>by rw[c]; exact h.gho r
 have s : ∀ r,B.ask v.o r=A.ask v.o r:=fun r=>by rw[c]; exact h.ask r
 refine⟨h.inn _ a.inn,h.left.trans a.left,⟨fun k => ?_,fun k=>h.has _ (P.n2 k),fun k=>⟨h.has _ (P.n3 k).1,(w _).trans (P.n3 k).2⟩,fun k=>(w _).trans (P.n4 k),fun k=>h.has _ (P.n5 k)⟩,fun k => ?_,fun k => ?_,fun k => ?_,fun k => ?_,fun k=>⟨h.inn _ (a.k5 k).1,S_ (a.k5 k).2 (h.loc p (P.n5 k))⟩⟩
 ·obtain⟨d,f,j⟩:=P.n1 k;refine⟨?_,f,j.imp (fun q=>q) (h.has _)⟩;have:=h.hid v.seq t.seq;rw[<- c]at this;exact this.trans d
 ·obtain⟨d,f,j⟩:=a.k1 k;refine⟨by rw[h.own]; exact d,f,fun q=>j fun i x => ?_⟩;have n:=q i x
  rcases(P.n1 k).2.2 with e|e
  ·exfalso;have:B.up v.node 0=0:=e;have:=q 0 (by omega);rw[‹B.up v.node 0=0›,m.z]at this; cases this
  rw[h.up l m e i]at n
  rcases Ab.Jb l e i with e0|e0
  ·rw[e0,m.z]at n; cases n
  exact e0
 ·rw[h.R1 _ _ (P.n2 k) (.inl rfl)]; exact a.k2 k
 ·refine⟨(s _).trans (a.k3 k).1,fun y b => ?_⟩;rw[h.on l m (P.n3 k).1]at b;exact S_ ((a.k3 k).2 y b) (h.loc p (Ab.OJ b))
 obtain⟨d,f,j⟩:=a.k4 k;have u:=(h.gh _ _ (P.n4 k)).2;refine⟨(s _).trans d,by rw[c,h.go,<- c]; exact f,fun y b => ?_⟩;rw[u 2 (by decide),h.on l m (l.g _ _ (P.n4 k))]at b;rw[u 3 (by decide),h.R1 _ _ (Ab.OJ b) (.inr (.inl rfl)),h.R1 _ _ (Ab.OJ b) (.inr (.inr (.inl rfl)))];exact j y b
end
end Rt
end
section
namespace Rt
section
variable {A B:Ab} {u v:EvM} {a:Nat} {x y:Int}
theorem Ab.Le.dl(h:A.Le B a)(f:A.Ok)(j:B.Ok)(i:A.Pre u)(y:Int)(p:Nat):B.dl u y p=A.dl u y p:=by
 unfold Ab.dl;by_cases d:u.kind=1
 ·rw[d_ d,d_ d]
 rw[b_ d,b_ d];by_cases e:u.kind=2
 ·rw[d_ e,d_ e]
 rw[b_ e,b_ e];by_cases c:u.kind=3
 ·rw[d_ c,d_ c,h.on f j (i.n3 c).1]
 rw[b_ c,b_ c];by_cases b:u.kind=4
 ·have k:=h.gh _ _ (i.n4 b);rw[d_ b,d_ b,k.2 2 (by decide),k.2 3 (by decide),h.on f j (f.g _ _ (i.n4 b))]
 rw[b_ b,b_ b]
theorem or_mono{p q c:Bool}(h:p=true->q=true)(a:(p || c)=true):(q || c)=true:=by
 cases c
 ·rw[I_]at a ⊢; exact h a
 rw[Bool.or_true]
theorem Ab.Le.both(h:A.Le B a)(f:A.Ok)(i:B.Ok)(n:A.Pre u)(w:B.Pre u):(A.qM u).Le (B.qM u) a:=by
 have m : ∀ y,(A.qM u).has y=true->A.has y=true\/(A.has y=false/\B.has y=false/\u.kind=1/\y=rW u):=fun y b=>by
  have b:(A.has y || (decide (u.kind=1)&&decide (y=rW u)))=true:=b
  cases hc:A.has y
  ·right;rw[hc,Bool.false_or,T_]at b;have k:=h_ b.1; have e:=h_ b.2;exact⟨rfl,e ▸ (w.n1 k).1,k,e⟩
  ·exact .inl rfl
 refine⟨fun j d=>or_mono (h.inn j) d,?_,?_,fun y b=>or_mono (h.has y) b,fun s x => ?_,fun y b => ?_,fun y p b v => ?_,fun y k b t => ?_,fun o r l=>⟨or_mono (fun q=>(h.gh o r q).1) l,fun j d => ?_⟩,fun r => ?_,fun r => ?_,fun r => ?_⟩
 ·show(B.left a || _)=(A.left a || _); rw[h.left]
 ·show B.own a+_=A.own a+_; rw[h.own]
 ·show(B.has _ || _)=(A.has _ || _); rw[h.hid s x]
 ·show(if u.kind=1/\y=rW u then u.node else B.par y)=(if u.kind=1/\y=rW u then u.node else A.par y)
  rcases m y b with q|⟨_,_,k,e⟩
  ·rw[h.par y q]
  rw[d_ ⟨k,e⟩,d_ ⟨k,e⟩]
 ·show B.R y p+B.dl u y p=A.R y p+A.dl u y p;rw[h.dl f i n]
  rcases m y b with q|⟨q1,q2,_,_⟩
  ·rw[h.R1 y p q v]
  rw[f.r0 y p q1,i.r0 y p q2]
 ·show A.R y _+A.dl u y _<=B.R y _+B.dl u y _;rw[h.dl f i n]
  rcases m y b with q|⟨q1,q2,_,_⟩
  ·have:=h.R2 y k q t; omega
  rw[f.r0 y _ q1,i.r0 y _ q2]; exact O_ _
 ·show(if u.kind=3/\o=u.o/\r=u.req then(if j=2 then u.node else if j=3 then u.aT else 0)else if u.kind=4/\o=u.o/\r=u.of/\j=4 then u.req else B.g o r j)=(if u.kind=3/\o=u.o/\r=u.req then(if j=2 then u.node else if j=3 then u.aT else 0)else if u.kind=4/\o=u.o/\r=u.of/\j=4 then u.req else A.g o r j);by_cases c:u.kind=3/\o=u.o/\r=u.req
  ·rw[d_ c,d_ c]
  rw[b_ c,b_ c,b_ (show ¬ (u.kind=4/\o=u.o/\r=u.of/\j=4)from fun q=>d q.2.2.2),b_ (show ¬ (u.kind=4/\o=u.o/\r=u.of/\j=4)from fun q=>d q.2.2.2)];have l:(A.gh o r || (decide (u.kind=3)&&(decide (o=u.o)&&decide (r=u.req))))=true:=l
  rcases D_.1 l with q|q
  ·exact(h.gh o r q).2 j d
  rw[T_,T_]at q; exact N_ ⟨h_ q.1,h_ q.2.1,h_ q.2.2⟩ c
 ·show(B.gh _ r || _)=(A.gh _ r || _); rw[h.gho r]
 ·show(if u.kind=3/\(a:Int)+1=u.o/\r=u.req then(if 4=2 then u.node else if 4=3 then u.aT else 0)else if u.kind=4/\(a:Int)+1=u.o/\r=u.of/\4=4 then u.req else B.g _ r 4)=(if u.kind=3/\(a:Int)+1=u.o/\r=u.req then(if 4=2 then u.node else if 4=3 then u.aT else 0)else if u.kind=4/\(a:Int)+1=u.o/\r=u.of/\4=4 then u.req else A.g _ r 4);rw[h.go r]
 show(B.ask _ r || _)=(A.ask _ r || _); rw[h.ask r]
theorem Ab.agz(d:Nc u)(r:aV u≠a)(ha:a<6){p:Nat}(b:akt a p)(y:Int):A.dl u y p=0:=by
 obtain⟨n,s⟩:=d.reg;have j:p≠aV u:=by rcases b with e|e|e|⟨k,hk,e⟩ <;> omega
 have l:p≠6+aV u:=by rcases b with e|e|e|⟨k,hk,e⟩ <;> omega
 have m:p≠12+aV u:=by rcases b with e|e|e|⟨k,hk,e⟩ <;> omega
 unfold Ab.dl;by_cases f:u.kind=1
 ·rw[d_ f,b_ fun q=>j q.2]
 rw[b_ f];by_cases g:u.kind=2
 ·rw[d_ g,b_ fun q=>j q.2]
 rw[b_ g];by_cases h:u.kind=3
 ·rw[d_ h,b_ fun q=>l q.2]
 rw[b_ h];by_cases i:u.kind=4
 ·rw[d_ i,b_ fun q=>m q.2]
 rw[b_ i];by_cases c:u.kind=5
 ·have o:=d.dst c;rw[d_ c,b_];rintro ⟨_,q⟩;unfold dV at q
  rcases b with e|e|e|⟨k,hk,e⟩ <;> omega
 rw[b_ c]
theorem Ab.aku(a:Nc u){p:Nat}(d:18<=p)(y:Int):0<=A.dl u y p:=by
 obtain⟨b,e⟩:=a.reg;have c:=a.aT;unfold Ab.dl;split
 ·split <;> omega
 split
 ·split <;> omega
 split
 ·split <;> omega
 split
 ·rw[b_ fun q=>by omega]; omega
 split
 ·split <;> omega
 omega
theorem Ab.Le.step(h:A.Le B a)(x:B.Ok)(c:Nc u)(m:B.Pre u)(e:aV u≠a)(ha:a<6):A.Le (B.qM u) a:=by
 obtain⟨w,z⟩:=c.reg;have no : ¬ (a:Int)+1=u.o:=by omega
 refine⟨fun j d => ?_,?_,?_,fun y b=>Ab.zW (h.has y b),fun s f => ?_,fun y b=>(Ab.Qz m (h.has y b)).trans (h.par y b),fun y p b l => ?_,fun y k b v => ?_,fun o r t => ?_,fun r => ?_,fun r => ?_,fun r => ?_⟩
 ·show(B.inn j || _)=true; rw[h.inn j d]; rfl
 ·show(B.left a || (decide (u.kind=7)&&decide (a=aV u)))=A.left a;rw[g_ (show ¬ a=aV u from fun q=>e q.symm),J_,I_]; exact h.left
 ·show B.own a+(if u.kind=1/\a=aV u then 1 else 0)=A.own a;rw[b_ fun q=>e q.2.symm,E_]; exact h.own
 ·show(B.has _ || (decide (u.kind=1)&&decide (jE ((a:Int)+1) s=rW u)))=_;rw[g_ (show ¬ jE ((a:Int)+1) s=rW u from fun q=>by
   rw[c.id]at q; unfold jE at q; rw[d_ ⟨by omega,by omega,f.1,f.2⟩]at q; have:=c.seq; omega),J_,I_]
  exact h.hid s f
 ·show B.R y p+B.dl u y p=A.R y p;rw[Ab.agz c e ha l,E_]; exact h.R1 y p b l
 ·show A.R y _<=B.R y _+B.dl u y _;have:=h.R2 y k b v;have:=Ab.aku (A:=B) c (p:=18+(6*k+a)) (by omega) y;omega
 ·obtain⟨i,n⟩:=h.gh o r t;exact⟨Ab.XJ i,fun j d=>(Ab.MI m i j d).trans (n j d)⟩
 ·show(B.gh _ r || (decide (u.kind=3)&&(decide ((a:Int)+1=u.o)&&decide (r=u.req))))=_;rw[g_ no,Bool.false_and,J_,I_]; exact h.gho r
 ·show(if u.kind=3/\(a:Int)+1=u.o/\r=u.req then(if 4=2 then u.node else if 4=3 then u.aT else 0)else if u.kind=4/\(a:Int)+1=u.o/\r=u.of/\4=4 then u.req else B.g _ r 4)=_;rw[b_ fun q=>no q.2.1,b_ fun q=>no q.2.1]; exact h.go r
 show(B.ask _ r || ((decide (u.kind=3) || decide (u.kind=4))&&(decide ((a:Int)+1=u.o)&&decide (r=u.req))))=_;rw[g_ no,Bool.false_and,J_,I_]; exact h.ask r
end
end Rt
end
section
namespace Rt
def wF(K:Nat->Int)(v:EvM):Bool:=decide (v.seq<=K (aP v))
def fK(ev:Nat->EvM)(K:Nat->Int)(A0:Ab):Nat->Ab
 | 0=>A0
 | n+1=>if wF K (ev n)=true then(fK ev K A0 n).qM (ev n)else fK ev K A0 n
structure Evs(A0:Ab)(ev:Nat->EvM)(an:Nat):Prop where
 ok0:A0.Ok
 rd : ∀ k,k<an->dG (iw ev k) (ev k)=true
 g : ∀ k,k<an->Nc (ev k)
 dc : ∀ k,k<an->PX ev an (ev k).deps
 tk : ∀ k,k<an->(fK ev (ev k).deps A0 k).OI (ev k)
section
variable {A0:Ab} {ev:Nat->EvM} {an n m i j k:Nat} {K K1 K2:Nat->Int}
theorem ny{v:EvM}:wF K v=true<->v.seq<=K (aP v):=by unfold wF; exact Q_
theorem Evs.seq(h:Evs A0 ev an)(a:k<an):(ev k).seq=iw ev k (aP (ev k))+1:=(EA (h.rd k a)).2.1
theorem Evs.mono(h:Evs A0 ev an)(a:j<an)(c:k<an)(e:aP (ev j)=aP (ev k))(b:j<k):(ev j).seq<(ev k).seq:=by
 rw[h.seq a,h.seq c];have:=E5 (ev:=ev) b;rw[e]at this ⊢; omega
theorem Evs.uniq(h:Evs A0 ev an)(b:j<an)(c:k<an)(a:aP (ev j)=aP (ev k))(d:(ev j).seq=(ev k).seq):j=k:=by
 rcases Nat.lt_trichotomy j k with q|q|q
 ·have:=h.mono b c a q; omega
 ·exact q
 have:=h.mono c b a.symm q; omega
theorem Evs.ahead(h:Evs A0 ev an)(a:j<an)(b:k<an)(e:wF (ev k).deps (ev j)=true):j<k:=by
 have e:=ny.1 e;have d:=(EA (h.rd k b)).2.2 (aP (ev j)) (h.g j a).reg.2;rw[h.seq a]at e;by_cases c:j<k
 ·exact c
 have:=cnt_mono (ev:=ev) (i:=aP (ev j)) (show k<=j by omega); omega
theorem lQ(e:wF K (ev n)=true):fK ev K A0 (n+1)=(fK ev K A0 n).qM (ev n):=by show(if _ then _ else _)=_; rw[d_ e]
theorem mo(e:wF K (ev n)=false):fK ev K A0 (n+1)=fK ev K A0 n:=by show(if _ then _ else _)=_; rw[b_ (by rw[e]; decide)]
theorem Kl(h:Evs A0 ev an)(a:Nat)(ha:a<6)(f : ∀ i,i<6->K1 i<=K2 i) : ∀ m,m<=an->(∀ i,i<=m->(fK ev K1 A0 i).Ok)->(∀ i,i<=m->(fK ev K2 A0 i).Ok)->(∀ i,i<m->wF K1 (ev i)=true->(fK ev K1 A0 i).OI (ev i))->(∀ i,i<m->wF K2 (ev i)=true->(fK ev K2 A0 i).OI (ev i)) ->
 (∀ i,i<m->aP (ev i)=a->wF K2 (ev i)=true->wF K1 (ev i)=true)->(fK ev K1 A0 m).Le (fK ev K2 A0 m) a
 | 0,_,_,_,_,_,_=>Ab.Le.refl _ _
 | m+1,hm,o1,o2,v1,v2,ho=>by
   have d:=Kl h a ha f m (by omega) (fun i c=>o1 i (by omega)) (fun i c=>o2 i (by omega)) (fun i c=>v1 i (by omega)) (fun i c=>v2 i (by omega)) (fun i c=>ho i (by omega))
   cases c1:wF K1 (ev m)with
   | true =>
     have b:wF K2 (ev m)=true:=ny.2 (S_ (ny.1 c1) (f _ (h.g m (by omega)).reg.2));rw[lQ c1,lQ b];exact d.both (o1 m (by omega)) (o2 m (by omega)) (v1 m (by omega) c1).pre (v2 m (by omega) b).pre
   | false =>
     rw[mo c1]
     cases b:wF K2 (ev m)with
     | true =>
       rw[lQ b];exact d.step (o2 m (by omega)) (h.g m (by omega)) (v2 m (by omega) b).pre (fun e=>by have:=ho m (by omega) e b; rw[c1]at this; cases this) ha
     | false=>rw[mo b]; exact d
theorem tY(h:Evs A0 ev an) : ∀ n,n<=an -> ∀ K,PX ev an K->(∀ i,i<=n->(fK ev K A0 i).Ok) /\ ∀ i,i<n->wF K (ev i)=true->(fK ev K A0 i).OI (ev i)
 | 0,_,K,_=>⟨fun i a=>(show i=0 by omega) ▸ h.ok0,fun i a=>N_ a (z_ _)⟩
 | n+1,hn,K,hc=>by
   obtain⟨o,v⟩:=tY h n (by omega) K hc;have f:wF K (ev n)=true->(fK ev K A0 n).OI (ev n):=fun c=>by
    obtain⟨l,r⟩:=tY h n (by omega) (ev n).deps (h.dc n (by omega));have d:=h.g n (by omega);have p:=Kl h (aV (ev n)) d.reg.2 (hc.cl n (by omega) (ny.1 c)) n (by omega) l o r v (fun i a e t=>by
     have u:=h.mono (j:=i) (k:=n) (by omega) (by omega) e a;have b:=(EA (h.rd n (by omega))).1;refine ny.2 ?_;have m:(ev n).deps (aP (ev n))=(ev n).seq-1:=by
      unfold bR at b; simp only[T_,decide_eq_true_eq]at b; exact b.1.1.1.2
     rw[show aP (ev i)=aP (ev n)from e,m]; omega)
    exact p.okE (l n (A_ _)) (o n (A_ _)) d (h.tk n (by omega))
   have s : ∀ i,i<n+1->wF K (ev i)=true->(fK ev K A0 i).OI (ev i):=fun i a e=>by
    by_cases q:i=n
    ·subst q; exact f e
    ·exact v i (by omega) e
   refine⟨fun i a => ?_,s⟩;by_cases q:i=n+1
   ·subst q
    cases c:wF K (ev n)with
    | true=>rw[lQ c]; exact Ab.XK (o n (A_ _)) (f c).pre
    | false=>rw[mo c]; exact o n (A_ _)
   ·exact o i (by omega)
end
end Rt
end
section
namespace Rt
section
variable {A0:Ab} {ev:Nat->EvM} {an n m i j k:Nat} {K:Nat->Int}
theorem DK(h:Evs A0 ev an)(a:j<an) : ∀ m,j<=m->m<=an->fK ev (ev j).deps A0 m=fK ev (ev j).deps A0 j
 | 0,h1,_=>by obtain rfl:j=0:=(by omega); rfl
 | m+1,h1,h2=>by
   by_cases e:j=m+1
   ·rw[e]
   ·have c:wF (ev j).deps (ev m)=false:=by
     cases q:wF (ev j).deps (ev m)with
     | true=>have:=h.ahead (show m<an by omega) a q; omega
     | false=>rfl
    rw[mo c];exact DK h a m (by omega) (by omega)
theorem XO{v:EvM}(h:bR v=true):v.deps (aP v)=v.seq-1:=by
 unfold bR at h; simp only[T_,decide_eq_true_eq]at h; exact h.1.1.1.2
theorem Jc(h:Evs A0 ev an)(l:PX ev an K)(b:j<an)(hr:dG K (ev j)=true)(h1:j<=m)(a:m<=an):(fK ev K A0 m).OI (ev j):=by
 obtain⟨f,q⟩:=tY h m a (ev j).deps (h.dc j b);obtain⟨o,v⟩:=tY h m a K l;obtain⟨n,s,p⟩:=EA hr;have c:=h.g j b;have d:=Kl h (aV (ev j)) c.reg.2 p m a f o q v (fun i r e k=>by
  refine ny.2 ?_;have:=ny.1 k;rw[show aP (ev i)=aP (ev j)from e]at this ⊢;rw[XO n]; omega)
 rw[DK h b m h1 a]at d;exact d.okE (by rw[<- DK h b m h1 a]; exact f m (A_ _)) (o m (A_ _)) c (h.tk j b)
def Km(K:Nat->Int)(v:EvM):Nat->Int:=aI K (aP v) (K (aP v)+1)
theorem XP(h:Evs A0 ev an)(a:j<an)(hr:dG K (ev j)=true)(hi:i<an)(b:i≠j):wF (Km K (ev j)) (ev i)=wF K (ev i):=by
 have d:=(EA hr).2.1;have:wF (Km K (ev j)) (ev i)=true<->wF K (ev i)=true:=by
  rw[ny,ny];unfold Km aI;split
  ·rename_i e;rw[e];constructor
   ·intro q;by_cases c:(ev i).seq<=K (aP (ev j))
    ·exact c
    ·exact N_ (h.uniq hi a e (by omega)) b
   ·intro q; omega
  ·exact Iff.rfl
 cases c1:wF (Km K (ev j)) (ev i) <;> cases c2:wF K (ev i) <;> simp_all
theorem GD(h:Evs A0 ev an)(a:j<an)(hr:dG K (ev j)=true) : ∀ m,m<=j->fK ev (Km K (ev j)) A0 m=fK ev K A0 m
 | 0,_=>rfl
 | m+1,hm=>by
   have e:=XP h a hr (show m<an by omega) (show m≠j by omega)
   cases c:wF K (ev m)with
   | true=>rw[lQ (e.trans c),lQ c,GD h a hr m (by omega)]
   | false=>rw[mo (e.trans c),mo c,GD h a hr m (by omega)]
theorem Jd(h:Evs A0 ev an)(b:PX ev an K)(a:j<an)(hr:dG K (ev j)=true) : ∀ m,j<m->m<=an->fK ev (Km K (ev j)) A0 m=(fK ev K A0 m).qM (ev j)
 | 0,h1,_=>N_ h1 (z_ _)
 | m+1,h1,h2=>by
   have r:=(EA hr).2.1;by_cases e:m=j
   ·subst e;have l:wF (Km K (ev m)) (ev m)=true:=ny.2 (by unfold Km aI; rw[d_ rfl]; omega);have n:wF K (ev m)=false:=by
     cases q:wF K (ev m)with
     | true=>have:=ny.1 q; omega
     | false=>rfl
    rw[lQ l,mo n,GD h a hr m (A_ _)]
   ·have k:=Jd h b a hr m (by omega) (by omega);have f:=XP h a hr (show m<an by omega) e
    cases c:wF K (ev m)with
    | true =>
      obtain⟨o,v⟩:=tY h (m+1) h2 K b;rw[lQ (f.trans c),lQ c,k];have i:(ev j).o≠(ev m).o:=fun q=>by
       have d:aP (ev j)=aP (ev m):=(by unfold aP; rw[q]);have s:=h.mono a (show m<an by omega) d (by omega);have p:=ny.1 c;rw[<- d]at p; omega
      exact Ab.XM (o m (by omega)) (Jc h b a hr (by omega) (by omega)).pre (v m (by omega) c).pre i (fun _ _=>Nc.ne (h.g j a) (h.g m (by omega)) i)
    | false=>rw[mo (f.trans c),mo c,k]
theorem aaJ(h:Evs A0 ev an)(b:PX ev an K)(a:j<an)(hr:dG K (ev j)=true):fK ev (Km K (ev j)) A0 an=(fK ev K A0 an).qM (ev j):=Jd h b a hr an a (A_ _)
end
end Rt
end
section
namespace Rt
def bY(m:dP):Ab where
 inn:=m.inn
 left:=m.left
 own:=m.own
 has:=m.T.has
 par:=m.T.par
 R:=aW m
 gh:=iy m
 g:=fun o r j=>if iy m o r=true/\2<=j/\j<=4 then m.g (eZ m o r) j else 0
 ask:=gG m
section
variable {m:dP} {T:dO} {x y:Int} {v:EvM}
theorem Je{x p:Nat->Int} : ∀ {n:Nat} {k:Int},eB x n k=false->iN x p n k=0
 | 0,k,_=>rfl
 | n+1,k,h=>by
   have h:(eB x n k || decide (x n=k))=false:=h;rw[Bool.or_eq_false_iff]at h;show(if x n=k then p n else iN x p n k)=0;rw[b_ (j_ h.2)];exact Je h.1
def MJ(T:dO)(x:Int):Nat->Int
 | 0=>x
 | i+1=>T.par (MJ T x i)
theorem GH(T:dO)(x:Int) : ∀ i,MJ T x (i+1)=MJ T (T.par x) i
 | 0=>rfl
 | i+1=>by show T.par (MJ T x (i+1))=T.par (MJ T (T.par x) i); rw[GH T x i]
theorem Sj(h:T.has x=false):T.path x = []:=by
 have : ¬ T.has x=true:=by rw[h]; decide
 cases e:T.path x with
 | nil=>rfl
 | cons a l=>exact N_ (show jK T.x T.p T.n 4 x = []from kZ h) (by rw[show jK T.x T.p T.n 4 x=T.path x from rfl,e]; exact fun q=>by cases q)
theorem Fe(g:T.ok) : ∀ n x,(T.path x).length<=n->(∀ i,i<(T.path x).length->(T.path x).getD i 0=MJ T x i/\T.has (MJ T x i)=true)/\T.has (MJ T x (T.path x).length)=false
 | 0,x,hn=>by
   have e:T.path x = []:=List.length_eq_zero_iff.1 (by omega);rw[e];refine⟨fun i d=>N_ d (z_ _),?_⟩
   cases c:T.has (MJ T x [].length)with
   | false=>rfl
   | true=>rw[dO.step g (show T.has x=true from c)]at e; cases e
 | n+1,x,hn=>by
   cases c:T.has x with
   | false =>
     rw[Sj c];exact⟨fun i d=>N_ d (z_ _),c⟩
   | true =>
     have f:=dO.step g c;have k:(T.path x).length=(T.path (T.par x)).length+1:=(by rw[f]; rfl);obtain⟨h,j⟩:=Fe g n (T.par x) (by omega);refine⟨fun i d => ?_,by rw[k,GH]; exact j⟩
     cases i with
     | zero=>rw[f]; exact⟨rfl,c⟩
     | succ i =>
       rw[GH];obtain⟨a,b⟩:=h i (by omega);refine⟨?_,b⟩;rw[f];exact a
theorem GI(m:dP)(x:Int) : ∀ i,(bY m).up x i=MJ m.T x i
 | 0=>rfl
 | i+1=>by show m.T.par ((bY m).up x i)=m.T.par (MJ m.T x i); rw[GI m x i]
theorem MK(a:T.ok){k:Nat}(h:T.has (MJ T x k)=false) : ∀ i,k<=i->T.has (MJ T x i)=false
 | 0,hi=>by obtain rfl:k=0:=(by omega); exact h
 | i+1,hi=>by
   by_cases e:k=i+1
   ·rw[<- e]; exact h
   ·have:=MK a h i (by omega);have b:T.par (MJ T x i)=0:=Je this;show T.has (T.par (MJ T x i))=false;rw[b]; exact CB.YJ a
theorem xV(j:m.T.ok)(x y:Int):(bY m).on x y=true<->y∈m.T.path x:=by
 obtain⟨h,n⟩:=Fe j _ x (A_ _);have o:=dO.zT (T:=m.T) (k:=x);unfold Ab.on;rw[T_,List.any_eq_true,List.mem_iff_getElem];constructor
 ·rintro ⟨l,i,d,e⟩;have e:=h_ e;rw[GI]at e;have f:i<(m.T.path x).length:=by
   by_cases c:i<(m.T.path x).length
   ·exact c
   ·have:=MK j n i (by omega);rw[e]at this;rw[show(bY m).has y=m.T.has y from rfl,this]at l; cases l
  refine⟨i,f,?_⟩;have:=(h i f).1;rw[r_,o_ f]at this;exact this.trans e
 rintro ⟨i,d,e⟩;obtain⟨a,b⟩:=h i d;rw[r_,o_ d]at a;have g:MJ m.T x i=y:=a.symm.trans e;refine⟨by rw[<- g]; exact b,i,P_.2 (by omega),f_ (by rw[GI]; exact g)⟩
end
end Rt
end
section
namespace Rt
theorem zX{x:Nat->Int}{n:Int}{b:Bool}{a:Int}{off:Nat}(h:(dn x n b a off).2=0):may x=true/\1<=n/\n<=1125899906842624/\b=true/\a=0/\x off+n<=1125899906842624/\(dn x n b a off).1=upd x off (x off+n):=by
 rcases oH x n b a off with ⟨_,c,_⟩|⟨⟨hm,h1,c,hr,he,hx⟩,heq⟩
 ·exact N_ h c
 exact⟨hm,h1,c,hr,he,hx,by rw[heq]⟩
section
variable {m:dP} {x y:Int} {v:EvM}
theorem GJ(b:m.T.ok){k:Int}(d:m.T.has k=true)(r:Nat->Int)(y:Int):aW (Dr m k r) y=if y=k then r else aW m y:=by
 unfold aW;show(if m.T.has y=true then aO m.R (m.idx k) r (m.idx y)else Gs)=_;by_cases e:y=k
 ·subst e; rw[d_ d,d_ rfl]; unfold aO; rw[d_ rfl]
 rw[b_ e];by_cases c:m.T.has y=true
 ·rw[d_ c,d_ c];unfold aO;rw[b_]
  ·rfl
  intro q;have a:=(dP.Ef b c).2;rw[q,(dP.Ef b d).2]at a;exact e a.symm
 rw[b_ c,b_ c]
open Classical in
theorem Kn(a:m.T.ok)(f:(Nat->Int)->(Nat->Int) × Int)(x y:Int):aW (qj m f (m.T.path x)) y=if y∈m.T.path x then(f (aW m y)).1 else aW m y:=by
 unfold aW;show(if m.T.has y=true then(if m.T.x (m.idx y)∈m.T.path x then(f (m.R (m.idx y))).1 else m.R (m.idx y))else Gs)=_;by_cases c:m.T.has y=true
 ·rw[d_ c,d_ c,(dP.Ef a c).2]; rfl
 rw[b_ c,b_ c,b_ fun q=>c (dO.lN a rfl y q)]
theorem zY(b:m.T.ok){f:(Nat->Int)->(Nat->Int) × Int}(h:dI m f (m.T.path x)=0)(hy:y∈m.T.path x):(f (aW m y)).2=0:=by
 obtain⟨i,a,e⟩:=List.getElem_of_mem hy;have:=Gq h i a;rw[r_,o_ a]at this;rw[<- e];unfold aW;rw[d_ (dO.lN b rfl _ (R_ a))];exact this
theorem GL(h:bR v=true):v.o=(aV v:Int)+1/\aV v<6/\v.o.toNat-1=aV v:=by
 have:=nI h; unfold aV; omega
theorem Ko{x:Nat->Int}{off:Nat}{n:Int}(p:Nat):upd x off (x off+n) p=x p+if p=off then n else 0:=by
 unfold upd;by_cases e:p=off
 ·subst e; rw[d_ rfl,d_ rfl]
 rw[b_ e,b_ e,E_]
theorem agA(f:m.T.ok)(k:bR v=true)(j:v.kind=1)(a:jr m v=0)(y:Int)(p:Nat):aW (Eb m v) y p=aW m y p+(bY m).dl v y p:=by
 have d:m.T.has (nU v)=false:=by
  unfold jr at a;split at a
  ·cases a
  ·exact(FE a).2.1
 have h:rW v=nU v:=sG k;unfold Ab.dl;rw[d_ j,h];unfold aW;show(if(m.T.put (nU v) v.node).has y=true then aO m.R m.T.n (upd (fun _=>0) (aP v) v.aT) (Aq (aO m.T.x m.T.n (nU v)) (m.T.n+1) y)else Gs) p=_;rw[dO.jN];by_cases e:nU v=y
 ·subst e;rw[f_ rfl,Bool.or_true,d_ rfl,d,b_ (by decide),Ms _ _ _ (fun i g e=>by have:=dO.AP g; rw[e,d]at this; cases this)]
  unfold aO;rw[d_ rfl];show upd (fun _=>0) (aP v) v.aT p=0+_;unfold upd;rw[Int.zero_add];by_cases c:p=aP v
  ·rw[d_ c,d_ ⟨rfl,c⟩]
  rw[b_ c,b_ (fun q=>c q.2)]
 rw[g_ e,I_,b_ (show ¬ (y=nU v/\p=aV v)from fun q=>e q.1.symm),E_];by_cases c:m.T.has y=true
 ·rw[d_ c,d_ c,Mt _ _ e];have b:=(dP.Ef f c).1;have b:Aq m.T.x m.T.n y<m.T.n:=b;unfold aO;rw[b_ (by omega)];rfl
 rw[b_ c,b_ c]
theorem aaK(f:m.T.ok)(g:bR v=true)(d:v.kind=2)(a:jP m v=0)(y:Int)(p:Nat):aW (vo m v) y p=aW m y p+(bY m).dl v y p:=by
 have b:m.T.has v.node=true:=by
  unfold jP at a
  cases c:m.T.has v.node with
  | true=>rfl
  | false=>rw[d_ c]at a; cases a
 unfold Ab.dl;rw[b_ (by rw[d]; decide),d_ d];unfold vo;rw[GJ f b];by_cases e:y=v.node
 ·subst e;rw[d_ rfl,Ko];unfold aW;rw[d_ b];show m.R (m.idx v.node) p+(if p=aP v then v.aT else 0)=m.R (m.idx v.node) p+_;by_cases c:p=aP v
  ·rw[d_ c,d_ ⟨rfl,c⟩]
  rw[b_ c,b_ (fun q=>c q.2)]
 rw[b_ e,b_ (fun q=>e q.1),E_]
theorem agB(j:m.T.ok)(z:bR v=true)(f:v.kind=5)(d:kQ m v=0)(y:Int)(p:Nat):aW (D8 m v) y p=aW m y p+(bY m).dl v y p:=by
 have g:m.T.has v.node=true/\(tT m v).2=0:=by
  unfold kQ at d
  cases c:m.T.has v.node with
  | true =>
    rw[b_ (by rw[c]; decide)]at d;split at d
    ·cases d
    ·exact⟨rfl,d⟩
  | false=>rw[d_ c]at d; cases d
 obtain⟨a,b,s,t,w,x,u,l,n,o,r,k⟩:=Cg g.2;have h:aV v=a:=by unfold aV; omega
 have i:dV v=b:=by unfold dV; omega
 unfold Ab.dl;rw[b_ (by rw[f]; decide),b_ (by rw[f]; decide),b_ (by rw[f]; decide),b_ (by rw[f]; decide),d_ f,h,i];unfold D8;rw[GJ j g.1];by_cases e:y=v.node
 ·subst e;rw[d_ rfl];unfold tT;rw[k,Ko];unfold aW;rw[d_ g.1];show m.R (m.idx v.node) p+(if p=18+a*6+b then v.aT else 0)=m.R (m.idx v.node) p+_;by_cases c:p=18+a*6+b
  ·rw[d_ c,d_ ⟨rfl,by omega⟩]
  rw[b_ c,b_ (fun q=>c (by omega))]
 rw[b_ e,b_ (fun q=>e q.1),E_]
theorem XQ(a:m.T.ok){f:(Nat->Int)->(Nat->Int) × Int}{x:Int}{n:Int}{off:Nat}(b : ∀ y,y∈m.T.path x->(f (aW m y)).1=upd (aW m y) off (aW m y off+n))(y:Int)(p:Nat):aW (qj m f (m.T.path x)) y p=aW m y p+if(bY m).on x y=true/\p=off then n else 0:=by
 rw[Kn a];by_cases c:y∈m.T.path x
 ·rw[d_ c,b y c,Ko];by_cases e:p=off
  ·rw[d_ e,d_ ⟨(xV a x y).2 c,e⟩]
  rw[b_ e,b_ (fun q=>e q.2)]
 rw[b_ c,b_ (fun q=>c ((xV a x y).1 q.1)),E_]
theorem agC(d:m.T.ok)(g:bR v=true)(b:v.kind=3)(a:ko m v=0)(y:Int)(p:Nat):aW (kR m v) y p=aW m y p+(bY m).dl v y p:=by
 have e:dI m (fun x=>bF x v.o v.aT) (m.T.path v.node)=0:=by
  unfold ko at a;split at a
  ·cases a
  split at a
  ·cases a
  exact a
 unfold Ab.dl;rw[b_ (by rw[b]; decide),b_ (by rw[b]; decide),d_ b];refine XQ d (f:=fun x=>bF x v.o v.aT) (x:=v.node) (fun y h => ?_) y p;have c:(bF (aW m y) v.o v.aT).2=0:=zY d e h;unfold bF at c;show(bF (aW m y) v.o v.aT).1=_;unfold bF;rw[(zX c).2.2.2.2.2.2,(GL g).2.2]
theorem agD(i:m.T.ok)(l:bR v=true)(b:v.kind=4)(a:jv m v=0)(y:Int)(p:Nat):aW (iQ m v) y p=aW m y p+(bY m).dl v y p:=by
 have d:iy m v.o v.of=true/\dI m (fun x=>bH x v.o (m.g (eZ m v.o v.of) 3)) (m.T.path (m.g (eZ m v.o v.of) 2))=0:=by
  unfold jv at a;split at a
  ·cases a
  split at a
  ·cases a
  rename_i c;refine⟨?_,a⟩
  cases e:iy m v.o v.of with
  | true=>rfl
  | false=>exact N_ (.inl e) c
 have j:(bY m).g v.o v.of 2=m.g (eZ m v.o v.of) 2:=d_ ⟨d.1,by decide,by decide⟩;have k:(bY m).g v.o v.of 3=m.g (eZ m v.o v.of) 3:=d_ ⟨d.1,by decide,by decide⟩;unfold Ab.dl;rw[b_ (by rw[b]; decide),b_ (by rw[b]; decide),b_ (by rw[b]; decide),d_ b,j,k];refine XQ i (f:=fun x=>bH x v.o (m.g (eZ m v.o v.of) 3)) (x:=m.g (eZ m v.o v.of) 2) (fun y n => ?_) y p;have h:(bH (aW m y) v.o (m.g (eZ m v.o v.of) 3)).2=0:=zY i d.2 n;unfold bH at h;show(bH (aW m y) v.o (m.g (eZ m v.o v.of) 3)).1=_;unfold bH;rw[(zX h).2.2.2.2.2.2,(GL l).2.2]
theorem ML{m':dP}(a:m'.an=m.an+1)(b:m'.ao=aO m.ao m.an v.o)(c:m'.ar=aO m.ar m.an v.req)(o r:Int):gG m' o r=(gG m o r || (decide (o=v.o)&&decide (r=v.req))):=by
 have:gG m' o r=true<->(gG m o r=true\/(v.o=o/\v.req=r)):=by unfold gG; rw[a,b,c]; exact Gu
 rw[Bool.eq_iff_iff,this,Bool.or_eq_true,T_,Q_,Q_];exact⟨fun h=>h.imp id fun q=>⟨q.1.symm,q.2.symm⟩,fun h=>h.imp id fun q=>⟨q.1.symm,q.2.symm⟩⟩
theorem XR{k1 k2:Nat->Int}{n:Nat}{a b o r:Int}(h : ¬ (a=o/\b=r)):xS (aO k1 n a) (aO k2 n b) (n+1) o r=xS k1 k2 n o r:=by
 have d : ∀ k,k<=n->xS (aO k1 n a) (aO k2 n b) k o r=xS k1 k2 k o r:=fun k=>by
  induction k with
  | zero=>intro _; rfl
  | succ k ih =>
    intro e;show(if aO k1 n a k=o/\aO k2 n b k=r then k else _)=(if k1 k=o/\k2 k=r then k else _);rw[ih (by omega)];have c : ¬ k=n:=(by omega);rw[show aO k1 n a k=k1 k from b_ c,show aO k2 n b k=k2 k from b_ c]
 show(if aO k1 n a n=o/\aO k2 n b n=r then n else xS (aO k1 n a) (aO k2 n b) n o r)=_;rw[d n (A_ _)];rw[show aO k1 n a n=a from d_ rfl,show aO k2 n b n=b from d_ rfl,b_ h]
theorem XT{k1 k2:Nat->Int}{n:Nat}{a b:Int}:xS (aO k1 n a) (aO k2 n b) (n+1) a b=n:=by
 show(if aO k1 n a n=a/\aO k2 n b n=b then n else _)=_;unfold aO;rw[d_ ⟨d_ rfl,d_ rfl⟩]
theorem zZ(g:Nat->Nat->Int)(n:Nat)(r:Nat->Int)(j:Nat):(fun i=>aO g n r i j)=aO (fun i=>g i j) n (r j):=by
 funext i; unfold aO; split <;> rfl
end
end Rt
end
section
namespace Rt
section
variable {m:dP} {x y:Int} {v:EvM}
theorem jF{b c:Bool}(h:c=false):b=(b || c):=by rw[h,I_]
theorem KA{k:Int}(h:v.kind≠k){c:Bool}:(decide (v.kind=k)&&c)=false:=by rw[g_ h]; rfl
theorem XU(i:m.T.ok)(e:bR v=true)(a:v.kind=1)(h:jr m v=0):bY (Eb m v)=(bY m).qM v:=by
 have d:rW v=nU v:=sG e;have b:v.kind≠3:=by rw[a]; decide
 have f:v.kind≠4:=by rw[a]; decide
 have k:v.kind≠6:=by rw[a]; decide
 have l:v.kind≠7:=by rw[a]; decide
 apply Ab.Si
 ·funext j; exact jF (KA k)
 ·funext j; exact jF (KA l)
 ·funext j
  show aI m.own (aP v) (m.own (aP v)+1) j=m.own j+if v.kind=1/\j=aV v then 1 else 0;unfold aI;by_cases c:j=aP v
  ·rw[d_ c,d_ ⟨a,c⟩,c]
  rw[b_ c,b_ (fun q=>c q.2),E_]
 ·funext y
  show(m.T.put (nU v) v.node).has y=(m.T.has y || (decide (v.kind=1)&&decide (y=rW v)));rw[dO.jN,d,f_ a,Bool.true_and]
  congr 1
  exact decide_eq_decide.2 ⟨Eq.symm,Eq.symm⟩
 ·funext y
  show(m.T.put (nU v) v.node).par y=if v.kind=1/\y=rW v then v.node else m.T.par y;rw[dO.uI,d];by_cases c:nU v=y
  ·rw[d_ c,d_ ⟨a,c.symm⟩]
  rw[b_ c,b_ (fun q=>c q.2.symm)]
 ·funext y p; exact agA i e a h y p
 ·funext o r; exact jF (KA b)
 ·funext o r j
  show(bY m).g o r j=if v.kind=3/\_ then _ else if v.kind=4/\_ then _ else _;rw[b_ (fun q=>b q.1),b_ (fun q=>f q.1)]
 funext o r
 show gG m o r=(gG m o r || ((decide (v.kind=3) || decide (v.kind=4))&&_));rw[g_ b,g_ f];exact jF rfl
theorem MN{m':dP}(e:m'.inn=m.inn)(f:m'.left=m.left)(h:m'.own=m.own)(c:m'.T=m.T)(i : ∀ o r,iy m' o r=iy m o r)(k:(bY m').g=(bY m).g)(l : ∀ o r,gG m' o r=gG m o r)(a:v.kind≠1)(b:v.kind≠3)(d:v.kind≠4)(s:v.kind≠6)(t:v.kind≠7)
 (n : ∀ y p,aW m' y p=aW m y p+(bY m).dl v y p):bY m'=(bY m).qM v:=by
 apply Ab.Si
 ·funext j; rw[show(bY m').inn j=m.inn j from congrFun e j]; exact jF (KA s)
 ·funext j; rw[show(bY m').left j=m.left j from congrFun f j]; exact jF (KA t)
 ·funext j
  rw[show(bY m').own j=m.own j from congrFun h j];show m.own j=m.own j+if v.kind=1/\j=aV v then 1 else 0;rw[b_ (fun q=>a q.1),E_]
 ·funext y; rw[show(bY m').has y=m.T.has y from by rw[<- c]; rfl]; exact jF (KA a)
 ·funext y
  rw[show(bY m').par y=m.T.par y from by rw[<- c]; rfl];show _=if v.kind=1/\y=rW v then v.node else m.T.par y;rw[b_ (fun q=>a q.1)]
 ·funext y p; exact n y p
 ·funext o r; rw[show(bY m').gh o r=iy m o r from i o r]; exact jF (KA b)
 ·funext o r j
  rw[k];show(bY m).g o r j=if v.kind=3/\_ then _ else if v.kind=4/\_ then _ else _;rw[b_ (fun q=>b q.1),b_ (fun q=>d q.1)]
 funext o r
 rw[show(bY m').ask o r=gG m o r from l o r];show gG m o r=(gG m o r || ((decide (v.kind=3) || decide (v.kind=4))&&_));rw[g_ b,g_ d];exact jF rfl
theorem Sk(c:m.T.ok)(d:bR v=true)(a:v.kind=2)(b:jP m v=0):bY (vo m v)=(bY m).qM v :=
 MN rfl rfl rfl rfl (fun _ _=>rfl) rfl (fun _ _=>rfl) (by rw[a]; decide) (by rw[a]; decide) (by rw[a]; decide) (by rw[a]; decide) (by rw[a]; decide) (aaK c d a b)
theorem XV(c:m.T.ok)(d:bR v=true)(a:v.kind=5)(b:kQ m v=0):bY (D8 m v)=(bY m).qM v :=
 MN rfl rfl rfl rfl (fun _ _=>rfl) rfl (fun _ _=>rfl) (by rw[a]; decide) (by rw[a]; decide) (by rw[a]; decide) (by rw[a]; decide) (by rw[a]; decide) (agB c d a b)
theorem Kq{k1 k2:Nat->Int}{a b:Int} : ∀ {n:Nat},Cr k1 k2 n a b=true->xS k1 k2 n a b<n
 | 0,h=>by cases h
 | n+1,h=>by
   unfold xS;by_cases c:k1 n=a/\k2 n=b
   ·rw[d_ c]; omega
   ·rw[b_ c];obtain⟨j,g,d,f⟩:=kI.1 h;by_cases e:j=n
    ·subst e; exact N_ ⟨d,f⟩ c
    ·have:=Kq (tX (show j<n by omega) d f); omega
theorem aaL(h1:v.kind≠1)(a:v.kind≠2)(b:v.kind≠3)(c:v.kind≠4)(d:v.kind≠5)(A:Ab)(y:Int)(p:Nat):A.dl v y p=0:=by
 unfold Ab.dl;rw[b_ h1,b_ a,b_ b,b_ c,b_ d]
theorem Jf{A B:Ab}(h1:v.kind≠1)(n:v.kind≠2)(a:v.kind≠3)(b:v.kind≠4)(s:v.kind≠5)(c : ∀ j,B.inn j=(A.inn j || (decide (v.kind=6)&&decide (j=dV v))))(d : ∀ j,B.left j=(A.left j || (decide (v.kind=7)&&decide (j=aV v))))(e:B.own=A.own)(f:B.has=A.has)(h:B.par=A.par)(i:B.R=A.R)(k:B.gh=A.gh)(l:B.g=A.g)(m:B.ask=A.ask):B=A.qM v:=by
 apply Ab.Si
 ·funext j; exact c j
 ·funext j; exact d j
 ·funext j; rw[e]; show A.own j=A.own j+if v.kind=1/\j=aV v then 1 else 0; rw[b_ (fun q=>h1 q.1),E_]
 ·funext y; rw[f]; exact jF (KA h1)
 ·funext y; rw[h]; show _=if v.kind=1/\y=rW v then v.node else A.par y; rw[b_ (fun q=>h1 q.1)]
 ·funext y p; rw[i]; show _=A.R y p+A.dl v y p; rw[aaL h1 n a b s,E_]
 ·funext o r; rw[k]; exact jF (KA a)
 ·funext o r j
  rw[l];show A.g o r j=if v.kind=3/\_ then _ else if v.kind=4/\_ then _ else _;rw[b_ (fun q=>a q.1),b_ (fun q=>b q.1)]
 funext o r
 rw[m];show A.ask o r=(A.ask o r || ((decide (v.kind=3) || decide (v.kind=4))&&_));rw[g_ a,g_ b];exact jF rfl
theorem MO{f:Nat->Bool}{k j:Nat}{c:Bool}(a:c=true):aI f k true j=(f j || (c&&decide (j=k))):=by
 rw[a,Bool.true_and];unfold aI;by_cases e:j=k
 ·rw[d_ e,f_ e,Bool.or_true]
 rw[b_ e,g_ e,I_]
theorem XW(a:v.kind=6):bY (IU m v)=(bY m).qM v :=
 Jf (by rw[a]; decide) (by rw[a]; decide) (by rw[a]; decide) (by rw[a]; decide) (by rw[a]; decide) (fun j=>MO (f_ a)) (fun j=>jF (KA (by rw[a]; decide))) rfl rfl rfl rfl rfl rfl rfl
theorem Sl(a:v.kind=7):bY (Dt m v)=(bY m).qM v :=
 Jf (by rw[a]; decide) (by rw[a]; decide) (by rw[a]; decide) (by rw[a]; decide) (by rw[a]; decide) (fun j=>jF (KA (by rw[a]; decide))) (fun j=>MO (k:=aP v) (f_ a)) rfl rfl rfl rfl rfl rfl rfl
theorem XY(z:m.T.ok)(A:R4 m)(u:bR v=true)(b:v.kind=3)(k:ko m v=0):bY (kR m v)=(bY m).qM v:=by
 have G:rW v=nU v:=sG u;have n:v.kind≠1:=by rw[b]; decide
 have C:v.kind≠4:=by rw[b]; decide
 have D:v.kind≠6:=by rw[b]; decide
 have E:v.kind≠7:=by rw[b]; decide
 have B:gG m v.o v.req=false:=by
  unfold ko at k
  cases c:gG m v.o v.req with
  | false=>rfl
  | true=>rw[d_ c]at k; cases k
 have F:iy m v.o v.req=false:=qy fun i t e=>by
  have:=A i t;rw[e.1,e.2,B]at this; cases this
 have s : ∀ o r,iy (kR m v) o r=(iy m o r || (decide (o=v.o)&&decide (r=v.req))):=fun o r=>by
  have d:=zZ m.g m.gn (oI v) 0;have f:=zZ m.g m.gn (oI v) 1;have:iy (kR m v) o r=true<->(iy m o r=true\/(v.o=o/\v.req=r)):=by
   show Cr (fun i=>aO m.g m.gn (oI v) i 0) (fun i=>aO m.g m.gn (oI v) i 1) (m.gn+1) o r=true<->_;rw[d,f]; exact Gu
  rw[Bool.eq_iff_iff,this,Bool.or_eq_true,T_,Q_,Q_];exact⟨fun h=>h.imp id fun q=>⟨q.1.symm,q.2.symm⟩,fun h=>h.imp id fun q=>⟨q.1.symm,q.2.symm⟩⟩
 have x : ∀ o r,eZ (kR m v) o r=xS (aO (fun i=>m.g i 0) m.gn v.o) (aO (fun i=>m.g i 1) m.gn v.req) (m.gn+1) o r:=fun o r=>by
  have d:=zZ m.g m.gn (oI v) 0;have f:=zZ m.g m.gn (oI v) 1;show xS (fun i=>aO m.g m.gn (oI v) i 0) (fun i=>aO m.g m.gn (oI v) i 1) (m.gn+1) o r=_;rw[d,f]; rfl
 apply Ab.Si
 ·funext j; exact jF (KA D)
 ·funext j; exact jF (KA E)
 ·funext j
  show m.own j=m.own j+if v.kind=1/\j=aV v then 1 else 0;rw[b_ (fun q=>n q.1),E_]
 ·funext y; exact jF (KA n)
 ·funext y
  show m.T.par y=if v.kind=1/\y=rW v then v.node else m.T.par y;rw[b_ (fun q=>n q.1)]
 ·funext y p; exact agC z u b k y p
 ·funext o r
  show iy (kR m v) o r=(iy m o r || (decide (v.kind=3)&&(decide (o=v.o)&&decide (r=v.req))));rw[s,f_ b,Bool.true_and]
 ·funext o r j
  show(if iy (kR m v) o r=true/\2<=j/\j<=4 then(kR m v).g (eZ (kR m v) o r) j else 0)=if v.kind=3/\o=v.o/\r=v.req then(if j=2 then v.node else if j=3 then v.aT else 0)else if v.kind=4/\_ then _ else(if iy m o r=true/\2<=j/\j<=4 then m.g (eZ m o r) j else 0);rw[s,x];by_cases c:o=v.o/\r=v.req
  ·rw[d_ (show v.kind=3/\o=v.o/\r=v.req from⟨b,c⟩),c.1,c.2,XT,f_ (rfl:v.o=v.o),f_ (rfl:v.req=v.req),Bool.and_self,Bool.or_true];show(if true=true/\2<=j/\j<=4 then aO m.g m.gn (oI v) m.gn j else 0)=_;rw[show aO m.g m.gn (oI v) m.gn=oI v from d_ rfl];by_cases a:j=2
   ·rw[d_ a,a,d_ ⟨rfl,by decide,by decide⟩]; rfl
   rw[b_ a];by_cases l:j=3
   ·rw[d_ l,l,d_ ⟨rfl,by decide,by decide⟩]; rfl
   rw[b_ l];by_cases w:j=4
   ·rw[w,d_ ⟨rfl,by decide,by decide⟩]; rfl
   rw[b_ (by omega)]
  rw[b_ (show ¬ (v.kind=3/\o=v.o/\r=v.req)from fun q=>c q.2),b_ (show ¬ (v.kind=4/\o=v.o/\r=v.of/\j=4)from fun q=>C q.1),XR (fun q=>c ⟨q.1.symm,q.2.symm⟩)];have:(decide (o=v.o)&&decide (r=v.req))=false:=by
   cases e:(decide (o=v.o)&&decide (r=v.req))with
   | false=>rfl
   | true=>rw[T_,Q_,Q_]at e; exact N_ e c
  rw[this,I_];by_cases a:iy m o r=true/\2<=j/\j<=4
  ·rw[d_ a,d_ a];obtain⟨i,t,d,f⟩:=kI.1 a.1;have:xS (fun i=>m.g i 0) (fun i=>m.g i 1) m.gn o r<m.gn:=Kq a.1;show aO m.g m.gn (oI v) _ j=_;unfold aO;rw[b_ (by omega)];rfl
  rw[b_ a,b_ a]
 funext o r
 show gG (kR m v) o r=(gG m o r || ((decide (v.kind=3) || decide (v.kind=4))&&(decide (o=v.o)&&decide (r=v.req))));rw[f_ b,Bool.true_or,Bool.true_and];exact ML rfl rfl rfl o r
theorem GN{k1 k2:Nat->Int}{a b:Int} : ∀ {n:Nat},Cr k1 k2 n a b=true->k1 (xS k1 k2 n a b)=a/\k2 (xS k1 k2 n a b)=b
 | 0,h=>by cases h
 | n+1,h=>by
   unfold xS;by_cases c:k1 n=a/\k2 n=b
   ·rw[d_ c]; exact c
   ·rw[b_ c];obtain⟨j,g,d,f⟩:=kI.1 h;by_cases e:j=n
    ·subst e; exact N_ ⟨d,f⟩ c
    ·exact GN (tX (show j<n by omega) d f)
theorem XZ(G:m.T.ok)(J:bR v=true)(a:v.kind=4)(b:jv m v=0):bY (iQ m v)=(bY m).qM v:=by
 have k:v.kind≠1:=by rw[a]; decide
 have x:v.kind≠3:=by rw[a]; decide
 have K:v.kind≠6:=by rw[a]; decide
 have L:v.kind≠7:=by rw[a]; decide
 have f:iy m v.o v.of=true:=by
  unfold jv at b;split at b
  ·cases b
  split at b
  ·cases b
  rename_i c
  cases e:iy m v.o v.of with
  | true=>rfl
  | false=>exact N_ (.inl e) c
 have M:eZ m v.o v.of<m.gn:=Kq f;have h : ∀ i j,j≠4->aO m.g (eZ m v.o v.of) (upd (m.g (eZ m v.o v.of)) 4 v.req) i j=m.g i j:=fun i j H=>by
  unfold aO;by_cases c:i=eZ m v.o v.of
  ·rw[d_ c,c]; unfold upd; rw[b_ H]
  ·rw[b_ c]
 have n:(fun i=>(iQ m v).g i 0)=fun i=>m.g i 0:=by funext i; exact h i 0 (by decide)
 have s:(fun i=>(iQ m v).g i 1)=fun i=>m.g i 1:=by funext i; exact h i 1 (by decide)
 have w : ∀ o r,iy (iQ m v) o r=iy m o r:=fun o r=>by
  show Cr (fun i=>(iQ m v).g i 0) (fun i=>(iQ m v).g i 1) m.gn o r=_;rw[n,s]; rfl
 have F : ∀ o r,eZ (iQ m v) o r=eZ m o r:=fun o r=>by
  show xS (fun i=>(iQ m v).g i 0) (fun i=>(iQ m v).g i 1) m.gn o r=_;rw[n,s]; rfl
 apply Ab.Si
 ·funext j; exact jF (KA K)
 ·funext j; exact jF (KA L)
 ·funext j
  show m.own j=m.own j+if v.kind=1/\j=aV v then 1 else 0;rw[b_ (fun q=>k q.1),E_]
 ·funext y; exact jF (KA k)
 ·funext y
  show m.T.par y=if v.kind=1/\y=rW v then v.node else m.T.par y;rw[b_ (fun q=>k q.1)]
 ·funext y p; exact agD G J a b y p
 ·funext o r
  show iy (iQ m v) o r=(iy m o r || (decide (v.kind=3)&&_));rw[w]; exact jF (KA x)
 ·funext o r j
  show(if iy (iQ m v) o r=true/\2<=j/\j<=4 then(iQ m v).g (eZ (iQ m v) o r) j else 0)=if v.kind=3/\o=v.o/\r=v.req then _ else if v.kind=4/\o=v.o/\r=v.of/\j=4 then v.req else(if iy m o r=true/\2<=j/\j<=4 then m.g (eZ m o r) j else 0);rw[w,F,b_ (show ¬ (v.kind=3/\o=v.o/\r=v.req)from fun q=>x q.1)];show(if iy m o r=true/\2<=j/\j<=4 then aO m.g (eZ m v.o v.of) (upd (m.g (eZ m v.o v.of)) 4 v.req) (eZ m o r) j else 0)=_;by_cases c:v.kind=4/\o=v.o/\r=v.of/\j=4
  ·rw[d_ c,c.2.1,c.2.2.1,c.2.2.2,d_ ⟨f,by decide,by decide⟩];unfold aO upd; rw[d_ rfl,d_ rfl]
  rw[b_ c];by_cases d:iy m o r=true/\2<=j/\j<=4
  ·rw[d_ d,d_ d];by_cases l:j=4
   ·have I:eZ m o r≠eZ m v.o v.of:=fun e=>c ⟨a,by
     obtain⟨z,A⟩:=GN d.1;obtain⟨B,C⟩:=GN f;have t:m.g (eZ m o r) 0=o:=z;have D:m.g (eZ m v.o v.of) 0=v.o:=B;have u:m.g (eZ m o r) 1=r:=A;have E:m.g (eZ m v.o v.of) 1=v.of:=C;rw[e]at t u;exact⟨t.symm.trans D,u.symm.trans E,l⟩⟩
    unfold aO; rw[b_ I]
   exact h _ j l
  rw[b_ d,b_ d]
 funext o r
 show gG (iQ m v) o r=(gG m o r || ((decide (v.kind=3) || decide (v.kind=4))&&(decide (o=v.o)&&decide (r=v.req))));rw[f_ a,Bool.or_true,Bool.true_and];exact ML rfl rfl rfl o r
theorem X0(c:m.T.ok)(j:R4 m)(b:bR v=true)(a:fG m v=0):bY (iZ m v)=(bY m).qM v:=by
 have k:=jB b;unfold fG at a;unfold iZ;by_cases d:v.kind=1
 ·rw[d_ d]at a ⊢; exact XU c b d a
 rw[b_ d]at a ⊢;by_cases e:v.kind=2
 ·rw[d_ e]at a ⊢; exact Sk c b e a
 rw[b_ e]at a ⊢;by_cases f:v.kind=3
 ·rw[d_ f]at a ⊢; exact XY c j b f a
 rw[b_ f]at a ⊢;by_cases g:v.kind=4
 ·rw[d_ g]at a ⊢; exact XZ c b g a
 rw[b_ g]at a ⊢;by_cases h:v.kind=5
 ·rw[d_ h]at a ⊢; exact XV c b h a
 rw[b_ h]at a ⊢;by_cases i:v.kind=6
 ·rw[d_ i]; exact XW i
 rw[b_ i]; exact Sl (by omega)
theorem Jg(c:m.T.ok)(d:R4 m)(a:bZ m v=0):bY (gX m v)=(bY m).qM v:=by
 have b:=X0 c d (qI a) (qJ a).2.1;unfold gX;rw[d_ a];exact b
end
end Rt
end
section
namespace Rt
structure Ab.Sm(A:Ab)(N:Nat):Prop where
 r : ∀ y p,A.R y p<=65536*N
 g : ∀ o r,A.gh o r=true->1<=A.g o r 3/\A.g o r 3<=65536
structure SX(m:dP):Prop where
 n:(m.T.n:Int)=m.own 0+m.own 1+m.own 2+m.own 3+m.own 4+m.own 5
 o : ∀ a,a<6->m.own a<=5
section
variable {A:Ab} {m:dP} {L:eF} {N S:Nat} {x y:Int} {v:EvM}
theorem Ab.Sm.dl(m:A.Sm S)(l:A.Pre v)(k:v.aT<=65536)(y:Int)(p:Nat):A.dl v y p<=65536:=by
 have b:=k;have a : ∀ {c:Prop} [Decidable c] {n:Int},n<=65536->(if c then n else 0)<=65536:=fun {c} _ {n} h=>by split <;> omega
 unfold Ab.dl;by_cases e:v.kind=1
 ·rw[d_ e]; exact a b
 rw[b_ e];by_cases f:v.kind=2
 ·rw[d_ f]; exact a b
 rw[b_ f];by_cases i:v.kind=3
 ·rw[d_ i]; exact a b
 rw[b_ i];by_cases d:v.kind=4
 ·rw[d_ d]; exact a (m.g _ _ (l.n4 d)).2
 rw[b_ d];by_cases j:v.kind=5
 ·rw[d_ j]; exact a b
 rw[b_ j]; decide
theorem Ab.Sm.qM(b:A.Sm S)(f:A.Pre v)(h:bR v=true)(d:v.aT<=65536):(A.qM v).Sm (S+1) where
 r:=fun y p=>by
  have i:=b.r y p;have j:=b.dl f d y p;show A.R y p+A.dl v y p<=_;omega
 g:=fun o r a=>by
  have a:(A.gh o r || (decide (v.kind=3)&&(decide (o=v.o)&&decide (r=v.req))))=true:=a;by_cases c:v.kind=3/\o=v.o/\r=v.req
  ·have:(A.qM v).g o r 3=v.aT:=(by show(if v.kind=3/\o=v.o/\r=v.req then _ else _)=v.aT; rw[d_ c]; rfl);rw[this]; exact⟨(lJ h (.inr (.inl c.1))).1,d⟩
  ·have e:A.gh o r=true:=by
    rcases D_.1 a with q|q
    ·exact q
    ·rw[T_,T_]at q; exact N_ ⟨h_ q.1,h_ q.2.1,h_ q.2.2⟩ c
   rw[Ab.MI f e 3 (by decide)];exact b.g o r e
theorem SX.row{m':dP}(h:SX m)(a:m'.T=m.T)(b:m'.own=m.own):SX m':=by
 cases m'; cases m; cases a; cases b; exact⟨h.n,h.o⟩
theorem SX.does(h:SX m)(l:bR v=true)(b:fG m v=0):SX (iZ m v):=by
 unfold fG at b;unfold iZ;by_cases c:v.kind=1
 ·rw[d_ c]at b ⊢;have q:m.own (aP v)<5:=by
   unfold jr at b;split at b
   ·cases b
   ·omega
  have r:=mh l;have p:=h.n;refine⟨?_,fun a k => ?_⟩
  ·show((m.T.n+1:Nat):Int)=aI m.own (aP v) (m.own (aP v)+1) 0+aI m.own (aP v) (m.own (aP v)+1) 1+aI m.own (aP v) (m.own (aP v)+1) 2+aI m.own (aP v) (m.own (aP v)+1) 3+aI m.own (aP v) (m.own (aP v)+1) 4+aI m.own (aP v) (m.own (aP v)+1) 5;unfold aI
   rcases(show aP v=0\/aP v=1\/aP v=2\/aP v=3\/aP v=4\/aP v=5 by omega)with e|e|e|e|e|e <;> rw[e] <;> simp <;> omega
  show aI m.own (aP v) (m.own (aP v)+1) a<=5;have:=h.o a k;unfold aI; split <;> omega
 rw[b_ c];by_cases d:v.kind=2
 ·rw[d_ d]; exact h.row rfl rfl
 rw[b_ d];by_cases f:v.kind=3
 ·rw[d_ f]; exact h.row rfl rfl
 rw[b_ f];by_cases g:v.kind=4
 ·rw[d_ g]; exact h.row rfl rfl
 rw[b_ g];by_cases i:v.kind=5
 ·rw[d_ i]; exact h.row rfl rfl
 rw[b_ i];by_cases j:v.kind=6
 ·rw[d_ j]; exact h.row rfl rfl
 rw[b_ j]; exact h.row rfl rfl
theorem SX.apply(h:SX m):SX (gX m v):=by
 unfold gX;by_cases c:bZ m v=0
 ·rw[d_ c]; exact(h.does (qI c) (qJ c).2.1).row rfl rfl
 rw[b_ c]; exact h
theorem acv(x:Nat->Int)(a:Nat):Rt.L x a=Ar x a:=by
 have e : ∀ i,R x a i=x (18+(6*a+i)):=fun i=>by unfold R; congr 1; omega
 have b:R x 0 a=x (18+(6*0+a)):=by unfold R; congr 1; omega
 have c:R x 1 a=x (18+(6*1+a)):=by unfold R; congr 1; omega
 have d:R x 2 a=x (18+(6*2+a)):=by unfold R; congr 1; omega
 have f:R x 3 a=x (18+(6*3+a)):=by unfold R; congr 1; omega
 have g:R x 4 a=x (18+(6*4+a)):=by unfold R; congr 1; omega
 have h:R x 5 a=x (18+(6*5+a)):=by unfold R; congr 1; omega
 unfold Rt.L Ar;rw[e,e,e,e,e,e,b,c,d,f,g,h];unfold G C F;omega
theorem wG{x:Nat->Int}(h:may x=true)(b:bR v=true):fU x v.o=Ar x (aV v):=by
 obtain⟨e,a,_⟩:=GL b;rw[e,oC h _ a,acv]
theorem zw{x:Nat->Int}{n:Int}{b:Bool}{a:Int}{off:Nat}(h1:may x=true)(c:1<=n)(d:n<=1125899906842624)(e:b=true)(f:a=0)(g:x off+n<=1125899906842624):(dn x n b a off).2=0:=by
 rcases oH x n b a off with ⟨_,_,h⟩|⟨_,h⟩
 ·exact N_ ⟨h1,c,d,e,f,g⟩ h
 rw[h]
theorem Ej{f:(Nat->Int)->(Nat->Int) × Int}{r:Nat->Nat->Int} : ∀ {n:Nat},(∀ i,i<n->(f (r i)).2=0)->jU f r n=0
 | 0,_=>rfl
 | n+1,h=>Dz (Ej fun i a=>h i (by omega)) (h n (by omega))
theorem GQ(c:m.T.ok){f:(Nat->Int)->(Nat->Int) × Int}{x:Int}(h : ∀ y,y∈m.T.path x->(f (aW m y)).2=0):dI m f (m.T.path x)=0 :=
 Ej fun i a=>by
  have b:(m.T.path x).getD i 0∈m.T.path x:=by
   rw[r_,o_ a]; exact R_ a
  have:=h _ b;unfold aW at this;rw[d_ (dO.lN c rfl _ b)]at this;exact this
theorem Bv(h:bR v=true)(b:v.kind=5):1<=v.dst/\v.dst<=6/\v.dst≠v.o:=by
 unfold bR at h;simp only[T_]at h;have a:=h.2;unfold dH at a;rw[b_ (by omega),b_ (by omega),b_ (by omega),b_ (by omega),d_ b,T_]at a;have:=a.2;unfold mH jy at this;simp at this;omega
theorem aaM(a:bR v=true):iq v.o=true:=by have:=nI a; unfold iq; simp; omega
end
structure Tw(m:dP)(L:eF)(N S:Nat):Prop where
 t:DJ m L N
 w:SX m
 s:(bY m).Sm S
 b:S<=1000000
section
variable {m:dP} {L:eF} {N S:Nat} {x y:Int} {v:EvM}
theorem DJ.may(h:DJ m L N)(hy:m.T.has y=true):may (aW m y)=true:=by
 obtain⟨i,a,e⟩:=(h.s.T.has y).1 hy;unfold aW;rw[d_ hy,<- e,h.s.row i a];exact h.i.may i a
theorem Tw.cell(h:Tw m L N S)(y:Int)(p:Nat):aW m y p<=65536000000:=by
 have:=h.s.r y p;have a:=h.b;show(bY m).R y p<=_;omega
theorem Tw.make(h:Tw m L N S)(s:bR v=true)(k:v.kind=1)(j:(bY m).OI v):jr m v=0:=by
 obtain⟨a,b,c⟩:=j.pre.n1 k;obtain⟨d,e,f⟩:=j.k1 k;have r:rW v=nU v:=sG s;rw[r]at a b;unfold jr;have d:m.own (aP v)<5:=d;rw[b_ (show ¬ (5<=m.own (aP v)\/140737488355328<v.aT) by omega)];show sj m.T.x m.T.p m.T.n (nU v) v.node=0;unfold sj;have a:eB m.T.x m.T.n (nU v)=false:=a;rw[b_ b,b_ (by rw[a]; decide)];rw[b_ (show ¬ (¬ v.node=0/\eB m.T.x m.T.n v.node=false)from fun q=>by
  rcases c with c|c
  ·exact q.1 c
  ·have c:eB m.T.x m.T.n v.node=true:=c;rw[q.2]at c; cases c)]
 rw[b_];rintro (q|q)
 ·have y:=h.w.n;have g:=h.w.o;have:=g 0 (by decide); have:=g 1 (by decide); have:=g 2 (by decide); have:=g 3 (by decide); have:=g 4 (by decide); have:=g 5 (by decide);omega
 obtain⟨u,_⟩:=Fe h.t.t _ v.node (A_ _);exact f fun i l=>by
  rw[GI];exact(u i (n_ l q)).2
theorem Tw.make'(h:Tw m L N S)(k:bR v=true)(o:v.kind=1)(a:jr m v=0):(rW v≠0/\(bY m).has (rW v)=false/\(v.node=0\/(bY m).has v.node=true))/\(bY m).own (aV v)<5/\v.aT<=140737488355328 /\ ¬ ∀ i,i<4->(bY m).has ((bY m).up v.node i)=true:=by
 have j:rW v=nU v:=sG k;unfold jr at a;by_cases c:5<=m.own (aP v)\/140737488355328<v.aT
 ·rw[d_ c]at a; cases a
 rw[b_ c]at a;obtain⟨d,e,f,n,g⟩:=FE a;rw[j];refine⟨⟨d,e,f⟩,?_,by omega,fun q => ?_⟩
 ·show m.own (aP v)<5;omega
 obtain⟨_,l⟩:=Fe h.t.t _ v.node (A_ _);have:=q _ (show(m.T.path v.node).length<4 from g);rw[GI]at this;have b:m.T.has (MJ m.T v.node (m.T.path v.node).length)=true:=this;rw[l]at b; cases b
theorem Tw.does(h:Tw m L N S)(c:bR v=true)(I:v.aT<=65536)(j:(bY m).OI v):fG m v=0:=by
 have k:=h.t.t;have P:=j.pre;have D:=aaM c;have G : ∀ y p n,n<=65536->aW m y p+n<=1125899906842624:=fun y p n U=>by have:=h.cell y p; omega
 unfold fG;by_cases E:v.kind=1
 ·rw[d_ E]; exact h.make c E j
 rw[b_ E];by_cases A:v.kind=2
 ·rw[d_ A];have a:m.T.has v.node=true:=P.n2 A;have:=j.k2 A;have e:(bY m).R v.node (aV v)=m.R (m.idx v.node) (aP v):=by
   show aW m v.node (aV v)=_;unfold aW; rw[d_ a]; rfl
  rw[e]at this;unfold jP;rw[b_ (by rw[a]; decide),b_ (by omega)]
 rw[b_ A];by_cases w:v.kind=3
 ·rw[d_ w];have a:m.T.has v.node=true:=(P.n3 w).1;obtain⟨b,i⟩:=j.k3 w;have b:gG m v.o v.req=false:=b;have r:=lJ c (.inr (.inl w));unfold ko;rw[b_ (by rw[b]; decide),b_ (by rw[a]; decide)];refine GQ (f:=fun x=>bF x v.o v.aT) k fun y u => ?_;have d:=h.t.may (dO.lN k rfl y u);have:=i y ((xV k _ y).2 u);have this:v.aT<=Ar (aW m y) (aV v):=this;refine zw d r.1 r.2 D ?_ (G y _ _ I);unfold qD;rw[wG d c,g_ (by omega)]; rfl
 rw[b_ w];by_cases z:v.kind=4
 ·rw[d_ z];have a:iy m v.o v.of=true:=P.n4 z;obtain⟨b,i,J⟩:=j.k4 z;have b:gG m v.o v.req=false:=b;have K:(bY m).g v.o v.of 2=m.g (eZ m v.o v.of) 2:=d_ ⟨a,by decide,by decide⟩;have H:(bY m).g v.o v.of 3=m.g (eZ m v.o v.of) 3:=d_ ⟨a,by decide,by decide⟩;have M:(bY m).g v.o v.of 4=m.g (eZ m v.o v.of) 4:=d_ ⟨a,by decide,by decide⟩;have B:=h.s.g _ _ (P.n4 z);rw[K,H]at J;rw[H]at B;rw[M]at i;unfold jv;rw[b_ (by rw[b]; decide),b_ (show ¬ (iy m v.o v.of=false\/m.g (eZ m v.o v.of) 4≠0)from fun q=>q.elim (fun q=>by rw[a]at q; cases q) (fun q=>q i))]
  refine GQ (f:=fun x=>bH x v.o (m.g (eZ m v.o v.of) 3)) k fun y u => ?_;have d:=h.t.may (dO.lN k rfl y u);have:=J y ((xV k _ y).2 u);have this:m.g (eZ m v.o v.of) 3<=aW m y (6+aV v)-aW m y (12+aV v):=this;refine zw d B.1 (by omega) D ?_ (G y _ _ B.2);unfold qE C F;rw[(GL c).2.2,g_ (by omega)]; rfl
 rw[b_ z];by_cases l:v.kind=5
 ·rw[d_ l];have a:m.T.has v.node=true:=P.n5 l;obtain⟨b,i⟩:=j.k5 l;have b:m.inn (v.dst-1).toNat=true:=b;have i:v.aT<=Ar (aW m v.node) (aV v):=i;have r:=lJ c (.inr (.inr l));have d:=h.t.may a;have O:aW m v.node=m.R (m.idx v.node):=by unfold aW; rw[d_ a]; rfl
  have Q:=Bv c l;unfold kQ;rw[b_ (by rw[a]; decide),b_ (by rw[b]; decide)];show(dA (m.R (m.idx v.node)) v.o v.dst v.aT).2=0;rw[<- O];refine zw d r.1 r.2 (by rw[D,show iq v.dst=true by unfold iq; simp; omega]; rfl) ?_ (G _ _ _ I);unfold nN;rw[b_ (fun e=>Q.2.2 e.symm),wG d c,g_ (by omega)]; rfl
 rw[b_ l];split <;> rfl
theorem Tw.okE(h:Tw m L N S)(D:bR v=true)(h1:m.inn (aP v)=true)(p:m.left (aP v)=false)(d:fG m v=0):(bY m).OI v:=by
 have B:=h.t.t;unfold fG at d;have no : ∀ {k:Int} {P:Prop},v.kind≠k->v.kind=k->P:=fun a b=>N_ b a;by_cases r:v.kind=1
 ·rw[d_ r]at d;obtain⟨⟨H,I,J⟩,b⟩:=h.make' D r d;have n : ∀ {k:Int} {P:Prop},k≠1->v.kind=k->P:=fun a b=>N_ (b.symm.trans r) a;exact⟨h1,p,⟨fun _=>⟨I,H,J⟩,n (by decide),n (by decide),n (by decide),n (by decide)⟩,fun _=>b,n (by decide),n (by decide),n (by decide),n (by decide)⟩
 rw[b_ r]at d;by_cases w:v.kind=2
 ·rw[d_ w]at d;have n : ∀ {k:Int} {P:Prop},k≠2->v.kind=k->P:=fun a b=>N_ (b.symm.trans w) a;unfold jP at d
  cases f:m.T.has v.node with
  | false=>rw[d_ f]at d; cases d
  | true =>
    rw[b_ (by rw[f]; decide)]at d;have e:(bY m).R v.node (aV v)=m.R (m.idx v.node) (aP v):=by
     show aW m v.node (aV v)=_;unfold aW; rw[d_ f]; rfl
    refine⟨h1,p,⟨n (by decide),fun _=>f,n (by decide),n (by decide),n (by decide)⟩,n (by decide),fun _ => ?_,n (by decide),n (by decide),n (by decide)⟩;rw[e];by_cases c:140737488355328<m.R (m.idx v.node) (aP v)+v.aT
    ·rw[d_ c]at d; cases d
    ·omega
 rw[b_ w]at d;by_cases x:v.kind=3
 ·rw[d_ x]at d;have n : ∀ {k:Int} {P:Prop},k≠3->v.kind=k->P:=fun a b=>N_ (b.symm.trans x) a;unfold ko at d
  cases c1:gG m v.o v.req with
  | true=>rw[d_ c1]at d; cases d
  | false =>
    rw[b_ (by rw[c1]; decide)]at d
    cases f:m.T.has v.node with
    | false=>rw[d_ f]at d; cases d
    | true =>
      rw[b_ (by rw[f]; decide)]at d;have W:iy m v.o v.req=false:=qy fun i u e=>by
       have:=h.t.s.ga i u;rw[e.1,e.2,c1]at this; cases this
      refine⟨h1,p,⟨n (by decide),n (by decide),fun _=>⟨f,W⟩,n (by decide),n (by decide)⟩,n (by decide),n (by decide),fun _=>⟨c1,fun y l => ?_⟩,n (by decide),n (by decide)⟩;have l:=(xV B _ y).1 l;have q:(bF (aW m y) v.o v.aT).2=0:=zY B d l;unfold bF at q;have G:=zX q;have j:=G.2.2.2.2.1;unfold qD at j;rw[wG G.1 D]at j;show v.aT<=Ar (aW m y) (aV v);by_cases c:Ar (aW m y) (aV v)<v.aT
      ·rw[f_ c]at j; cases j
      ·omega
 rw[b_ x]at d;by_cases z:v.kind=4
 ·rw[d_ z]at d;have n : ∀ {k:Int} {P:Prop},k≠4->v.kind=k->P:=fun a b=>N_ (b.symm.trans z) a;unfold jv at d
  cases c1:gG m v.o v.req with
  | true=>rw[d_ c1]at d; cases d
  | false =>
    rw[b_ (by rw[c1]; decide)]at d;by_cases A:iy m v.o v.of=false\/m.g (eZ m v.o v.of) 4≠0
    ·rw[d_ A]at d; cases d
    ·rw[b_ A]at d;have f:iy m v.o v.of=true:=by
      cases e:iy m v.o v.of with
      | true=>rfl
      | false=>exact N_ (.inl e) A
     have U:m.g (eZ m v.o v.of) 4=0:=Classical.byContradiction fun q=>A (.inr q);have K:(bY m).g v.o v.of 2=m.g (eZ m v.o v.of) 2:=d_ ⟨f,by decide,by decide⟩;have M:(bY m).g v.o v.of 3=m.g (eZ m v.o v.of) 3:=d_ ⟨f,by decide,by decide⟩;have O:(bY m).g v.o v.of 4=m.g (eZ m v.o v.of) 4:=d_ ⟨f,by decide,by decide⟩;refine⟨h1,p,⟨n (by decide),n (by decide),n (by decide),fun _=>f,n (by decide)⟩,n (by decide),n (by decide),n (by decide),fun _=>⟨c1,O.trans U,fun y l => ?_⟩,n (by decide)⟩;rw[K]at l;rw[M];have l:=(xV B _ y).1 l;have q:(bH (aW m y) v.o (m.g (eZ m v.o v.of) 3)).2=0:=zY B d l;unfold bH at q;have G:=zX q;have j:=G.2.2.2.2.1;unfold qE C F at j;rw[(GL D).2.2]at j;show m.g (eZ m v.o v.of) 3<=aW m y (6+aV v)-aW m y (12+aV v);by_cases c:aW m y (6+aV v)-aW m y (12+aV v)<m.g (eZ m v.o v.of) 3
     ·rw[f_ c]at j; cases j
     ·omega
 rw[b_ z]at d;by_cases E:v.kind=5
 ·rw[d_ E]at d;have n : ∀ {k:Int} {P:Prop},k≠5->v.kind=k->P:=fun a b=>N_ (b.symm.trans E) a;unfold kQ at d
  cases f:m.T.has v.node with
  | false=>rw[d_ f]at d; cases d
  | true =>
    rw[b_ (by rw[f]; decide)]at d
    cases u:m.inn (v.dst-1).toNat with
    | false=>rw[d_ u]at d; cases d
    | true =>
      rw[b_ (by rw[u]; decide)]at d;have hm:=h.t.may f;have Q:aW m v.node=m.R (m.idx v.node):=(by unfold aW; rw[d_ f]; rfl);obtain⟨a,b,ha,hb,hne,ho,hd,X,Y,V,hM,heq⟩:=Cg d;refine⟨h1,p,⟨n (by decide),n (by decide),n (by decide),n (by decide),fun _=>f⟩,n (by decide),n (by decide),n (by decide),n (by decide),fun _=>⟨u,?_⟩⟩;show v.aT<=Ar (aW m v.node) (aV v);rw[Q,<- acv,show aV v=a by unfold aV; omega];exact V
 have Z:=jB D;exact⟨h1,p,⟨no r,no w,no x,no z,no E⟩,no r,no w,no x,no z,no E⟩
theorem QA{K:Nat->Int}(h:dG K v=true):mV K v=false:=by
 obtain⟨a,b,c⟩:=EA h;unfold mV;rw[g_ (show ¬ v.seq<=K (v.o-1).toNat by have b:v.seq=K (v.o-1).toNat+1:=b; omega),J_]
theorem Tw.check(h:Tw m L N S)(i:v.aT<=65536)(hr:dG m.known v=true):bZ m v=0<->(bY m).OI v:=by
 have f:=(EA hr).1;constructor
 ·intro g;obtain⟨a,b,c,d⟩:=qJ g;exact h.okE f c d b
 intro e;unfold bZ;rw[b_ (by rw[f]; decide),b_ (by rw[QA hr]; decide),b_ (by rw[hr]; decide),b_,h.does f i e];rintro (q|q)
 ·have:=e.inn; rw[show(bY m).inn (aV v)=m.inn (aP v)from rfl,q]at this; cases this
 have:=e.left; rw[show(bY m).left (aV v)=m.left (aP v)from rfl,q]at this; cases this
end
end Rt
end
section
namespace Rt
def Sn(k:Nat):Ab:=bY (yH k 0 0 0 0 0 0)
structure Ws(k:Nat)(ev:Nat->EvM)(an:Nat):Prop extends Evs (Sn k) ev an where
 sm : ∀ i,i<an->sH (ev i)
 an:an<=1000
structure wH(k:Nat)(ev:Nat->EvM)(an:Nat)(L:eF):Prop where
 ex : ∃ m N,DJ m L N/\SX m/\bY m=fK ev L.known (Sn k) an
 kc:PX ev an L.known
section
variable {ev ev':Nat->EvM} {an n k i j:Nat} {K:Nat->Int} {L L':eF} {v:EvM} {m:dP} {N S:Nat} {A:Ab}
theorem agE(h:bR v=true):Nc v:=by
 have a:=nI h;refine⟨⟨a.1,a.2.1⟩,a.2.2,?_,fun d=>⟨(Bv h d).1,(Bv h d).2.1⟩⟩;have i:=jB h;by_cases g:v.kind=2\/v.kind=3\/v.kind=5
 ·have:=(lJ h g).1; omega
 have c:qC v=true:=by unfold bR at h; simp only[T_]at h; exact h.1.2
 have b:dH v=true:=by unfold bR at h; simp only[T_]at h; exact h.2
 by_cases f:v.kind=1
 ·unfold dH at b;rw[d_ f]at b;simp at b;omega
 have e:v.aT=(kX v).aT:=by unfold qC at c; simp only[T_,decide_eq_true_eq]at c; exact c.1.1.2
 rw[e];unfold kX;rw[b_ f,b_ (by omega),b_ (by omega)];split
 ·exact O_ _
 rw[b_ (by omega)];split <;> exact O_ _
theorem agF(k:Nat):(Sn k).Ok:=⟨rfl,fun _ h=>(nomatch h),fun _ _=>rfl,fun _ _ h=>(nomatch h),fun _ _ _=>rfl⟩
theorem agG(k:Nat):(Sn k).Sm 0:=⟨fun _ _=>O_ _,fun _ _ h=>(nomatch h)⟩
theorem ow0(k:Nat):SX (yH k 0 0 0 0 0 0):=⟨rfl,fun _ _=>by show(0:Int)<=5; decide⟩
theorem Ab.Sm.mono{S':Nat}(h:A.Sm S)(a:S<=S'):A.Sm S':=⟨fun y p=>by have:=h.r y p; omega,h.g⟩
theorem Evs.cz(h:Evs A ev an):Cz 6 an ev (fun _=>iw ev an) where
 rd:=h.rd
 reg:=fun k a=>(h.g k a).reg.2
 own:=fun _ _=>rfl
 kc:=fun _ _=>⟨fun _ _=>O_ _,fun k a _ i b=>S_ ((EA (h.rd k a)).2.2 i b) (cnt_mono (by omega))⟩
theorem Ws.fsm(W:Ws k ev an)(a:PX ev an K) : ∀ n,n<=an->(fK ev K (Sn k) n).Sm n
 | 0,_=>agG k
 | n+1,hn=>by
   have b:=W.fsm a n (by omega)
   cases c:wF K (ev n)with
   | true =>
     rw[lQ c];exact b.qM ((tY W.toEvs (n+1) hn K a).2 n (by omega) c).pre (EA (W.rd n (by omega))).1 (W.sm n (by omega)).aT
   | false=>rw[mo c]; exact b.mono (by omega)
theorem wH.tw(h:wH k ev an L)(W:Ws k ev an) : ∃ m N,Tw m L N an/\bY m=fK ev L.known (Sn k) an:=by
 obtain⟨m,N,b,c,a⟩:=h.ex;exact⟨m,N,⟨b,c,by rw[a]; exact W.fsm h.kc an (A_ _),by have:=W.an; omega⟩,a⟩
theorem wH.ready(h:wH k ev an L)(W:Ws k ev an)(c:j<an)(hr:dG L.known (ev j)=true):bD L (ev j)=0:=by
 obtain⟨m,N,a,d⟩:=h.tw W;have b:=Jc W.toEvs h.kc c hr (show j<=an by omega) (A_ _);rw[<- d]at b;rw[<- (a.t.s.apply a.t.t a.t.i (ev j)).1];exact(a.check (W.sm j c).aT (by rw[a.t.s.known]; exact hr)).2 b
theorem wH.apply(h:wH k ev an L)(W:Ws k ev an)(b:j<an):wH k ev an (bP L (ev j)):=by
 rcases oJ L (ev j)with ⟨c,e⟩|⟨c,e⟩
 ·have d:=iA c;obtain⟨m,N,a,f,g⟩:=h.ex;have l:bZ m (ev j)=0:=(a.s.apply a.t a.i (ev j)).1.trans c;refine⟨⟨gX m (ev j),N+1,a.apply (ev j),f.apply,?_⟩,by rw[e]; exact W.toEvs.cz.step h.kc b d⟩;rw[Jg a.t a.s.ga l,g,e];exact(aaJ W.toEvs h.kc b d).symm
 rw[e]; exact h
theorem wH.pass(W:Ws k ev an){a:Nat->Int}(h:wH k ev an L) : ∀ j,j<=an->wH k ev an (nQ ev a L j)
 | 0,_=>h
 | j+1,hj=>by
   unfold nQ;split
   ·exact(h.pass W j (by omega)).apply W (by omega)
   ·exact h.pass W j (by omega)
theorem wH.iG(W:Ws k ev an){a:Nat->Int} : ∀ f L,wH k ev an L->wH k ev an (iG ev an a f L)
 | 0,L,hL=>by unfold Rt.iG; exact hL
 | f+1,L,hL=>by
   unfold Rt.iG;split
   ·exact hL.pass W an (A_ _)
   ·exact wH.iG W f _ (hL.pass W an (A_ _))
theorem wH.new(k:Nat)(ev:Nat->EvM)(an:Nat)(a : ∀ i,i<an->1<=(ev i).seq)(f:Nat):wH k ev an (jL k f).core:=by
 have d : ∀ n,n<=an->fK ev (fun _=>0) (Sn k) n=Sn k:=fun n=>by
  induction n with
  | zero=>intro _; rfl
  | succ n ih =>
    intro h;have c:wF (fun _=>0) (ev n)=false:=g_ (show ¬ (ev n).seq<=0 by have:=a n (by omega); omega);rw[mo c]; exact ih (by omega)
 exact⟨⟨yH k 0 0 0 0 0 0,0,DJ.new k,ow0 k,(d an (A_ _)).symm⟩,fun i b=>Bq an i,fun i b e j g=>N_ (show(ev i).seq<=0 from e) (by have:=a i b; omega)⟩
theorem DL(h : ∀ i,i<n->ev' i=ev i):fK ev' K A n=fK ev K A n:=by
 induction n with
 | zero=>rfl
 | succ n ih =>
   show(if wF K (ev' n)=true then(fK ev' K A n).qM (ev' n)else fK ev' K A n)=_;rw[ih fun i a=>h i (by omega),h n (by omega)]; rfl
theorem xW{v:EvM} : ∀ i,i<an->aI ev an v i=ev i:=fun i a=>b_ (by omega)
theorem vw{v:EvM}:aI ev an v an=v:=d_ rfl
theorem PX.more(h:PX ev an K)(g:bR v=true)(l:v.seq=iw ev an (aP v)+1):PX (aI ev an v) (an+1) K/\wF K v=false:=by
 have c : ¬ v.seq<=K (aP v):=by have:=h.le _ (mh g); omega
 refine⟨⟨fun i b => ?_,fun i b a j f => ?_⟩,g_ c⟩
 ·have:=h.le i b;have d:=cnt_mono (ev:=aI ev an v) (j:=an) (k:=an+1) (i:=i) (by omega);rw[Ck an (A_ _)]at d;omega
 by_cases e:i=an
 ·rw[e,vw]at a; exact N_ a c
 rw[xW i (by omega)]at a ⊢;exact h.cl i (by omega) a j f
theorem wH.more(h:wH k ev an L)(g:bR v=true)(f:v.seq=iw ev an (aP v)+1):wH k (aI ev an v) (an+1) L:=by
 obtain⟨m,N,c,d,e⟩:=h.ex;obtain⟨a,b⟩:=h.kc.more g f;refine⟨⟨m,N,c,d,?_⟩,a⟩;rw[mo (by rw[vw]; exact b),DL xW];exact e
theorem Ws.more(W:Ws k ev an)(h:wH k ev an L)(u:an<1000)(p:sH v)(n:bD L v=0)(d:v.deps=L.known)(f:v.seq=iw ev an (aP v)+1):Ws k (aI ev an v) (an+1):=by
 have o:=iA n;have c:=(EA o).1;have q : ∀ j,j<=an -> ∀ i,iw (aI ev an v) j i=iw ev j i:=fun j a i=>Ck j a i;have l : ∀ j,j<=an->iw (aI ev an v) j=iw ev j:=fun j a=>funext (q j a);refine { ok0:=W.ok0,rd:=fun j a => ?_,g:=fun j a => ?_,dc:=fun j a => ?_,tk:=fun j a => ?_,sm:=fun j a => ?_,an:=by omega }
 ·by_cases e:j=an
  ·rw[e,vw,l an (A_ _)];exact J5 c f (by rw[d]; exact h.kc.le)
  rw[xW j (by omega),l j (by omega)]; exact W.rd j (by omega)
 ·by_cases e:j=an
  ·rw[e,vw]; exact agE c
  rw[xW j (by omega)]; exact W.g j (by omega)
 ·by_cases e:j=an
  ·rw[e,vw,d]; exact(h.kc.more c f).1
  rw[xW j (by omega)]; exact((W.dc j (by omega)).more c f).1
 ·by_cases e:j=an
  ·rw[e,vw,d,DL xW];obtain⟨m,N,b,r⟩:=h.tw W;rw[<- r];exact(b.check p.aT (by rw[b.t.s.known]; exact o)).1 ((b.t.s.apply b.t.t b.t.i v).1.trans n)
  rw[xW j (by omega),DL fun i w=>xW i (by omega)]; exact W.tk j (by omega)
 by_cases e:j=an
 ·rw[e,vw]; exact p
 rw[xW j (by omega)]; exact W.sm j (by omega)
theorem Ws.zero(k:Nat)(ev:Nat->EvM):Ws k ev 0 where
 ok0:=agF k
 rd:=fun _ h=>N_ h (z_ _)
 g:=fun _ h=>N_ h (z_ _)
 dc:=fun _ h=>N_ h (z_ _)
 tk:=fun _ h=>N_ h (z_ _)
 sm:=fun _ h=>N_ h (z_ _)
 an:=by decide
end
structure WC(M:WM):Prop where
 w:Ws M.n M.ev M.an
 f : ∀ o,o<M.n->wH M.n M.ev M.an (M.ml o).core
theorem WC.new{M:WM}(a:M.an=0)(h : ∀ i,(M.ml i).core=(jL M.n 0).core):WC M:=by
 refine⟨by rw[a]; exact .zero _ _,fun o c=>by rw[h,a]; exact .new _ _ _ (fun i b=>N_ b (z_ _)) 0⟩
theorem WC.do{w':World}{M k:WM}{B p T o:Nat}{x:Gy}{v:EvM}(h:WC M)(y:oL w' B p k T)(j:o<M.n)(a:DoR o x M k v)(z:M.an<1000)(A:(M.ml o).s.known o=iw M.ev M.an o):WC k:=by
 rcases a.c with ⟨u,g,d,b⟩|⟨u,g,d,b,h5,h6,h7,h8⟩
 ·refine⟨by rw[a.n,g,d]; exact h.w,fun q i => ?_⟩;rw[a.n]at i;rw[a.n,g,d];by_cases e:q=o
  ·rw[e]
   rcases b with b|⟨_,b⟩
   ·rw[b]; exact h.f o j
   rw[b]; exact wH.iG h.w _ _ (h.f o j)
  rw[a.oth q e]; exact h.f q i
 have C:=iA b;have r:=(EA C).1;have t:aP v=o:=by unfold aP; omega
 have l:v.seq=iw M.ev M.an (aP v)+1:=by rw[t,<- A]; exact h7
 have D:sH v:=by
  have:=y.sm M.an (by omega);rw[d,vw]at this; exact this
 have m:Ws M.n (aI M.ev M.an v) (M.an+1):=h.w.more (h.f o j) z D b h8 l;refine⟨by rw[a.n,g,d]; exact m,fun q i => ?_⟩;rw[a.n]at i;rw[a.n,g,d];by_cases e:q=o
 ·rw[e,h5];have:=((h.f o j).more r l).apply m (show M.an<M.an+1 by omega);rw[vw]at this;exact this
 rw[a.oth q e]; exact(h.f q i).more r l
end Rt
end
section
namespace Rt
structure Jh(L L':eF):Prop where
 inn:L'.inn=L.inn
 left:L'.left=L.left
 kn : ∀ i,i<6->L'.known i=L.known i
 nn:L'.nn=L.nn
 gn:L'.gn=L.gn
 n : ∀ k,k<L.nn->L'.id k=L.id k/\L'.par k=L.par k/\L'.R k=L.R k
 g : ∀ k,k<L.gn -> ∀ p,p<5->L'.g k p=L.g k p
section
variable {ev:Nat->EvM} {an k:Nat} {L L':eF} {m m':dP} {N N':Nat}
theorem gy.aaN(h:gy m L){q:Nat}(i:q<L.gn):iy m (L.g q 0) (L.g q 1)=true /\ ∀ p,2<=p->p<=4->(bY m).g (L.g q 0) (L.g q 1) p=L.g q p:=by
 obtain⟨j,d,e⟩:=h.g1 q i;have c:iy m (L.g q 0) (L.g q 1)=true:=tX d (by rw[<- e]) (by rw[<- e]);have f:eZ m (L.g q 0) (L.g q 1)=j:=zU h.gi d (by rw[<- e]) (by rw[<- e]);refine⟨c,fun p a b => ?_⟩;rw[show(bY m).g (L.g q 0) (L.g q 1) p=m.g (eZ m (L.g q 0) (L.g q 1)) p from d_ ⟨c,a,b⟩,f,e]
theorem Ji{f:Nat->Int}{n i:Nat}(hi:i<n):((List.range n).map f).getD i 0=f i:=by
 rw[r_,o_ (by rw[List.length_map,List.length_range]; exact hi)]; simp
theorem Jj{f g:Nat->Int}{n n':Nat}(m : ∀ i j,i<j->j<n->f i<f j)(o : ∀ i j,i<j->j<n'->g i<g j)(h1 : ∀ i,i<n -> ∃ j,j<n'/\g j=f i)(l : ∀ j,j<n' -> ∃ i,i<n/\f i=g j):n'=n /\ ∀ i,i<n->g i=f i:=by
 have e:(List.range n).map f=(List.range n').map g:=vR (by
  rw[List.pairwise_map];exact(List.pairwise_lt_range (n:=n)).imp_of_mem fun {a b} _ hb hab=>m a b hab (P_.1 hb)) (by
  rw[List.pairwise_map];exact(List.pairwise_lt_range (n:=n')).imp_of_mem fun {a b} _ hb hab=>o a b hab (P_.1 hb)) fun x=>by
  rw[List.mem_map,List.mem_map];constructor
  ·rintro ⟨i,c,rfl⟩;obtain⟨j,d,k⟩:=h1 i (P_.1 c);exact⟨j,P_.2 d,k⟩
  ·rintro ⟨j,d,rfl⟩;obtain⟨i,c,h⟩:=l j (P_.1 d);exact⟨i,P_.2 c,h⟩
 have p:n'=n:=by have:=M_ List.length e; rw[List.length_map,List.length_map,List.length_range,List.length_range]at this; exact this.symm
 refine⟨p,fun i c => ?_⟩;have:=M_ (fun z:List Int=>z.getD i 0) e;have:((List.range n).map f).getD i 0=((List.range n').map g).getD i 0:=this;rw[Ji c,Ji (by omega)]at this;exact this.symm
theorem DJ.same(h:DJ m L N)(d:DJ m' L' N')(C:yI L)(D:yI L')(e:bY m'=bY m)(I : ∀ i,i<6->L'.known i=L.known i):Jh L L':=by
 have B : ∀ y,m'.T.has y=m.T.has y:=fun y=>congrFun (M_ Ab.has e) y;have J : ∀ y,m'.T.par y=m.T.par y:=fun y=>congrFun (M_ Ab.par e) y;have H : ∀ y,aW m' y=aW m y:=fun y=>congrFun (M_ Ab.R e) y;have u : ∀ o r,iy m' o r=iy m o r:=fun o r=>congrFun (congrFun (M_ Ab.gh e) o) r;have w : ∀ {m:dP} {L:eF} {N:Nat},DJ m L N -> ∀ i,i<L.nn->m.T.has (L.id i)=true/\aW m (L.id i)=L.R i:=fun {m L N} h i k=>by
  have a:m.T.has (L.id i)=true:=(h.s.T.has _).2 ⟨i,k,rfl⟩;refine⟨a,?_⟩;unfold aW;rw[d_ a,h.s.row i k]
 obtain⟨Q,z⟩:=Jj (f:=L.id) (g:=L'.id) (n:=L.nn) (n':=L'.nn) h.i.rise d.i.rise (fun i k=>(d.s.T.has _).1 (by rw[B]; exact(w h i k).1)) (fun i k=>(h.s.T.has _).1 (by rw[<- B]; exact(w d i k).1));have F : ∀ {m m':dP} {L L':eF} {N N':Nat},DJ m L N->DJ m' L' N'->(∀ o r,iy m' o r=iy m o r) -> ∀ q,q<L.gn -> ∃ j,j<L'.gn/\oK (L'.g j)=oK (L.g q):=fun {m m' L L' N N'} h d u q t=>by
  have a:=(h.s.aaN t).1;rw[<- u]at a;obtain⟨j,O,l,x⟩:=kI.1 a;obtain⟨S,v,G⟩:=d.s.g2 j O;have l:m'.g j 0=L.g q 0:=l;have x:m'.g j 1=L.g q 1:=x;exact⟨S,v,by unfold oK; rw[G,l,x]⟩
 obtain⟨K,M⟩:=Jj (f:=fun q=>oK (L.g q)) (g:=fun q=>oK (L'.g q)) (n:=L.gn) (n':=L'.gn) C.up D.up (F h d u) (F d h fun o r=>(u o r).symm);refine⟨by rw[<- h.s.inn,<- d.s.inn]; exact M_ Ab.inn e,by rw[<- h.s.left,<- d.s.left]; exact M_ Ab.left e,I,Q,K,fun i k => ?_,fun q t p W => ?_⟩
 ·have E:i<L'.nn:=by omega
  refine⟨z i k,?_,?_⟩
  ·rw[<- h.s.T.par i k,<- d.s.T.par i E,J,z i k]
  rw[<- (w h i k).2,<- (w d i E).2,H,z i k]
 have v:q<L'.gn:=by omega
 have P:oK (L'.g q)=oK (L.g q):=M q t;have U:=(C.wf q t).1;have V:=(D.wf q v).1;unfold oK at P;unfold jA at U V;have A:L'.g q 0=L.g q 0:=by omega
 have l:L'.g q 1=L.g q 1:=by omega
 by_cases c:2<=p
 ·have a:=(h.s.aaN t).2 p c (by omega);have b:=(d.s.aaN v).2 p c (by omega);rw[<- a,<- b,A,l,M_ Ab.g e]
 rcases(show p=0\/p=1 by omega)with rfl|rfl
 ·exact A
 exact l
theorem QC{K K':Nat->Int}{A:Ab}(h : ∀ i,i<6->K' i=K i)(a : ∀ i,i<an->aP (ev i)<6) : ∀ n,n<=an->fK ev K' A n=fK ev K A n
 | 0,_=>rfl
 | n+1,hn=>by
   have c:wF K' (ev n)=wF K (ev n):=(by unfold wF; rw[h _ (a n (by omega))]);show(if wF K' (ev n)=true then(fK ev K' A n).qM (ev n)else fK ev K' A n)=_;rw[QC h a n (by omega),c]; rfl
theorem wH.same(h:wH k ev an L)(f:wH k ev an L')(W:Ws k ev an)(j:yI L)(l:yI L')(a : ∀ i,i<6->L'.known i=L.known i):Jh L L':=by
 obtain⟨m,N,b,o,c⟩:=h.ex;obtain⟨m',N',d,p,e⟩:=f.ex;refine b.same d j l ?_ a;rw[c,e];exact QC a (fun i n=>(W.g i n).reg.2) an (A_ _)
theorem wH.next(h:wH k ev an L)(W:Ws k ev an){i:Nat}(hi:i<an)(b:L.known=iw ev i):bD L (ev i)=0/\(bP L (ev i)).known=iw ev (i+1):=by
 have a:=h.ready W hi (by rw[b]; exact W.rd i hi);refine⟨a,?_⟩;rw[zV a,b]
 funext q
 unfold aI;show _=iw ev i q+if aP (ev i)=q then 1 else 0;by_cases e:q=aP (ev i)
 ·rw[d_ e,d_ e.symm,e]
 rw[b_ e,b_ (fun q=>e q.symm),E_]
theorem aaO(W:Ws k ev an) : ∀ i,i<an->1<=(ev i).seq:=fun i a=>(W.g i a).seq.1
theorem wH.some(h:wH k ev an L)(W:Ws k ev an){i:Nat}(hi:i<an):bD L (ev i)=0\/bD L (ev i)=14\/bD L (ev i)=13:=by
 by_cases c:dG L.known (ev i)=true
 ·exact .inl (h.ready W hi c)
 right;have b:=(EA (W.rd i hi)).1;unfold bD;rw[b_ (by rw[b]; decide)];by_cases a:mV L.known (ev i)=true
 ·rw[d_ a]; exact .inl rfl
 rw[b_ a,d_ (by simpa using c)]; exact .inr rfl
end
end Rt
end
section
namespace Rt
section
variable {ev:Nat->EvM} {an k i r:Nat} {K K':Nat->Int} {L:eF} {v:EvM}
theorem X3(ev:Nat->EvM)(i q:Nat):iw ev (i+1) q=iw ev i q+if aP (ev i)=q then 1 else 0:=rfl
where ahp {a b:Int} (h:b<=a):(if a<=b then a else b)=b:=by split <;> omega
theorem X4(L:eF)(v:EvM)(q:Nat):L.known q<=(bP L v).known q:=by
 rcases oJ L v with ⟨_,e⟩|⟨_,e⟩
 ·rw[e]; unfold aI; split
  ·subst_vars; omega
  exact O_ _
 rw[e]; exact O_ _
theorem wH.reach(h:wH k ev an L)(W:Ws k ev an)(hr:r<an)(d : ∀ q,q<6->iw ev r q<=L.known q) : ∀ q,q<6->iw ev (r+1) q<=(bP L (ev r)).known q:=fun q l=>by
 obtain⟨a,b,c⟩:=EA (W.rd r hr);have i:=mh a;have o:=d q l;have s:=X4 L (ev r) q;rw[X3];by_cases e:aP (ev r)=q
 ·rw[d_ e];by_cases n:(ev r).seq<=L.known q
  ·rw[e]at b; omega
  ·have j:=d _ i;have m:(ev r).seq=L.known (aP (ev r))+1:=(by rw[e]at b j ⊢; omega);have g:=h.ready W hr (J5 a m fun p f=>S_ (c p f) (d p f));rw[zV g,e];unfold aI; rw[d_ rfl,e]at *; omega
 ·rw[b_ e]; omega
theorem wH.full(h:wH k ev an L)(b : ∀ q,q<6->iw ev an q<=L.known q) : ∀ q,q<6->L.known q=iw ev an q:=fun q a=>by
 have:=h.kc.le q a; have:=b q a; omega
end
end Rt
end
section
namespace Rt
section
variable {x:EvM} {k an i:Nat} {ev:Nat->EvM} {L:eF} {s:Int} {d:Nat->Int}
theorem QD(ev:Nat->EvM) : ∀(i j:Nat),iw ev i j<=i
 | 0,_=>O_ _
 | i+1,j=>by have:=QD ev i j; show iw ev i j+(if aP (ev i)=j then 1 else 0)<=_; split <;> omega
end
end Rt
end
theorem MP(n:Nat)(m:Int)(w:World)(j:m=(n:Int))(k:1<=n)(l:n<=6) :
 Calls Tryz.prog 27 #[au m] w fun e c => ∃ p M,e = .returned (pt p)/\M.n=n/\M.an=0/\WC M/\oL c w.heap.size p M 0/\Below w.heap.size w c:=by
 subst j; exact(OC n w k l).mono fun _ _ ⟨p,M,d,a,b,h,f,g⟩=>⟨p,M,d,a,b,.new b fun i=>by rw[h i,a],f,g⟩
namespace Rt
theorem Jh.st{L L':eF}(h:Jh L L')(d:Option Addr)(e:Nat)(a:Option Addr)(b:Nat) : ∀ p,p<20->rF (Qo L' d e a b) p=rF (Qo L d e a b) p:=fun p f=>by
 unfold rF Qo;simp only[h.inn,h.left,h.nn,h.gn];by_cases c:12<=p/\p<18
 ·rw[h.kn (p-12) (by omega)]
 ·repeat' split
  all_goals first|rfl|omega
end Rt
theorem Qp.same{w:World}{s:FQ}{L L':eF}(h:Qp w s L')(d:Jh L L'):Qp w (Qo L s.na s.nc s.ga s.gc) L:=by
 refine⟨rfl,?_,?_⟩
 ·have e:=h.n;rw[d.nn]at e;exact e.congr fun j k=>by
   unfold flat ndL;obtain⟨a,b,c⟩:=d.n (j / 56) (by omega);rw[a,b,c]
 have e:=h.g;rw[d.gn]at e;exact e.congr fun j k=>by
  unfold flat Yp jf;have g:=d.g (j / 5) (by omega) (j % 5) (K_ _ (by decide));have f:=d.g (j / 5) (by omega) 0 (by decide);have i:=d.g (j / 5) (by omega) 3 (by decide);rw[g,f,i]
namespace Rt
structure jC where
 kind:Int
 node:Int
 dst:Int
 aT:Int
 req:Int
 of:Int
def kJ(x:jC):Nat->Value:=fun p=>if p=0 then .int .u8 x.kind else if p=1 then .int .u64 x.node else if p=2 then .int .i64 x.dst else if p=3 then .int .i64 x.aT else if p=4 then .int .u64 x.req else .int .u64 x.of
structure yA(x:jC):Prop where
 kind:0<=x.kind/\x.kind<=255
 node:jA x.node
 dst:tJ x.dst
 aT:tJ x.aT
 req:jA x.req
 of:jA x.of
end Rt
namespace Rt
def iL(K:Nat->Int)(i:Int)(x:jC):EvM:=⟨i,K (i-1).toNat+1,K,x.kind,x.node,x.dst,x.aT,x.req,x.of⟩
end Rt
theorem aaP(K:Nat->Int)(i:Int)(hr:jy i=false)(w:World) :
 Calls Tryz.prog 41 #[.agg (aA 6 (rv .u64 K)),au i] w fun e f=>e = .returned (.tuple #[aC 0,au 10])/\Below w.heap.size w f:=by
 refine Kent Tryz.func41 21 ?_;refine ay<|pO fun g k b c d l => ?_;have a:=bB d.old (Below.refl w.heap.size w);have h:=gN b;have j:=c.lt;refine av (aC 0)<|av (au 0)<|aD<|Ws<|Wb<|ay<|av (au i)<|lX (Kc i _) aF (by rw[hr])<|av aG<|av aG<|aD<|aN<|ay<|av (aC 0)<|av (au 10)<|aD<|Wr<|bL<|sR<|aJ (.tuple #[aC 0,au 10]) ?_;exact⟨rfl,a⟩
theorem aaQ(K:Nat->Int)(i:Int)(a:Nat)(ha:a<6)(h:i=(a:Int)+1)(g:Es K)(w:World) :
 Calls Tryz.prog 41 #[.agg (aA 6 (rv .u64 K)),au i] w fun e l=>e = .returned (.tuple #[aC (K a+1),au 0])/\Below w.heap.size w l:=by
 have j:jy i=true:=by rw[h]; unfold jy; simp; omega
 have m:=g a ha;refine Kent Tryz.func41 21 ?_;refine ay<|pO fun c p f b k q => ?_;have d:=bB k.old (Below.refl w.heap.size w);have n:=gN f;have o:=b.lt;refine av (aC 0)<|av (au 0)<|aD<|Ws<|Wb<|ay<|av (au i)<|lX (Kc i _) aG (by rw[j])<|av aF<|av aF<|aD<|aK<|ay<|av (au i)<|Lv (au a) gP<|Lv (pf c a) (jD 6 1)<|Lv (aC (K a)) (aM b.aH a)<|Lv aF H7<|av aF<|aD<|aK<|Wk<|bU<|sN<|ay<|av (au i)<|Lv (au a) gP<|Lv (pf c a) (jD 6 1)<|Lv (aC (K a)) (aM b.aH a)<|Lv (aC ((K a)+1)) fH<|av (aC ((K a)+1))<|av (au 0)<|aD<|Wr<|aJ (.tuple #[aC ((K a)+1),au 0]) ?_;exact⟨rfl,d⟩
theorem akv(v:EvM)(i c:Int)(K:Nat->Int)(a:Nat)(w:World)(b:aQ w a 14 (bI v) 37)(d:Nat)(g:Nat)(f:Nat)(hi:aQ w d 1 (fun _=>au i) 3)(k:aQ w g 1 (fun _=>aC c) 23)(h:aQ w f 6 (rv .u64 (K)) 35) :
 Calls Tryz.prog 43 #[(pt a),(pt d),(pt g),(pt f)] w fun e t=>e = .returned (.tuple #[])/\aQ t a 14 (bI ⟨i,c,K,v.kind,v.node,v.dst,v.aT,v.req,v.of⟩) 37/\Stp a w t:=by
 have M:=b.lt;have N:=hi.lt;have P:=k.lt;have O:=h.lt;have Q:d≠a:=fun e=>N_ (Fx.Ty.only (e ▸ hi.ty) b.ty) (by decide);have R:g≠a:=fun e=>N_ (Fx.Ty.only (e ▸ k.ty) b.ty) (by decide);have S:f≠a:=fun e=>N_ (Fx.Ty.only (e ▸ h.ty) b.ty) (by decide);refine Kent Tryz.func43 17 ?_;refine Ad [0,1,2,3,6,7,4,5,8,9,10,11,12,13,14] [0,0,0,4,1,1,0,0,2,0,0,2,0,0,2] (Fx.zH [37]) Fx.zH.refl Fx.zH.trans (fJ := [(8,3,[3]),(11,3,[3]),(14,3,[3]),(9,8,[8]),(10,8,[8]),(11,8,[8]),(12,8,[8]),(13,8,[8]),(14,8,[8]),(12,11,[11]),(13,11,[11]),(14,11,[11])]) (by kernel_rfl) (by kernel_rfl) (by kernel_rfl) (by kernel_rfl) (by kernel_rfl) fun I m L => ?_;have G:Stp w.heap.size w I:=Sb m;have⟨n,D,E,F⟩:=jW m b hi k h;have u:=(ng a w).then G (.inr (ng a w).size);refine aY (pt a)<|aY (pt a)<|aY (pt a)<|Rs (au i) (aM D.aH 0) ?_;refine aY (pt a)<|aY (pt a)<|Rd (v:=aC c) (by rfl) (by rfl) (Fx.zH.refl _) (fun H l=>bf (x:=fun _=>aC c) rfl rfl (by kernel_rfl) (E.om l (by decide)).aH (i:=0) (by omega) (by omega) rfl) ?_;refine Rd (v := .agg (aA 6 (rv .u64 (K)))) (by rfl) (by rfl) (Fx.zH.refl _) (fun H l=>eG (x:=rv .u64 (K)) (y:=rv .u64 (K)) rfl rfl (by kernel_rfl) (by kernel_rfl) (F.om l (by decide)).aH (i:=0) (by omega) (by omega) (fun j _=>by rw[H_])) ?_;refine zG<|ji n 0 (au i) fun T o q W => ?_;have z:=u.then q (by omega);refine Ln ⟨Fx.zH.Jy ((fP q n.ty).wide (by decide)),?_⟩;refine aY (pt a)<|aY (pf a 1)<|zG<|ji o 1 (aC c) fun U p r X => ?_;have A:=z.then r (by omega);refine Ln ⟨Fx.zH.Jy ((fP r o.ty).wide (by decide)),?_⟩;refine aY (pt a)<|aY (pf a 2)<|zG<|dM p 2 fun V C s Y => ?_;have B:=A.then s (by omega);refine Ln ⟨Fx.zH.Jy ((fP s p.ty).wide (by decide)),?_⟩;refine Rn (⟨.tuple #[],iT Tryz.results43,?_⟩);exact⟨rfl,C.congr (fun j J=>by rcases j with _|_|_|_|_|_|_|_|_|_|_|_|_|_|j <;> first|rfl|omega),B⟩
theorem agH(x:jC)(i d:Int)(K:Nat->Int)(w:World)(g:Nat)(k:Nat)(h:Nat)(hi:aQ w g 1 (fun _=>au i) 3)(m:aQ w k 1 (fun _=>aC d) 23)(l:aQ w h 6 (rv .u64 (K)) 35) :
 Calls Tryz.prog 42 #[.agg (aA 6 (kJ x)),.func (.func 43) #[] #[(pt g),(pt k),(pt h)]] w fun e w'=>e = .returned (.agg (aA 14 (bI ⟨i,d,K,x.kind,x.node,x.dst,x.aT,x.req,x.of⟩)))/\Below w.heap.size w w':=by
 have lgi:=hi.lt;have lgs:=m.lt;have lgk:=l.lt;refine Kent Tryz.func42 22 ?_;refine ay<|pO fun c w1 y n s1 z1 => ?_;have⟨C,E,F,r⟩:=jW s1.old hi m l (Below.refl w.heap.size w);have tC:=gN y;have⟨nK,Vh,zm⟩:=AZ y hi.lt m.lt l.lt;have uK:=n.lt;refine nS 14 zQ0 fun O w2 z p s2 z2 => ?_;have⟨G,H,I,b,s⟩:=nE s2.old C E F n r;have qX:=iK z r.size;have⟨abS,Px,Wd,L9⟩:=KM z C.lt E.lt F.lt n.lt;have zM:=p.lt;refine aD<|ay<|av (pt c)<|Lv (.int .u8 (x.kind)) (aM b.aH 0)<|av (pf c 1)<|Lv (aC x.node) (aM b.aH 1)<|av (pf c 2)<|Lv (au x.dst) (aM b.aH 2)<|av (pf c 3)<|Lv (au x.aT) (aM b.aH 3)<|av (pf c 4)<|Lv (aC x.req) (aM b.aH 4)<|av (pf c 5)<|Lv (aC x.of) (aM b.aH 5)<|av (.agg (aA 14 (bG (bG (bG (bG (bG (bG zQ0 8 1 (fun _ => .int .u8 (x.kind))) 9 1 (fun _=>aC x.node)) 10 1 (fun _=>au x.dst)) 11 1 (fun _=>au x.aT)) 12 1 (fun _=>aC x.req)) 13 1 (fun _=>aC x.of))))<|nS 14 zQ0 fun f w3 A o s3 z3 => ?_;have⟨R,S,T,U,t⟩:=nE s3.old G H I p s;have BF:=iK A s.size;have⟨Xn,Xo,afW,Xp,afX⟩:=Ag A G.lt H.lt I.lt b.lt p.lt;have GZ:=o.lt;refine dM o 0 (h1:=(bA (bA (bA (bA (bA (bA (fun Q _=>by show(zQ0 Q).oneCell'=true; simp only[zQ0]; repeat (first|rfl|split)) (fun _ _=>rfl)) (fun _ _=>rfl)) (fun _ _=>rfl)) (fun _ _=>rfl)) (fun _ _=>rfl)) (fun _ _=>rfl))) fun M V q z4 => ?_
 have W:aQ M f 14 (bG (bG (bG (bG (bG (bG zQ0 8 1 (fun _ => .int .u8 (x.kind))) 9 1 (fun _=>aC x.node)) 10 1 (fun _=>au x.dst)) 11 1 (fun _=>au x.aT)) 12 1 (fun _=>aC x.req)) 13 1 (fun _=>aC x.of)) 37:=aL V;have X:aQ M f 14 (bI ⟨0,0,fun _=>0,x.kind,x.node,x.dst,x.aT,x.req,x.of⟩) 37:=W.congr (fun j hj=>by rcases j with _|_|_|_|_|_|_|_|_|_|_|_|_|_|j <;> first|rfl|omega)
 have P:=fP q o.ty;have⟨Y,Z,aa⟩:=BO P R S T;have ab:=U.cu q (by omega);have u:=q.below t t.size (by omega);refine aD<|ay<|av (.func (.func 43) #[] #[(pt g),(pt k),(pt h)])<|Ac (by rfl) (Fx.BM (args := [(pt f)]) rfl rfl rfl (all := #[(pt f),(pt g),(pt k),(pt h)]) rfl Tryz.func43 rfl rfl) rfl<|(akv ⟨0,0,fun _=>0,x.kind,x.node,x.dst,x.aT,x.req,x.of⟩ i d K f _ X g k h Y Z aa).mono ?_;rintro e9 w5 ⟨B,D,J⟩;refine⟨_,B,?_⟩;clear B;have ac:=ab.cu J (by omega);have v:=J.below u u.size (by omega);refine aD<|ay<|Lv (.agg (aA 14 (bI ⟨i,d,K,x.kind,x.node,x.dst,x.aT,x.req,x.of⟩))) (fM D.aH 0)<|dM ac 0 (h1:=(dW _)) fun w6 ad L z5 => ?_;have ae:aQ w6 O 14 (bI ⟨i,d,K,x.kind,x.node,x.dst,x.aT,x.req,x.of⟩) 37:=aL ad;have nT:=D.cu L (by omega);have N:=L.below v v.size (by omega);refine aD (Wr (⟨.agg (aA 14 (bI ⟨i,d,K,x.kind,x.node,x.dst,x.aT,x.req,x.of⟩)),rV Tryz.results42 ⟨_,rfl,aS ae.aH (by kernel_rfl) (by kernel_rfl)⟩,?_⟩));exact⟨rfl,N⟩
namespace Rt
theorem GR{z y:Nat->Value}{a b:Int}(d : ∀ j,j<14->z j=y j)(c:a=b):Ending.returned (.tuple #[.agg (aA 14 z),au a])=Ending.returned (.tuple #[.agg (aA 14 y),au b]):=by rw[Fx.dS d,c]
noncomputable def iR(L:eF)(i:Int)(x:jC):Int:=if jy i=false then 10 else bD L (iL L.known i x)
open Classical in
noncomputable def gY(L:eF)(i:Int)(x:jC):EvM:=if iR L i x=0 then iL L.known i x else zeroE
theorem GU{L:eF}{i:Int}{x:jC}(h:jy i=false):iR L i x=10/\gY L i x=zeroE:=by
 have:iR L i x=10:=by unfold iR; rw[d_ h]
 refine⟨this,?_⟩;unfold gY;rw[b_ (by rw[this]; decide)]
theorem mD{L:eF}{i:Int}{x:jC}(h:jy i=true):iR L i x=bD L (iL L.known i x):=by unfold iR; rw[b_ (by rw[h]; decide)]
theorem X5{K:Nat->Int}{i:Int}{x:jC}(b:Es K)(hx:yA x)(hi:jy i=true):gI (iL K i x):=by
 obtain⟨a,c,f⟩:=eU hi;have g:=b a c;have e:(i-1).toNat=a:=by omega
 refine⟨⟨?_,?_⟩,⟨?_,?_⟩,fun j d => ?_,hx.kind,hx.node,hx.dst,hx.aT,hx.req,hx.of⟩
 ·show -9223372036854775808<=i; omega
 ·show i<=9223372036854775807; omega
 ·show 0<=K (i-1).toNat+1; rw[e]; omega
 ·show K (i-1).toNat+1<=18446744073709551615; rw[e]; omega
 have:=b j d; exact⟨by show 0<=K j; omega,by show K j<=_; omega⟩
end Rt
theorem aaR(b B N:Nat)(m:dP)(L:eF)(w:World)(h:xU w B b m L N)(hB:1<=B)(T:iU w 0 0 8 Ct)(i:Int)(x:jC)(hr:jy i=false) :
 Calls Tryz.prog 13 #[(pt b),au i,.agg (aA 6 (kJ x))] w fun e w'=>e = .returned (.tuple #[.agg (aA 14 (bI (gY L i x))),au (iR L i x)])/\Below w.heap.size w w':=by
 have l0:=T.lt (by omega);have lq:=h.q.lt;refine Kent Tryz.func13 39 ?_;refine ay<|yD (au i) fun g1 w1 P c s1 z1 => ?_;have⟨m2,k⟩:=fC s1.old h (Below.refl w.heap.size w);have tC:=gN P;have uK:=c.lt;refine pO fun g2 w2 t f s2 z2 => ?_;have⟨m4,G,l⟩:=iY s2.old m2 c k;have qX:=iK t k.size;have Ls:=cO t c.lt;have zM:=f.lt;refine nS 14 zQ0 fun Q w3 u H s3 z3 => ?_;have⟨m7,m8,m9,M⟩:=jW s3.old m4 G f l;have BF:=iK u l.size;have⟨Ww,Wy⟩:=rD u G.lt f.lt;have GZ:=H.lt;refine av (au 0)<|aD<|Ws<|ay<|av (pt b)<|Lv aF (Fx.lW rfl rfl rfl (by kernel_rfl))<|aD<|aK<|Wk<|sN<|ay<|av (pt b)<|dX (Qu m7) _ rfl ?_;intro w4 U;have⟨z,A,C,n⟩:=jW U m8 m9 H M;refine nS 6 (rv .u64 (fun _=>0)) fun R w5 v d s5 z4 => ?_;have⟨Z,aa,ab,o⟩:=jW s5.old z A C n;have NT:=iK v n.size;have⟨Ov,X6,X7⟩:=AZ v z.lt A.lt C.lt;have M9:=d.lt;refine dM d 0 fun w6 ac I z5 => ?_;have D:aQ w6 R 6 (rv .u64 ((L).known)) 35:=aL ac;have W:=fP I d.ty;have⟨E,m23,m24⟩:=BO W Z aa ab;have O:=I.below o o.size (by omega);refine aD<|ay<|Lv (.agg (aA 6 (rv .u64 ((L).known)))) (fM D.aH 0)<|Lv (au i) (aM E.aH 0)<|dX (aaP L.known i hr _) _ rfl ?_;intro w7 V;have⟨oN,pU,F,nX,p⟩:=nE V E m23 m24 D O;refine av (.tuple #[aC 0,au 10])<|av (aC 0)<|av (au 10)<|nS 1 (rv .u64 (fun _=>0)) fun S w8 y g s8 z6 => ?_;have⟨nL,r⟩:=fC s8.old F p;have lg5:=iK y p.size;have⟨agI,agJ,agK,agL⟩:=KM y oN.lt pU.lt F.lt nX.lt;have tg5:=g.lt;refine ji g 0 (aC 0) fun w9 nT J z7 => ?_;have qV:aQ w9 S 1 (fun _=>aC 0) 23:=dK nT;have X:=fP J g.ty;have mK:=jh X nL;have s:=J.below r r.size (by omega);refine av (au 10)<|aD<|Ws<|ay<|av (au 10)<|Lv aG (dZ rfl)<|aD<|aN<|ay<|av (.agg (aA 14 zQ0))<|av (au 10)<|dM mK 0 (h1:=(fun Y _=>by show(zQ0 Y).oneCell'=true; simp only[zQ0]; repeat (first|rfl|split))) fun su mR s10 z8 => ?_
 have qw:aQ su Q 14 zQ0 37:=aL mR;have K:=s10.below s s.size (by omega);refine av (au 10) (aD (Wr (sR (⟨.tuple #[.agg (aA 14 zQ0),au 10],fQ Tryz.results13 ⟨_,rfl,aS qw.aH (by kernel_rfl) (by kernel_rfl)⟩ (by exact rfl),?_⟩))));exact⟨by rw[(GU hr).1,(GU hr).2]; exact GR (fun j hj=>by rcases j with _|_|_|_|_|_|_|_|_|_|_|_|_|_|j <;> first|rfl|omega) rfl,K⟩
theorem aaS(f B N:Nat)(m:dP)(L:eF)(w:World)(h:xU w B f m L N)(hB:1<=B)(R:iU w 0 0 8 Ct)(i:Int)(x:jC)(hx:yA x)(a:Nat)(ha:a<6)(T:i=(a:Int)+1) :
 Calls Tryz.prog 13 #[(pt f),au i,.agg (aA 6 (kJ x))] w fun e w'=>e = .returned (.tuple #[.agg (aA 14 (bI (gY L i x))),au (iR L i x)])/\Below w.heap.size w w':=by
 have l0:=R.lt (by omega);have lq:=h.q.lt;have d:jy i=true:=by rw[T]; unfold jy; simp; omega
 have eia:(i-1).toNat=a:=by omega
 have hka:=h.i.kn a ha;refine Kent Tryz.func13 39 ?_;refine ay<|yD (au i) fun n w1 ku o s1 z1 => ?_;have⟨m2,z⟩:=fC s1.old h (Below.refl w.heap.size w);have tC:=gN ku;have uK:=o.lt;refine pO fun g2 w2 J r s2 z2 => ?_;have⟨m4,m5,E⟩:=iY s2.old m2 o z;have qX:=iK J z.size;have Ls:=cO J o.lt;have zM:=r.lt;refine nS 14 zQ0 fun Q w3 K m6 s3 z3 => ?_;have⟨m7,m8,m9,b3⟩:=jW s3.old m4 m5 r E;have BF:=iK K E.size;have⟨Ww,Wy⟩:=rD K m5.lt r.lt;have GZ:=m6.lt;refine av (au 0)<|aD<|Ws<|ay<|av (pt f)<|Lv aF (Fx.lW rfl rfl rfl (by kernel_rfl))<|aD<|aK<|Wk<|sN<|ay<|av (pt f)<|dX (Qu m7) _ rfl ?_;intro w4 hb1;have⟨m10,U,V,W,F⟩:=nE hb1 m7 m8 m9 m6 b3;refine nS 6 (rv .u64 (fun _=>0)) fun k w5 M p s5 z4 => ?_;have⟨m15,m16,m17,m18,G⟩:=nE s5.old m10 U V W F;have NT:=iK M F.size;have⟨Ov,X6,X7⟩:=AZ M U.lt V.lt W.lt;have M9:=p.lt;refine dM p 0 fun w6 m19 s6 z5 => ?_;have X:aQ w6 k 6 (rv .u64 ((L).known)) 35:=aL m19;have gF:=fP s6 p.ty;have⟨m21,Y,m23,m24⟩:=Em gF m15 m16 m17 m18;have b6:=s6.below G G.size (by omega);refine aD<|ay<|Lv (.agg (aA 6 (rv .u64 ((L).known)))) (fM X.aH 0)<|Lv (au i) (aM Y.aH 0)<|dX (aaQ L.known i a ha T h.i.kn _) _ rfl ?_;intro w7 hb2;have⟨nW,Z,aa,ab,ac,H⟩:=rz hb2 m21 Y m23 m24 X b6;refine av (.tuple #[aC (L.known a+1),au 0])<|av (aC (L.known a+1))<|av (au 0)<|nS 1 (rv .u64 (fun _=>0)) fun l w8 O s s8 z6 => ?_;have⟨lu,m32,oQ,nL,oO,I⟩:=rz s8.old nW Z aa ab ac H;have lg5:=iK O H.size;have⟨agI,agJ,agK,agL⟩:=KM O Z.lt aa.lt ab.lt ac.lt;have tg5:=s.lt;refine ji s 0 (aC (L.known a+1)) fun w9 nT s9 z7 => ?_;have ad:aQ w9 l 1 (fun _=>aC (L.known a+1)) 23:=dK nT;have jT:=fP s9 s.ty;have⟨qB,ae,af,mK,ag⟩:=qA jT lu m32 oQ nL oO;have b9:=s9.below I I.size (by omega);refine av (au 0)<|aD<|Ws<|ay<|av (au 0)<|Lv aF (iX rfl rfl rfl (by decide))<|aD<|aK<|Wk<|sN<|ay<|Lv (.agg (aA 6 (kJ x))) (fM af.aH 0)<|Lv (.func (.func 43) #[] #[(pt n),(pt l),(pt k)]) (Fx.mG (us := []) (vs := [(pt n),(pt l),(pt k)]) rfl rfl rfl)<|kF (agH x i (L.known a+1) L.known _ n l k ae ad ag) ?_;rintro e9 su ⟨S,hb3⟩;refine⟨.agg (aA 14 (bI (iL L.known i x))),by rw[S]; unfold iL; rw[eia],?_⟩;clear S;have⟨mR,qw,qW,ah,sK,vE,A⟩:=jJ hb3 qB ae af mK ag ad b9;refine nS 14 zQ0 fun g6 Ah P t s11 z8 => ?_;have⟨rQ,ug,C⟩:=iY s11.old mR ah A;have lg6:=iK P A.size;have⟨asv,asw,asx,asy,asz⟩:=Ag P qw.lt qW.lt ah.lt sK.lt vE.lt;have tg6:=t.lt;refine dM t 0 (h1:=(dW _)) fun BZ uh y z9 => ?_;have rR:aQ BZ g6 14 (bI (iL L.known i x)) 37:=aL uh;have oq:=fP y t.ty;have sw:=jh oq rQ;have uj:=ug.cu y (by omega);have D:=y.below C C.size (by omega);refine aD<|Ws<|ay<|av (pt f)<|Lv (.agg (aA 14 (bI (iL L.known i x)))) (fM rR.aH 0)<|dX (aax (v:=(iL L.known i x)) sw (X5 h.i.kn hx d) hB (R.below D l0) (fun _ _=>rfl)) _ rfl ?_;intro FK hb4;have⟨vF,u,g⟩:=iY hb4 uj rR D;refine av (au (bD L (iL L.known i x)))<|aD<|ay<|av (au (bD L (iL L.known i x))) ?_;by_cases c:(bD L (iL L.known i x))=0
 ·refine Lv aF (jR c)<|aD<|aK<|Wk<|sN<|ay<|Lv (.agg (aA 14 (bI (iL L.known i x)))) (fM u.aH 0)<|dM vF 0 (h1:=(dW _)) fun K6 uN Ba YP => ?_;have vH:aQ K6 Q 14 (bI (iL L.known i x)) 37:=aL uN;have yM:=u.cu Ba (by omega);have b14:=Ba.below g g.size (by omega);refine av (au 0) (aD (Wr (⟨.tuple #[.agg (aA 14 (bI (iL L.known i x))),au 0],fQ Tryz.results13 ⟨_,rfl,aS vH.aH (by kernel_rfl) (by kernel_rfl)⟩ (by exact rfl),?_⟩)));exact⟨by rw[mD d,show gY L i x=iL L.known i x by unfold gY; rw[d_ (by rw[mD d]; exact c),]]; exact GR (fun _ _=>rfl) c.symm,b14⟩
 refine Lv aG (kY c)<|aD<|aN<|ay<|av (.agg (aA 14 zQ0))<|av (au (bD L (iL L.known i x)))<|dM vF 0 (h1:=(fun jq _=>by show(zQ0 jq).oneCell'=true; simp only[zQ0]; repeat (first|rfl|split))) fun JE wK s15 z11 => ?_
 have vV:aQ JE Q 14 zQ0 37:=aL wK;have zL:=u.cu s15 (by omega);have b15:=s15.below g g.size (by omega);refine av (au (bD L (iL L.known i x))) (aD (Wr (sR (⟨.tuple #[.agg (aA 14 zQ0),au (bD L (iL L.known i x))],fQ Tryz.results13 ⟨_,rfl,aS vV.aH (by kernel_rfl) (by kernel_rfl)⟩ (by exact rfl),?_⟩))));exact⟨by rw[mD d,show gY L i x=zeroE by unfold gY; rw[b_ (by rw[mD d]; exact c)]]; exact GR (fun j hj=>by rcases j with _|_|_|_|_|_|_|_|_|_|_|_|_|_|j <;> first|rfl|omega) rfl,b15⟩
theorem agM{b B N:Nat}{m:dP}{L:eF}{w:World}(h:xU w B b m L N)(c:1<=B)(d:iU w 0 0 8 Ct)(i:Int){x:jC}(hx:yA x){y:Nat->Value}(hy : ∀ j,j<6->y j=kJ x j) :
 Calls Tryz.prog 13 #[(pt b),au i,.agg (aA 6 y)] w fun e k=>e = .returned (.tuple #[.agg (aA 14 (bI (gY L i x))),au (iR L i x)])/\Below w.heap.size w k:=by
 rw[Fx.dS hy]
 cases hr:jy i with
 | false=>exact aaR b B N m L w h c d i x hr
 | true =>
   obtain⟨a,g,f⟩:=eU hr;exact aaS b B N m L w h c d i x hx a g f
namespace Rt
theorem X8(L:eF)(x i:Int):0<=jd L x i:=by
 unfold jd fU;split
 ·exact O_ 0
 split
 ·rename_i c;rw[T_]at c;obtain⟨a,b,e,d⟩:=qx c.1;rw[d,vX (lY c.2) a b];exact(((jO _).1 c.2).2.1 a b).1
 exact O_ 0
end Rt
section
namespace Rt
def Ab.gs(A:Ab)(y:Int):Int:=A.R y 0+A.R y 1+A.R y 2+A.R y 3+A.R y 4+A.R y 5
def Hq(v:EvM)(y:Int):Int:=if v.kind=1/\rW v=y\/v.kind=2/\v.node=y then v.aT else 0
def aaT(ev:Nat->EvM)(K:Nat->Int)(y:Int):Nat->Int
 | 0=>0
 | j+1=>aaT ev K y j+if wF K (ev j)=true then Hq (ev j) y else 0
section
variable {A:Ab} {ev gv:Nat->EvM} {an n k i j:Nat} {K:Nat->Int} {L:eF} {v:EvM} {y x:Int} {m:dP} {N:Nat}
theorem Ab.agN(l:Nc v):(A.qM v).gs y=A.gs y+Hq v y:=by
 have o:=l.reg.2;have e : ∀ p,(A.qM v).R y p=A.R y p+A.dl v y p:=fun _=>rfl;unfold Ab.gs;rw[e,e,e,e,e,e];have s:A.dl v y 0+A.dl v y 1+A.dl v y 2+A.dl v y 3+A.dl v y 4+A.dl v y 5=Hq v y:=by
  have n:(∀ p,p<6->A.dl v y p=0)->Hq v y=0->A.dl v y 0+A.dl v y 1+A.dl v y 2+A.dl v y 3+A.dl v y 4+A.dl v y 5=Hq v y:=fun h d=>by
   rw[d,h 0 (by decide),h 1 (by decide),h 2 (by decide),h 3 (by decide),h 4 (by decide),h 5 (by decide)]; rfl
  have k : ∀ {z:Int},(∀ p,A.dl v y p=if y=z/\p=aV v then v.aT else 0)->Hq v y=(if z=y then v.aT else 0)->A.dl v y 0+A.dl v y 1+A.dl v y 2+A.dl v y 3+A.dl v y 4+A.dl v y 5=Hq v y:=fun {z} h d=>by
   by_cases c:y=z
   ·rw[d,h,h,h,h,h,h,d_ c.symm]
    rcases(show aV v=0\/aV v=1\/aV v=2\/aV v=3\/aV v=4\/aV v=5 by omega)with q|q|q|q|q|q <;> rw[q] <;> simp[c]
   ·have a : ∀ p,A.dl v y p=0:=fun p=>by rw[h,b_ fun q=>c q.1]
    rw[d,a,a,a,a,a,a,b_ (show ¬ z=y from fun q=>c q.symm)]; rfl
  unfold Ab.dl at *;by_cases b:v.kind=1
  ·refine k (z:=rW v) (fun p=>by rw[d_ b]) ?_;unfold Hq;by_cases c:rW v=y
   ·rw[d_ (.inl ⟨b,c⟩),d_ c]
   ·rw[b_ (fun q=>q.elim (fun q=>c q.2) (fun q=>by omega)),b_ c]
  by_cases f:v.kind=2
  ·refine k (z:=v.node) (fun p=>by rw[b_ b,d_ f]) ?_;unfold Hq;by_cases c:v.node=y
   ·rw[d_ (.inr ⟨f,c⟩),d_ c]
   ·rw[b_ (fun q=>q.elim (fun q=>b q.1) (fun q=>c q.2)),b_ c]
  have m:Hq v y=0:=b_ (fun q=>q.elim (fun q=>b q.1) (fun q=>f q.1));refine n (fun p r => ?_) m;rw[b_ b,b_ f];by_cases g:v.kind=3
  ·rw[d_ g,b_ (fun q=>by omega)]
  rw[b_ g];by_cases i:v.kind=4
  ·rw[d_ i,b_ (fun q=>by omega)]
  rw[b_ i];by_cases j:v.kind=5
  ·rw[d_ j,b_ (fun q=>by omega)]
  rw[b_ j]
 omega
theorem aaU(b : ∀ i,i<n->Nc (ev i)):(fK ev K (Sn k) n).gs y=aaT ev K y n:=by
 induction n with
 | zero=>rfl
 | succ n a =>
   have a:=a fun i c=>b i (by omega);show(if wF K (ev n)=true then(fK ev K (Sn k) n).qM (ev n)else fK ev K (Sn k) n).gs y=aaT ev K y n+_;split
   ·rw[Ab.agN (b n (by omega)),a]
   ·rw[a,E_]
theorem DJ.row(h:DJ m L N)(hi:i<L.nn):aW m (L.id i)=L.R i:=by
 unfold aW;rw[d_ ((h.s.T.has _).2 ⟨i,hi,rfl⟩),h.s.row i hi]
theorem wH.gs(h:wH k ev an L)(W:Ws k ev an)(hi:i<L.nn):tL (L.R i)=aaT ev L.known (L.id i) an:=by
 obtain⟨m,N,a,c,b⟩:=h.ex;rw[<- aaU (k:=k) (K:=L.known) (y:=L.id i) W.g,<- b,<- a.row hi];rfl
theorem wH.small(h:wH k ev an L)(W:Ws k ev an){q:Nat}(d:q<L.gn):1<=L.g q 3/\L.g q 3<=65536:=by
 obtain⟨m,N,c,e⟩:=h.tw W;obtain⟨a,b⟩:=c.t.s.aaN d;have:=c.s.g _ _ a;rw[b 3 (by decide) (by decide)]at this;exact this
end
end Rt
end
theorem Rt.Sq(t:Nat->Nat->Int)(tn:Nat)(x:Int):bO t tn x<=1000:=EU _ _
end Go.Proofs.YtcbedgfikejkoaaGreatDoor
namespace Go.Proofs.YtcbedgfikejkoaaGreatDoor
open Go.RowKit Go
namespace Rt
def qK(i r:Int)(x:Nat->Int):Bool:=decide (x 0=i)&&(decide (x 1=r) || decide (x 4=r))
def yJ(L:eF)(i r:Int):Int:=gV (fun q=>qK i r (L.g q)) L.gn
def yB(x:jC)(g:Nat->Int):Bool:=decide (x.kind=3)&&(decide (g 1=x.req)&&(decide (g 2=x.node)&&decide (g 3=x.aT)))
def vB(x:jC)(g:Nat->Int):Bool:=decide (x.kind=4)&&(decide (g 4=x.req)&&decide (g 1=x.of))
def Yw(x:jC):Bool := !decide (x.req=0)&&(decide (x.kind=3) || decide (x.kind=4))
def fq(L:eF)(i:Int)(x:jC):Bool:=Yw x&&decide (0<=yJ L i x.req)
def jV(L:eF)(i:Int)(x:jC):Int:=if fq L i x=true then(if(yB x (L.g (yJ L i x.req).toNat) || vB x (L.g (yJ L i x.req).toNat))=true then 0 else 14)else 0
theorem zx{i r:Int}{x:Nat->Int}:qK i r x=true<->x 0=i/\(x 1=r\/x 4=r):=by
 unfold qK;rw[T_,Bool.or_eq_true,Q_,Q_,Q_]
structure BG(L:eF)(i:Int):Prop where
 a : ∀ q,q<L.gn -> ∀ r,r≠0->qK i r (L.g q)=true -> ∃ j,j<L.rn (i-1).toNat/\L.rq (i-1).toNat j=r
 u : ∀ r,r≠0 -> ∀ q p,q<L.gn->p<L.gn->qK i r (L.g q)=true->qK i r (L.g p)=true->q=p
def QE(y:jC)(i:Int)(g:Nat->Int):Prop:=g 0=i/\((y.kind=3/\g 1=y.req/\g 2=y.node/\g 3=y.aT)\/(y.kind=4/\g 4=y.req/\g 1=y.of))
def mZ(L:eF)(i:Int)(y:jC):Prop:=y.req≠0 /\ ∃ q,q<L.gn/\QE y i (L.g q)
theorem MQ{y:jC}{i:Int}{g:Nat->Int}(h:QE y i g):qK i y.req g=true:=by
 rw[zx];obtain⟨b,⟨_,a,_⟩|⟨_,a,_⟩⟩:=h
 ·exact⟨b,.inl a⟩
 exact⟨b,.inr a⟩
section
variable {L:eF} {N:Nat} {v:EvM} {i:Int} {y z:jC}
theorem BG.new(k:Nat):BG (jL k 0).core i:=⟨fun _ h=>N_ h (z_ _),fun _ _ _ _ h=>N_ h (z_ _)⟩
theorem GV(h:BG L i)(d:mZ L i y) : ∃ q:Nat,yJ L i y.req=(q:Int)/\QE y i (L.g q):=by
 obtain⟨c,q,b,a⟩:=d;unfold yJ
 rcases gu (fun q=>qK i y.req (L.g q)) L.gn with ⟨k,f,e,j⟩|⟨_,hn⟩
 ·have:=h.u _ c k q f b j (MQ a);subst this;exact⟨k,e,a⟩
 have:=hn q b;rw[MQ a]at this; cases this
theorem QF(b:mZ L i y):Yw y=true:=by
 obtain⟨a,q,_,_,c⟩:=b;unfold Yw;rw[g_ a]
 rcases c with ⟨e,_⟩|⟨e,_⟩
 ·rw[f_ e]; rfl
 rw[f_ e,Bool.or_true]; rfl
theorem GX(h:BG L i)(f:mZ L i y):fq L i y=true/\jV L i y=0:=by
 obtain⟨q,e,g⟩:=GV h f;have d:fq L i y=true:=by
  unfold fq;rw[QF f,e,f_ (by omega:(0:Int)<=(q:Int))]; rfl
 refine⟨d,?_⟩;unfold jV;rw[d_ d,e,d_];rw[Int.toNat_natCast];obtain⟨_,⟨a,b,c,j⟩|⟨a,b,c⟩⟩:=g
 ·unfold yB;rw[f_ a,f_ b,f_ c,f_ j]; rfl
 unfold vB;rw[f_ a,f_ b,f_ c,Bool.or_eq_true]; exact .inr rfl
attribute [local irreducible] bO dz
theorem MR(h:BG L i)(G:v.o=i)(hr:1<=v.req)(A:iP L v=0):BG (gJ L v) i/\(∀ w,mZ L i w->mZ (gJ L v) i w) /\ ∃ q,q<(gJ L v).gn/\(gJ L v).g q=oI v:=by
 unfold iP at A;split at A
 ·cases A
 rename_i c1;have z:aP v=(i-1).toNat:=by unfold aP; rw[G]
 obtain⟨H,I⟩:=Cu (L:=L) (a:=aP v) (r:=v.req) (gJ L v) rfl rfl;have D : ∀ j,j<L.gn -> ¬ qK i v.req (L.g j)=true:=fun j m e=>c1 (by
  obtain⟨q,f,d⟩:=h.a j m v.req (by omega) e;unfold eF.kg;rw[wE,z];exact⟨q,f,f_ d⟩)
 obtain⟨k,C⟩ : ∃ k,k=Fx.down (fun i=>CG v (L.g i)) L.gn:=⟨_,rfl⟩;have y:k<=L.gn:=by rw[C]; exact Fx.rZ _ _
 have t:(gJ L v).g=Fx.cK L.g k (oI v):=by rw[C]; rfl
 have x:(gJ L v).gn=L.gn+1:=rfl;have B : ∀ r,r≠0->qK i r (oI v)=true->r=v.req:=fun r b e=>by
  obtain⟨_,e|e⟩:=zx.1 e
  ·exact e.symm
  ·exact N_ e.symm b
 refine⟨⟨fun q f r b e => ?_,fun r b q p f s n d => ?_⟩,fun w ⟨b,q,f,F⟩=>⟨b,?_⟩,k,by rw[x]; omega,by rw[t,dw]⟩
 ·rw[x]at f;rw[t]at e;rw[<- z]
  rcases dD y f with rfl|⟨j,m,ej,_,_⟩
  ·rw[dw]at e; rw[B r b e]; exact I
  rw[ej]at e;obtain hx:=h.a j m r b e;rw[<- z]at hx;exact H _ _ hx
 ·rw[x]at f s;rw[t]at n d
  rcases dD y f with rfl|⟨j,m,ej,j1,j2⟩
  ·rw[dw]at n
   rcases dD y s with rfl|⟨j,m,ej,j1,j2⟩
   ·rfl
   rw[ej,B r b n]at d; exact N_ d (D j m)
  rw[ej]at n
  rcases dD y s with rfl|⟨l,hl,el,l1,l2⟩
  ·rw[dw]at d; rw[B r b d]at n; exact N_ n (D j m)
  rw[el]at d;have:=h.u r b j l m hl n d;subst this;by_cases c:j<k
  ·rw[j1 c,l1 c]
  rw[j2 (by omega),l2 (by omega)]
 obtain⟨p,s,_,E⟩:=zi (k:=k) f;exact⟨p,by rw[x]; exact s,by rw[t,E]; exact F⟩
theorem MS(h:BG L i)(G:v.o=i)(hr:1<=v.req)(s:gW L v=0):BG (eY L v) i/\(∀ w,mZ L i w->mZ (eY L v) i w) /\ ∃ q,q<(eY L v).gn/\(eY L v).g q 0=i/\(eY L v).g q 4=v.req/\(eY L v).g q 1=v.of:=by
 unfold gW at s;split at s
 ·cases s
 rename_i c1;split at s
 ·cases s
 rename_i c2;have y:aP v=(i-1).toNat:=by unfold aP; rw[G]
 obtain⟨P,Q⟩:=Cu (L:=L) (a:=aP v) (r:=v.req) (eY L v) rfl rfl;have F : ∀ j,j<L.gn -> ¬ qK i v.req (L.g j)=true:=fun j K e=>c1 (by
  obtain⟨q,m,f⟩:=h.a j K v.req (by omega) e;unfold eF.kg;rw[wE,y];exact⟨q,m,f_ f⟩)
 have A : ¬ L.grant v.o v.of<0:=fun e=>c2 (.inl e);have B:L.g (wN L v) 4=0:=Classical.byContradiction fun e=>c2 (.inr e);obtain⟨k,M,E,N,O⟩ : ∃ k,k<L.gn/\wN L v=k/\L.g k 0=v.o/\L.g k 1=v.of:=by
  unfold wN
  rcases gu (fun i=>decide (L.g i 0=v.o)&&decide (L.g i 1=v.of)) L.gn with ⟨k,t,e,l⟩|⟨e,_⟩
  ·rw[T_,Q_,Q_]at l;exact⟨k,t,by unfold eF.grant; rw[e]; rfl,l.1,l.2⟩
  ·unfold eF.grant at A; rw[e]at A; omega
 rw[E]at B;have D : ∀ q,(eY L v).g q=if q=k then aI (L.g k) 4 v.req else L.g q:=fun q=>by rw[<- E]; rfl
 have n : ∀ q p,p≠4->(eY L v).g q p=L.g q p:=fun q p l=>by
  rw[D];by_cases c:q=k
  ·subst c; rw[d_ rfl]; unfold aI; rw[b_ l]
  ·rw[b_ c]
 have z : ∀ q,(eY L v).g q 4=if q=k then v.req else L.g q 4:=fun q=>by
  rw[D];by_cases c:q=k
  ·rw[d_ c,d_ c]; rfl
  ·rw[b_ c,b_ c]
 have R:(eY L v).gn=L.gn:=rfl;have x : ∀ r,r≠0 -> ∀ q,qK i r ((eY L v).g q)=true->qK i r (L.g q)=true\/q=k/\r=v.req:=fun r d q e=>by
  rw[zx]at e ⊢;rw[n q 0 (by decide),n q 1 (by decide),z q]at e;obtain⟨C,b|b⟩:=e
  ·exact .inl ⟨C,.inl b⟩
  ·by_cases c:q=k
   ·rw[d_ c]at b; exact .inr ⟨c,b.symm⟩
   ·rw[b_ c]at b; exact .inl ⟨C,.inr b⟩
 refine⟨⟨fun q m r d e => ?_,fun r d q p m l b f => ?_⟩,fun w ⟨d,q,m,J⟩=>⟨d,q,m,?_⟩,k,M,by rw[n k 0 (by decide),N,G],by rw[z,d_ rfl],by rw[n k 1 (by decide),O]⟩
 ·rw[<- y]
  rcases x r d q e with e|⟨_,rfl⟩
  ·have H:=h.a q m r d e;rw[<- y]at H;exact P _ _ H
  exact Q
 ·rcases x r d q b with b|⟨rfl,rfl⟩
  ·rcases x r d p f with f|⟨rfl,rfl⟩
   ·exact h.u r d q p m l b f
   exact N_ b (F q m)
  rcases x _ d p f with f|⟨rfl,_⟩
  ·exact N_ f (F p l)
  rfl
 obtain⟨I,t⟩:=J;refine⟨by rw[n q 0 (by decide)]; exact I,?_⟩;rw[n q 1 (by decide),n q 2 (by decide),n q 3 (by decide),z q]
 rcases t with t|⟨k2,k3,k4⟩
 ·exact .inl t
 refine .inr ⟨k2,?_,k4⟩;rw[b_]
 ·exact k3
 rintro rfl;exact d (k3.symm.trans B)
theorem xX(c:bD L v=0):bR v=true/\dQ L v=0:=by
 have a:=(EA (iA c)).1;refine⟨a,?_⟩;unfold bD at c;rw[b_ (by rw[a]; decide)]at c;split at c; · cases c
 split at c; · cases c
 split at c; · cases c
 exact c
theorem OL(h:bR v=true):dH v=true:=by
 unfold bR at h;rw[T_]at h;exact h.2
theorem Kt(h:bR v=true)(a:v.kind=3\/v.kind=4):1<=v.req:=by
 have:=OL h;unfold dH at this
 rcases a with k|k
 ·rw[k,b_ (by decide),b_ (by decide),d_ rfl,T_]at this;exact h_ this.2
 rw[k,b_ (by decide),b_ (by decide),b_ (by decide),d_ rfl,T_,T_]at this;exact h_ this.1.1
theorem Cx(h:BG L i)(l:v.o=i):BG (bP L v) i/\(∀ w,mZ L i w->mZ (bP L v) i w):=by
 unfold bP;by_cases c:bD L v=0
 ·rw[d_ c];obtain⟨k,e⟩:=xX c;have f:BG (fT L v) i/\(∀ w,mZ L i w->mZ (fT L v) i w):=by
   unfold dQ at e;unfold fT;by_cases m:v.kind=1
   ·rw[d_ m]; exact⟨⟨h.a,h.u⟩,fun w d=>d⟩
   rw[b_ m]at e ⊢;by_cases n:v.kind=2
   ·rw[d_ n]; exact⟨⟨h.a,h.u⟩,fun w d=>d⟩
   rw[b_ n]at e ⊢;by_cases g:v.kind=3
   ·rw[d_ g]at e ⊢;obtain⟨a,b,_⟩:=MR h l (Kt k (.inl g)) e;exact⟨a,b⟩
   rw[b_ g]at e ⊢;by_cases j:v.kind=4
   ·rw[d_ j]at e ⊢;obtain⟨a,b,_⟩:=MS h l (Kt k (.inr j)) e;exact⟨a,b⟩
   rw[b_ j];split
   ·exact⟨⟨h.a,h.u⟩,fun w d=>d⟩
   split <;> exact⟨⟨h.a,h.u⟩,fun w d=>d⟩
  exact⟨⟨f.1.a,f.1.u⟩,fun w d=>f.2 w d⟩
 rw[b_ c]; exact⟨h,fun w d=>d⟩
theorem GY(h:BG L i)(c:bD L v=0)(d:v.o=i)(l:y.kind=3\/y.kind=4)(b:v.kind=y.kind)(n:v.node=y.node)(p:v.aT=y.aT)(j:v.req=y.req)(r:v.of=y.of):mZ (bP L v) i y:=by
 unfold bP;rw[d_ c];obtain⟨s,a⟩:=xX c;have m:=Kt s (by rw[b]; exact l);refine⟨by omega,?_⟩;show ∃ q,q<(fT L v).gn/\QE y i ((fT L v).g q);unfold dQ at a;unfold fT
 rcases l with k3|k4
 ·have k:v.kind=3:=b.trans k3;rw[b_ (by rw[k]; decide),b_ (by rw[k]; decide),d_ k]at a ⊢;obtain⟨_,_,q,f,e⟩:=MR h d m a;exact⟨q,f,by rw[e]; exact⟨d,.inl ⟨k3,j,n,p⟩⟩⟩
 have k:v.kind=4:=b.trans k4;rw[b_ (by rw[k]; decide),b_ (by rw[k]; decide),b_ (by rw[k]; decide),d_ k]at a ⊢;obtain⟨_,_,q,f,t,w,u⟩:=MS h d m a;exact⟨q,f,t,.inr ⟨k4,w.trans j,u.trans r⟩⟩
end
end Rt
end Go.Proofs.YtcbedgfikejkoaaGreatDoor
namespace Go.Proofs.YtcbedgfikejkoaaGreatDoor
open Go.RowKit Rt
open Fx (eG Lv sN Ln Ws Wl Wr Sb Wk sR Rs Rd Wb Wx Wo Ac fP uf A9 Ad aA aQ bG ev cK aL flat aS iU down jI nV bA qR bL bU cZ dh gZ iH qm fQ)
section
namespace Rt
def KO(L:eF):Prop := ∀ q,6<=q->L.known q=0
def G5(L:eF):Prop := ∀ q,q<L.gn -> ∀ p,5<=p->L.g q p=0
structure GK(L:eF):Prop where
 g:yI L
 k:KO L
 r:G5 L
structure WG(M:WM):Prop where
 g : ∀ o,o<M.n->GK (M.ml o).core
section
variable {ev:Nat->EvM} {K:Nat->Int} {an k i c N N':Nat} {L L':eF} {v:EvM} {m:dP}
attribute [local irreducible] bO dz in
theorem KO.apply(h:KO L):KO (bP L v):=by
 rcases oJ L v with ⟨c,e⟩|⟨_,e⟩
 ·intro q a;have:=mh (EA (iA c)).1;rw[e]; unfold aI; rw[b_ (by omega)]; exact h q a
 rw[e]; exact h
attribute [local irreducible] bO dz in
theorem G5.apply(h:G5 L):G5 (bP L v):=by
 unfold bP;split
 ·show ∀ q,q<(fT L v).gn -> ∀ p,5<=p->(fT L v).g q p=0;unfold fT;split; · exact h
  split; · exact h
  split
  ·intro q a p b;have a:q<L.gn+1:=a;show cK L.g (down (fun i=>CG v (L.g i)) L.gn) (oI v) q p=0;have c:down (fun i=>CG v (L.g i)) L.gn<=L.gn:=Fx.rZ _ _;generalize down (fun i=>CG v (L.g i)) L.gn=k at c ⊢
   rcases dD c a with rfl|⟨j,hj,ej,_,_⟩
   ·rw[dw]; unfold oI; rw[b_ (by omega),b_ (by omega),b_ (by omega),b_ (by omega)]
   rw[ej]; exact h j hj p b
  split
  ·intro q a p b;have a:q<L.gn:=a;show aI L.g (wN L v) (aI (L.g (wN L v)) 4 v.req) q p=0;generalize wN L v=k;unfold aI;by_cases e:q=k
   ·rw[d_ e];show(if p=4 then v.req else L.g k p)=0;rw[b_ (by omega),<- e]; exact h q a p b
   rw[b_ e]; exact h q a p b
  split; · exact h
  split <;> exact h
 exact h
theorem KO.eq(h:KO L)(a:KO L')(e : ∀ q,q<6->L'.known q=L.known q):L'.known=L.known:=by
 funext q
 by_cases c:q<6
 ·exact e q c
 rw[h q (by omega),a q (by omega)]
theorem GK.apply(h:GK L)(a:gI v):GK (bP L v):=⟨Gv h.g a,h.k.apply,h.r.apply⟩
theorem agO(k a:Nat):GK (jL k a).core:=⟨Mx k a,fun _ _=>rfl,fun q h=>N_ h (z_ _)⟩
theorem Fg(a : ∀ j,j<an->gI (ev j))(h:GK L) : ∀ j,j<=an->GK (nQ ev K L j)
 | 0,_=>h
 | j+1,hj=>by
   unfold nQ;split
   ·exact(Fg a h j (by omega)).apply (a j (by omega))
   ·exact Fg a h j (by omega)
theorem MU(a : ∀ j,j<an->gI (ev j)) : ∀ f L,GK L->GK (iG ev an K f L)
 | 0,L,h=>by unfold Rt.iG; exact h
 | f+1,L,h=>by
   unfold Rt.iG;split
   ·exact Fg a h an (A_ _)
   ·exact MU a f _ (Fg a h an (A_ _))
theorem WG.new{M:WM}(h : ∀ i,(M.ml i).core=(jL M.n 0).core):WG M:=⟨fun o _=>by rw[h]; exact agO _ _⟩
theorem WG.do{w':World}{M d:WM}{B p T o:Nat}{x:Gy}(h:WG M)(l:oL w' B p d T)(i:o<M.n)(b:DoR o x M d v):WG d:=⟨fun q k=>by
 rw[b.n]at k
 rcases b.c with ⟨m,r,f,a⟩|⟨m,r,f,a,h5,h6,h7,h8⟩
 ·by_cases e:q=o
  ·rw[e]
   rcases a with a|⟨_,a⟩
   ·rw[a]; exact h.g o i
   ·rw[a]; exact MU (fun j s=>by have:=l.wf j (by omega); rw[f]at this; exact this) _ _ (h.g o i)
  ·rw[b.oth q e]; exact h.g q k
 ·by_cases e:q=o
  ·rw[e,h5];exact(h.g o i).apply (by have:=l.wf M.an (by omega); rw[f,vw]at this; exact this)
  ·rw[b.oth q e]; exact h.g q k⟩
theorem QG{f g:Nat->Int}{o:Int} : ∀ {n:Nat},(∀ i,i<n->f i=g i)->mX f o n=mX g o n
 | 0,_=>rfl
 | n+1,h=>by unfold mX; rw[QG (n:=n) fun i a=>h i (by omega),h n (by omega)]
theorem gy.to(h:gy m L)(b:Jh L L')(z:L'.known=L.known)(ha : ∀(a:Nat) (r:Int),a<6->((∃ j,j<L'.rn a/\L'.rq a j=r) <-> ∃ j,j<L.rn a/\L.rq a j=r))(r:G5 L)(A:G5 L'):gy m L':=by
 have o : ∀ {i},i<L'.nn->i<L.nn:=fun {i} q=>by rw[<- b.nn]; exact q
 have s : ∀ {i},i<L'.gn->i<L.gn:=fun {i} q=>by rw[<- b.gn]; exact q
 have t : ∀ q,q<L.gn->L'.g q=L.g q:=fun q l=>by
  funext p
  by_cases c:p<5
  ·exact b.g q l p c
  ·rw[r q l p (by omega),A q (by rw[b.gn]; exact l) p (by omega)]
 refine⟨⟨fun k=>(h.T.has k).trans ⟨fun⟨i,d,e⟩=>⟨i,by rw[b.nn]; exact d,by rw[(b.n i d).1]; exact e⟩,fun⟨i,d,e⟩=>⟨i,o d,by rw[<- (b.n i (o d)).1]; exact e⟩⟩,by rw[b.nn]; exact h.T.n,fun i d=>by rw[(b.n i (o d)).1,(b.n i (o d)).2.1]; exact h.T.par i (o d)⟩,
  by rw[b.inn]; exact h.inn,by rw[b.left]; exact h.left,by rw[z]; exact h.known,fun i d=>by rw[(b.n i (o d)).1,(b.n i (o d)).2.2]; exact h.row i (o d),fun a ha=>by rw[b.nn,QG (f:=L'.id) (g:=L.id) fun i d=>(b.n i d).1]; exact h.own a ha,
  h.gi,by rw[b.gn]; exact h.gn,fun q l=>by rw[t q (s l)]; exact h.g1 q (s l),fun j y => ?_,fun a r w=>(h.ask a r w).trans (ha a r w).symm,h.ga,fun p q x l u v => ?_⟩
 ·obtain⟨q,l,e⟩:=h.g2 j y;exact⟨q,by rw[b.gn]; exact l,by rw[t q l]; exact e⟩
 rw[t p (s x),t q (s l)]at u v;exact h.li p q (s x) (s l) u v
end
end Rt
open Rt
theorem xU.to{w:World}{B b N N':Nat}{m:dP}{L L':eF}(h:xU w B b m L N)(d:gy m L')(a:Inv L' N')(c:yI L'):xU w B b m L' N':=⟨h.q,d,a.toInv0,a.s,c⟩
end
section
namespace Rt
section
variable {ev:Nat->EvM} {an k n:Nat} {K:Nat->Int} {L:eF} {v:EvM} {f:(Nat->Int)->(Nat->Int) × Int} {r:Nat->Nat->Int} {x:Nat->Int}
theorem Ws.agP(W:Ws k ev an) : ∀ n,n<=an -> ∀ o r,(fK ev K (Sn k) n).ask o r=true->r<=256
 | 0,_,_,_,h=>by cases h
 | n+1,hn,o,r,h=>by
   cases c:wF K (ev n)with
   | false=>rw[mo c]at h; exact W.agP n (by omega) o r h
   | true =>
     rw[lQ c]at h;have h:((fK ev K (Sn k) n).ask o r || ((decide ((ev n).kind=3) || decide ((ev n).kind=4))&&(decide (o=(ev n).o)&&decide (r=(ev n).req))))=true:=h
     rcases D_.1 h with q|q
     ·exact W.agP n (by omega) o r q
     ·rw[T_,T_]at q;rw[h_ q.2.2]; exact(W.sm n (by omega)).req
end
end Rt
end
namespace Rt
def Hr:jC:=⟨1,0,0,10,0,0⟩
def uE:jC:=⟨3,SV,0,4,1,0⟩
theorem aaV:yA Hr:=⟨⟨by decide,by decide⟩,⟨by decide,by decide⟩,⟨by decide,by decide⟩,⟨by decide,by decide⟩,⟨by decide,by decide⟩,⟨by decide,by decide⟩⟩
theorem QH:yA uE:=⟨⟨by decide,by decide⟩,⟨by decide,by decide⟩,⟨by decide,by decide⟩,⟨by decide,by decide⟩,⟨by decide,by decide⟩,⟨by decide,by decide⟩⟩
def wA:EvM:=iL (jL 2 0).core.known 1 Hr
theorem ap1:bD (jL 2 0).core wA=0:=tw0.err wA (by kernel_rfl)
end Rt
namespace Rt
theorem acy{x:jC}(a : ¬ x.req=0)(h:x.kind=3\/x.kind=4):Yw x=true:=by
 unfold Yw; rw[g_ a]
 rcases h with h|h
 ·rw[f_ h]; rfl
 rw[f_ h,Bool.or_true]; rfl
theorem MV{L:eF}{i:Int}{x:jC}(h:x.req=0 \/ ¬ x.kind=3 /\ ¬ x.kind=4):fq L i x=false/\jV L i x=0:=by
 have:fq L i x=false:=by
  unfold fq Yw
  rcases h with h|⟨h1,h2⟩
  ·rw[f_ h]; rfl
  ·rw[g_ h1,g_ h2,I_,J_]; rfl
 exact⟨this,by unfold jV; rw[this]; rfl⟩
theorem Fh{L:eF}{i:Int}{x:jC}(h:yJ L i x.req<0):fq L i x=false/\jV L i x=0:=by
 have:fq L i x=false:=by unfold fq; rw[g_ (by omega),J_]
 exact⟨this,by unfold jV; rw[this]; rfl⟩
theorem agQ{L:eF}{i r:Int}(h : ¬ yJ L i r<0) : ∃ j:Nat,j<L.gn/\yJ L i r=(j:Int):=by
 unfold yJ at h ⊢
 rcases gu (fun q=>qK i r (L.g q)) L.gn with ⟨k,a,e,_⟩|⟨e,_⟩
 ·exact⟨k,a,e⟩
 rw[e]at h; exact N_ (by decide) h
theorem Bz{L:eF}{i:Int}{x:jC}{j:Nat}(a:Yw x=true)(e:yJ L i x.req=(j:Int)):fq L i x=true/\jV L i x=if(yB x (L.g j) || vB x (L.g j))=true then 0 else 14:=by
 have:fq L i x=true:=by unfold fq; rw[a,e,f_ (by omega)]; rfl
 exact⟨this,by unfold jV; rw[this,d_ rfl,e]; rfl⟩
end Rt
theorem acz(g:Nat->Int)(i:Int)(x:jC)(w:World)(l:Nat)(f:Nat)(hi:aQ w l 1 (fun _=>au i) 3)(ha:aQ w f 6 (kJ x) 25) :
 Calls Tryz.prog 54 #[.agg (aA 5 (jf g)),(pt l),(pt f)] w fun e p=>e = .returned (.bool (qK i x.req g))/\Below w.heap.size w p:=by
 have s:=hi.lt;have r:=ha.lt;refine Kent Tryz.func54 23 ?_;refine ay<|pO fun j y k h o z => ?_;have⟨n,m,b⟩:=iY o.old hi ha (Below.refl w.heap.size w);have q:=gN k;have⟨t,u⟩:=rD k hi.lt ha.lt;have v:=h.lt;refine av aF<|aD<|ay<|av (pt j)<|Lv (au (g 0)) (aM h.aH 0)<|Lv (au i) (aM n.aH 0) ?_;by_cases a:(g 0)=i
 ·refine Lv aG (dZ a)<|av aG<|av (pf j 1)<|Lv (aC (g 1)) (aM h.aH 1)<|av (pf f 4)<|Lv (aC x.req) (aM m.aH 4) ?_;by_cases c:(g 1)=x.req
  ·refine Lv aG (dZ c)<|av aG<|bS<|bS<|bS<|bS<|bS<|av aG<|av aG<|av aG<|aD<|Wr<|aJ aG ?_;exact⟨iF (Eq.symm (by unfold qK; rw[f_ a,f_ c]; rfl)),b⟩
  refine Lv aF (fB c)<|av aF<|av (pf j 4)<|Lv (aC (g 4)) (aM h.aH 4)<|av (pf f 4)<|Lv (aC x.req) (aM m.aH 4) ?_;by_cases d:(g 4)=x.req
  ·refine Lv aG (dZ d)<|av aG<|av aG<|av aG<|aD<|Wr<|aJ aG ?_;exact⟨iF (Eq.symm (by unfold qK; rw[f_ a,f_ d,Bool.or_true]; rfl)),b⟩
  refine Lv aF (fB d)<|av aF<|av aF<|av aF<|aD<|Wr<|aJ aF ?_;exact⟨iF (Eq.symm (by unfold qK; rw[f_ a,g_ c,g_ d]; rfl)),b⟩
 refine Lv aF (fB a)<|av aF<|bS<|bS<|bS<|bS<|bS<|bS<|bS<|bS<|bS<|bS<|bS<|bS<|av aF<|av aF<|aD<|Wr<|aJ aF ?_;exact⟨iF (Eq.symm (by unfold qK; rw[g_ a]; rfl)),b⟩
theorem Rt.OM{P:Nat->Bool}{k:Nat}(h : ∀ p,p<k->P p=false)(a:P k=false) : ∀ p,p<k+1->P p=false:=fun p b=>by
 by_cases e:p=k
 ·rw[e]; exact a
 ·exact h p (by omega)
theorem akx(a:Option Addr)(n cap:Nat)(g:Nat->Nat->Int)(i:Int)(x:jC)(w:World)(H:nV w a n 5 (flat 5 (fun J=>jf (g J))))(R:n<=1000000)(c:Nat)(b:Nat)(hi:aQ w c 1 (fun _=>au i) 3)(ha:aQ w b 6 (kJ x) 25) :
 Calls Tryz.prog 53 #[.slice a (n) (cap),.func (.func 54) #[] #[(pt c),(pt b)]] w fun e N=>e = .returned (au (gV (fun p=>qK i x.req (g p)) n))/\Below w.heap.size w N:=by
 have W:=hi.lt;have V:=ha.lt;refine Kent Tryz.func53 19 ?_;refine ay<|av (au 0)<|aD<|Ws<|ay<|av (.slice a (n) (cap))<|av (au n)<|av (au 0)<|aD<|Wb<|Wo (fun f u => ∃ k:Nat,k<=n/\(∀ p,p<k->(fun p=>qK i x.req (g p)) p=false)/\f 0 = .slice a (n) (cap)/\f 1 = .func (.func 54) #[] #[(pt c),(pt b)]/\f 7=au (n:Int)/\f 8=au (k:Int)/\aQ u c 1 (fun _=>au i) 3/\aQ u b 6 (kJ x) 25/\Below w.heap.size w u) (fun f _=>(n-(intOf (f 8)).toNat)) ⟨0,by omega,(fun p h=>N_ h (by omega)),(by rfl),(by rfl),Fx.ic,Fx.ic,hi,ha,(Below.refl w.heap.size w)⟩ ?_;rintro P O ⟨k,Q,r,z,A,o,j,s,t,m⟩;refine ay ?_;by_cases y:(k:Int)<(n:Int)
 ·refine Lv aG (iD y (hx:=j) (hy:=o))<|aD<|Ws<|aN<|Wk<|sN<|Ws<|Wb<|ay<|aU j<|av (au k)<|aD<|ay<|aU A<|aU z<|av (au k) ?_;obtain⟨v,M,E,B⟩:=(H.up m rfl) (by omega);have U:v<O.heap.size:=B.lt (by omega);refine Lv (pf v (5*k+M)) (dB 5 (hx:=(rfl.trans (M_ (fun q=>Value.slice q (n) (cap)) E))))<|Lv (.agg (aA 5 (jf (g k)))) (fM B (5*k) (fun T I=>Fx.kU (k:=k) (by omega) I)) ?_;by_cases d:(qK i x.req (g k))=true
  ·refine Ac (by rfl) (Fx.BM (args := [.agg (aA 5 (jf (g k)))]) rfl rfl rfl (all := #[.agg (aA 5 (jf (g k))),(pt c),(pt b)]) rfl Tryz.func54 rfl rfl) rfl<|(acz (g k) i x _ c b s t).mono ?_;rintro e X ⟨l,F⟩;refine⟨.bool true,by rw[l,d],?_⟩;clear l;have C:=bB F m;refine aD<|aN<|ay<|av (au k)<|av (au k)<|aD<|Wr<|bL<|sR<|qm<|bL<|sR<|aJ (au k) ?_;exact⟨pR (Eq.symm (pW r d (by omega))),C⟩
  rw[U_]at d;refine Ac (by rfl) (Fx.BM (args := [.agg (aA 5 (jf (g k)))]) rfl rfl rfl (all := #[.agg (aA 5 (jf (g k))),(pt c),(pt b)]) rfl Tryz.func54 rfl rfl) rfl<|(acz (g k) i x _ c b s t).mono ?_;rintro e Y ⟨l,G⟩;refine⟨.bool false,by rw[l,d],?_⟩;clear l;have⟨K,L,D⟩:=iY G s t m;refine aD<|aK<|Wk<|bU<|sN<|Wl<|Lv (au ((k:Int)+1)) (fH (hx:=j))<|av (au ((k:Int)+1))<|Ln<|iH ⟨k+1,by omega,(OM r (by simpa using d)),z,A,(o.trans Fx.ic),Fx.ic,K,L,D⟩ ?_;show(n-(intOf (au ((k:Int)+1))).toNat)<_;simp only[j,intOf]; omega
 refine Lv aF (iE y (hx:=j) (hy:=o))<|aD<|Ws<|aK<|Wx<|cZ<|gZ<|dh<|sN<|ay<|av (au (-1))<|aD<|Wr<|aJ (au (-1)) ?_;exact⟨pR (Eq.symm (lI (fun p S=>r p (by omega)))),m⟩
theorem aaW(L:eF)(X l:Option Addr)(Y m:Nat)(i:Int)(x:jC)(w:World)(hga:nV w l L.gn 5 (flat 5 (Yp L)))(hgn:L.gn<=1000000) :
 Calls Tryz.prog 23 #[.agg (aA 20 (rF (Qo L X Y l m))),au i,.agg (aA 6 (kJ x))] w fun e w'=>e = .returned (.tuple #[.bool (fq L i x),au (jV L i x)])/\Below w.heap.size w w':=by
 refine Kent Tryz.func23 83 ?_;refine ay<|pO fun y w1 ku m1 s1 z1 => ?_;have b1:=bB s1.old (Below.refl w.heap.size w);have tC:=gN ku;have uK:=m1.lt;refine yD (au i) fun r w2 uO m2 s2 z2 => ?_;have⟨m3,b2⟩:=fC s2.old m1 b1;have qX:=iK uO b1.size;have La:=cO uO m1.lt;have zM:=m2.lt;refine pO fun a w3 um B s3 z3 => ?_;have⟨m5,m6,N⟩:=iY s3.old m3 m2 b2;have BF:=iK um b2.size;have⟨abP,aip⟩:=rD um m3.lt m2.lt;have GZ:=B.lt;refine av aF<|av (au 0)<|aD<|A9 (fun f b=>Yw x=true/\f 3=(pt y)/\f 4=(pt r)/\f 5=(pt a)/\aQ b y 20 (rF (Qo L X Y l m)) 50/\aQ b r 1 (fun _=>au i) 3/\aQ b a 6 (kJ x) 25/\Below w.heap.size w b) ?_ ?_
 ·refine ay<|av (pf a 4)<|Lv (aC x.req) (aM B.aH 4) ?_;by_cases t:x.req=0
  ·refine Lv aG (dZ t)<|av aG<|bS<|bS<|bS<|bS<|bS<|bS<|bS<|bS<|av aG<|aD<|aN<|ay<|av aF<|av (au 0)<|aD<|Wr<|Fx.jnR<|aJ (.tuple #[.bool false,au 0]) ?_;exact⟨by rw[(MV (.inl t)).1,(MV (.inl t)).2],N⟩
  refine Lv aF (fB t)<|av aF<|av (pt a)<|Lv (.int .u8 (x.kind)) (aM B.aH 0) ?_;by_cases D:x.kind=3
  ·refine Lv aF (jR D)<|av aF<|bS<|bS<|bS<|av aF<|av aF<|aD<|aK<|Wk ?_;exact qR ⟨(acy t (.inl D)),(by rfl),(by rfl),(by rfl),m5,m6,B,N⟩
  refine Lv aG (kY D)<|av aG<|av (pt a)<|Lv (.int .u8 (x.kind)) (aM B.aH 0) ?_;by_cases E:x.kind=4
  ·refine Lv aF (jR E)<|av aF<|av aF<|aD<|aK<|Wk ?_;exact qR ⟨(acy t (.inr E)),(by rfl),(by rfl),(by rfl),m5,m6,B,N⟩
  refine Lv aG (kY E)<|av aG<|av aG<|aD<|aN<|ay<|av aF<|av (au 0)<|aD<|Wr<|Fx.jnR<|aJ (.tuple #[.bool false,au 0]) ?_;exact⟨by rw[(MV (.inr ⟨D,E⟩)).1,(MV (.inr ⟨D,E⟩)).2],N⟩
 rintro f1 w4 ⟨z,h1,S,d,m7,m8,m9,b4⟩;refine ay<|Lv (pf y 19) (jo h1 19)<|Lv (.slice l (L.gn) (m)) (aM m7.aH 19)<|Lv (.func (.func 54) #[] #[(pt r),(pt a)]) (Fx.mG (us := []) (vs := [(pt r),(pt a)]) rfl rfl (Fx.args2 S d))<|dX ((akx l L.gn m L.g i x _ (hga.up b4 rfl) hgn r a m8 m9).mono (fun e w2 S=>(⟨S.1,S.2⟩:e = .returned (au (yJ L i x.req))/\_))) _ rfl ?_;intro w5 hb1;have⟨m10,m11,m12,O⟩:=jW hb1 m7 m8 m9 b4;refine av (au (yJ L i x.req))<|aD<|Ws<|ay<|av (au (yJ L i x.req)) ?_;by_cases F:(yJ L i x.req)<0
 ·refine Lv aG (iD F)<|aD<|aN<|ay<|av aF<|av (au 0)<|aD<|Wr<|sR<|aJ (.tuple #[.bool false,au 0]) ?_;exact⟨by rw[(Fh F).1,(Fh F).2],O⟩
 refine Lv aF (iE F)<|aD<|aK<|Wk<|sN<|Ws ?_;obtain⟨j,hj,p⟩:=agQ F;refine Wl<|Lv (pf y 19) (jo h1 19)<|Lv (.slice l (L.gn) (m)) (aM m10.aH 19)<|aU (M_ (Value.int .i64) p) ?_;obtain⟨aa,oq1,eq1,U⟩:=(hga.up O rfl) (by omega);have ajd:aa<w5.heap.size:=U.lt (by omega);refine Lv (pf aa (5*j+oq1)) (dB 5 (hx:=(rfl.trans (M_ (fun q=>Value.slice q (L.gn) (m)) eq1))))<|Lv (.agg (aA 5 (Yp L j))) (fM U (5*j) (fun jq hjq=>Fx.kU (k:=j) (by omega) hjq))<|nS 5 zR0 fun c w6 ab m14 s5 z4 => ?_;have⟨m15,m16,m17,m18,b6⟩:=nE s5.old m10 m11 m12 U O;have NT:=iK ab O.size;have⟨Xq,Ov,X6⟩:=AZ ab m10.lt m11.lt m12.lt;have X7:aa≠c:=by rw[ab]; exact u_ (U.lt (by omega))
 have M9:=m14.lt;refine dM m14 0 (h1:=(fun j _=>sD _ j)) fun w7 m19 s6 z5 => ?_;have n:aQ w7 c 5 (Yp L j) 106:=aL m19;have gF:=fP s6 m14.ty;have⟨K,M,h⟩:=BO gF m15 m16 m17;have m24:=m18.cu s6 (by omega);have C:=s6.below b6 b6.size (by omega);refine aD<|A9 (fun f b=>f 5=(pt a)/\f 9=(pt c)/\f 10 = .bool (yB x (L.g j))/\aQ b y 20 (rF (Qo L X Y l m)) 50/\aQ b r 1 (fun _=>au i) 3/\aQ b a 6 (kJ x) 25/\aQ b c 5 (Yp L j) 106/\Below w.heap.size w b) ?_ ?_
 ·refine Wl<|Lv (pt a) (jo d 0)<|Lv (.int .u8 (x.kind)) (aM h.aH 0) ?_;by_cases o:x.kind=3
  ·refine Lv aG (dZ o)<|av aG<|av (pf c 1)<|Lv (aC (L.g j 1)) (aM n.aH 1)<|Lv (pf a 4) (jo d 4)<|Lv (aC x.req) (aM h.aH 4) ?_;by_cases u:(L.g j 1)=x.req
   ·refine Lv aG (dZ u)<|av aG<|av aG<|av (pf c 2)<|Lv (aC (L.g j 2)) (aM n.aH 2)<|Lv (pf a 1) (jo d 1)<|Lv (aC x.node) (aM h.aH 1) ?_;by_cases G:(L.g j 2)=x.node
    ·refine Lv aG (dZ G)<|av aG<|av aG<|av (pf c 3)<|Lv (au (L.g j 3)) (aM n.aH 3)<|Lv (pf a 3) (jo d 3)<|Lv (au x.aT) (aM h.aH 3) ?_;by_cases Q:(L.g j 3)=x.aT
     ·refine Lv aG (dZ Q)<|av aG<|av aG<|Ln ?_;exact qR ⟨d,(by rfl),(M_ Value.bool (by unfold yB; rw[f_ o,f_ u,f_ G,f_ Q]; rfl)),K,M,h,n,C⟩
     refine Lv aF (fB Q)<|av aF<|av aF<|Ln ?_;exact qR ⟨d,(by rfl),(M_ Value.bool (by unfold yB; rw[f_ o,f_ u,f_ G,g_ Q]; rfl)),K,M,h,n,C⟩
    refine Lv aF (fB G)<|av aF<|av aF<|bS<|bS<|bS<|bS<|bS<|av aF<|av aF<|Ln ?_;exact qR ⟨d,(by rfl),(M_ Value.bool (by unfold yB; rw[f_ o,f_ u,g_ G]; rfl)),K,M,h,n,C⟩
   refine Lv aF (fB u)<|av aF<|av aF<|bS<|bS<|bS<|bS<|bS<|av aF<|av aF<|bS<|bS<|bS<|bS<|bS<|av aF<|av aF<|Ln ?_;exact qR ⟨d,(by rfl),(M_ Value.bool (by unfold yB; rw[f_ o,g_ u]; rfl)),K,M,h,n,C⟩
  refine Lv aF (fB o)<|av aF<|bS<|bS<|bS<|bS<|bS<|av aF<|av aF<|bS<|bS<|bS<|bS<|bS<|av aF<|av aF<|bS<|bS<|bS<|bS<|bS<|av aF<|av aF<|Ln ?_;exact qR ⟨d,(by rfl),(M_ Value.bool (by unfold yB; rw[g_ o]; rfl)),K,M,h,n,C⟩
 rintro f2 w8 ⟨h4,h5,T,V,W,s,A,P⟩;refine A9 (fun f b=>f 10 = .bool (yB x (L.g j))/\f 11 = .bool (vB x (L.g j))/\aQ b y 20 (rF (Qo L X Y l m)) 50/\aQ b r 1 (fun _=>au i) 3/\aQ b a 6 (kJ x) 25/\aQ b c 5 (Yp L j) 106/\Below w.heap.size w b) ?_ ?_
 ·refine Wl<|Lv (pt a) (jo h4 0)<|Lv (.int .u8 (x.kind)) (aM s.aH 0) ?_;by_cases v:x.kind=4
  ·refine Lv aG (dZ v)<|av aG<|Lv (pf c 4) (jo h5 4)<|Lv (aC (L.g j 4)) (aM A.aH 4)<|Lv (pf a 4) (jo h4 4)<|Lv (aC x.req) (aM s.aH 4) ?_;by_cases H:(L.g j 4)=x.req
   ·refine Lv aG (dZ H)<|av aG<|av aG<|Lv (pf c 1) (jo h5 1)<|Lv (aC (L.g j 1)) (aM A.aH 1)<|Lv (pf a 5) (jo h4 5)<|Lv (aC x.of) (aM s.aH 5) ?_;by_cases R:(L.g j 1)=x.of
    ·refine Lv aG (dZ R)<|av aG<|av aG<|Ln ?_;exact qR ⟨T,(M_ Value.bool (by unfold vB; rw[f_ v,f_ H,f_ R]; rfl)),V,W,s,A,P⟩
    refine Lv aF (fB R)<|av aF<|av aF<|Ln ?_;exact qR ⟨T,(M_ Value.bool (by unfold vB; rw[f_ v,f_ H,g_ R]; rfl)),V,W,s,A,P⟩
   refine Lv aF (fB H)<|av aF<|av aF<|bS<|bS<|bS<|bS<|bS<|av aF<|av aF<|Ln ?_;exact qR ⟨T,(M_ Value.bool (by unfold vB; rw[f_ v,g_ H]; rfl)),V,W,s,A,P⟩
  refine Lv aF (fB v)<|av aF<|bS<|bS<|bS<|bS<|bS<|av aF<|av aF<|bS<|bS<|bS<|bS<|bS<|av aF<|av aF<|Ln ?_;exact qR ⟨T,(M_ Value.bool (by unfold vB; rw[g_ v]; rfl)),V,W,s,A,P⟩
 rintro f3 w9 ⟨h7,h8,nX,ou,lu,m32,Z⟩;refine Ws<|ay ?_;by_cases I:(yB x (L.g j))=true
 ·refine aU (h7.trans (M_ Value.bool I))<|av aF<|av aF<|bS<|bS<|av aF<|aD<|aK<|Wk<|sN<|ay<|av aG<|av (au 0)<|aD<|Wr<|aJ (.tuple #[.bool true,au 0]) ?_;exact⟨by rw[(Bz z p).1,(Bz z p).2,d_ (by rw[I]; rfl)],Z⟩
 rw[U_]at I;refine aU (h7.trans (M_ Value.bool I))<|av aG<|av aG ?_;by_cases J:(vB x (L.g j))=true
 ·refine aU (h8.trans (M_ Value.bool J))<|av aF<|av aF<|aD<|aK<|Wk<|sN<|ay<|av aG<|av (au 0)<|aD<|Wr<|aJ (.tuple #[.bool true,au 0]) ?_;exact⟨by rw[(Bz z p).1,(Bz z p).2,d_ (by rw[J,Bool.or_true])],Z⟩
 rw[U_]at J;refine aU (h8.trans (M_ Value.bool J))<|av aG<|av aG<|aD<|aN<|ay<|av aG<|av (au 14)<|aD<|Wr<|sR<|aJ (.tuple #[.bool true,au 14]) ?_;exact⟨by rw[(Bz z p).1,(Bz z p).2,b_ (by rw[I,J]; decide)],Z⟩
section
namespace Rt
noncomputable def Cy(L:eF)(i:Int)(x:jC):EvM:=if fq L i x=true then zeroE else gY L i x
noncomputable def Fj(L:eF)(i:Int)(x:jC):Int:=if fq L i x=true then jV L i x else iR L i x
noncomputable def MW(L:eF)(i:Int)(x:jC):eF:=if fq L i x=true then L else bP L (gY L i x)
section
variable {L:eF} {i:Int} {x:jC}
theorem yC(h:fq L i x=true):Cy L i x=zeroE/\Fj L i x=jV L i x/\MW L i x=L:=⟨d_ h,d_ h,d_ h⟩
theorem oM(h:fq L i x=false):Cy L i x=gY L i x/\Fj L i x=iR L i x/\MW L i x=bP L (gY L i x):=by
 have h : ¬ fq L i x=true:=by rw[h]; decide
 exact⟨b_ h,b_ h,b_ h⟩
theorem aaX(L:eF):bP L zeroE=L:=by
 unfold bP;rw[b_];have:bD L zeroE=1:=by unfold bD; rw[d_ (by kernel_rfl)]
 rw[this]; decide
theorem X9(h : ¬ iR L i x=0):gY L i x=zeroE:=by unfold gY; rw[b_ h]
theorem DN(h:fq L i x=false)(d : ¬ iR L i x=0):Cy L i x=zeroE/\Fj L i x=iR L i x/\MW L i x=L:=by
 obtain⟨a,b,c⟩:=oM h;exact⟨by rw[a,X9 d],b,by rw[c,X9 d,aaX]⟩
theorem xY(h:iR L i x=0):jy i=true/\gY L i x=iL L.known i x/\bD L (gY L i x)=0:=by
 have a:jy i=true:=by
  cases c:jy i with
  | true=>rfl
  | false=>rw[(GU c).1]at h; cases h
 have e:gY L i x=iL L.known i x:=by unfold gY; rw[d_ h]
 exact⟨a,e,by rw[e,<- mD a]; exact h⟩
end
end Rt
set_option maxRecDepth 10000 in
theorem Ht(l B N:Nat)(m:dP)(L:eF)(w:World)(h:xU w B l m L N)(Y:1<=B)(D:iU w 0 0 8 Ct)(hN:N<=900000)(i:Int)(hi : -9223372036854775808<=i/\i<=9223372036854775807)(x:jC)(hx:yA x) :
 Calls Tryz.prog 25 #[(pt l),au i,.agg (aA 6 (kJ x))] w fun e w' => ∃ m',e = .returned (.tuple #[.agg (aA 14 (bI (Cy L i x))),au (Fj L i x)])/\xU w' B l m' (MW L i x) (N+1)/\jI (RS m l w.heap.size) w w':=by
 have l0:=D.lt (by omega);have lq:=h.q.lt;refine Kent Tryz.func25 40 ?_;refine ay<|pO fun g1 w1 ku H s1 z1 => ?_;have⟨m2,S⟩:=fC s1.old h (Below.refl w.heap.size w);have tC:=gN ku;have uK:=H.lt;refine nS 14 zQ0 fun C w2 V m3 s2 z2 => ?_;have⟨m4,m5,b2⟩:=iY s2.old m2 H S;have qX:=iK V S.size;have Ls:=cO V H.lt;have zM:=m3.lt;refine av (au 0)<|aD<|Ws<|ay<|av (pt l)<|Lv aF (Fx.lW rfl rfl rfl (by kernel_rfl))<|aD<|aK<|Wk<|sN<|Ws<|Ws ?_;refine jY [0,2,3,1,4,5,6,7,8,9] [0,2,0,1,2,0,0,0,0,0] [(4,1,[1]),(5,1,[4,1]),(6,1,[5,4,1]),(7,1,[5,4,1]),(8,1,[1]),(9,1,[1]),(5,4,[4]),(6,4,[5,4]),(7,4,[5,4]),(8,4,[4]),(9,4,[4])] fun qU dU iC => ?_;have⟨m6,O,m8,b3⟩:=jW dU m4 m5 m3 b2;refine aY (pt l)<|aY (au i)<|Rd (v := .agg (aA 6 (kJ x))) (by rfl) (by rfl) (uf _) (fun v1 G=>eG (x:=kJ x) (y:=kJ x) rfl rfl (by kernel_rfl) (by kernel_rfl) (O.aH.below G (by have:=O.lt; omega)) (i:=0) (by omega) (by omega) (fun j _=>by rw[H_])) ?_;refine zG<|kF (Qw m6 (by omega)) ?_;rintro e9 w3 ⟨ss1,he,F,Z⟩;obtain⟨zna,znc,zga,zgc,eS9⟩ : ∃ a b c d,ss1=Qo L a b c d:=⟨_,_,_,_,F.e⟩;subst eS9;refine⟨_,he,?_⟩;clear he;have s4:=Sb Z;have⟨m9,m10,m11,b4⟩:=jW Z m6 O m8 b3;refine Ln ⟨s4.old,?_⟩;refine zG<|dX (aaW L zna zga znc zgc i x _ F.g.arr (by have:=m9.i.gn; omega)) _ rfl ?_;intro w4 aa;have s5:=Sb aa;have⟨I,m13,t,m15,s⟩:=nE aa m9 m10 m11 F b4;refine Ln ⟨s5.old,?_⟩;refine aY (.tuple #[.bool (fq L i x),au (jV L i x)])<|aY (.bool (fq L i x))<|aY (au (jV L i x))<|aY (.bool (fq L i x))<|aY (au (jV L i x))<|bT<|ay ?_;by_cases n:(fq L i x)=true
 ·refine aU (rfl.trans (M_ Value.bool n))<|aD<|aN<|ay<|Lv (.agg (aA 14 zQ0)) (fM t.aH 0)<|av (au (jV L i x))<|dM t 0 (h1:=(fun j E=>by rcases j with _|_|_|_|_|_|_|_|_|_|_|_|_|_|j <;> first|rfl|omega)) fun w5 m16 s6 z3 => ?_
  have m17:aQ w5 C 14 zQ0 37:=aL m16;have gF:=fP s6 t.ty;have m18:=jh gF I;have b6:=s6.below s s.size (by omega);refine av (au (jV L i x)) (aD (Wr (sR (⟨.tuple #[.agg (aA 14 zQ0),au (jV L i x)],fQ Tryz.results25 ⟨_,rfl,aS m17.aH (by kernel_rfl) (by kernel_rfl)⟩ (by exact rfl),?_⟩))));exact⟨m,by rw[(yC n).1,(yC n).2.1]; exact GR (fun j E=>by rcases j with _|_|_|_|_|_|_|_|_|_|_|_|_|_|j <;> first|rfl|omega) rfl,by rw[(yC n).2.2]; exact m18.mono (Nat.le_succ N),(Fx.jI.of_below b6)⟩
 rw[U_]at n;refine aU (rfl.trans (M_ Value.bool n))<|aD<|aK<|Wk<|sN<|Ws ?_;have p:fq L i x=false:=by cases h9:fq L i x with|false=>rfl|true=>exact N_ h9 (by rw[n]; decide)
 refine Wl<|av (pt l)<|av (au i)<|Lv (.agg (aA 6 (kJ x))) (fM m13.aH 0)<|dX (agM I Y (D.below s l0) i (x:=x) hx (fun _ _=>rfl)) _ rfl ?_;intro w6 hb3;have⟨m21,m22,m23,m24,T⟩:=nE hb3 I m13 t m15 s;refine av (.tuple #[.agg (aA 14 (bI (gY L i x))),au (iR L i x)])<|av (.agg (aA 14 (bI (gY L i x))))<|av (au (iR L i x))<|nS 14 zQ0 fun g3 w7 W J s8 z4 => ?_;have⟨oN,pU,pV,nX,U⟩:=nE s8.old m21 m22 m23 m24 T;have BF:=iK W T.size;have⟨Ke,Oj⟩:=rD W m22.lt m23.lt;have GZ:=J.lt;refine dM J 0 (h1:=(dW _)) fun w8 ou R z5 => ?_;have lu:aQ w8 g3 14 (bI (gY L i x)) 37:=aL ou;have ac:=fP R J.ty;have⟨m32,oQ⟩:=vP ac oN pU;have u:=pV.cu R (by omega);have oO:=jh ac nX;have A:=R.below U U.size (by omega);refine av (au (iR L i x))<|aD<|Ws<|ay<|av (au (iR L i x)) ?_;by_cases o:(iR L i x)=0
 ·refine Lv aF (jR o)<|aD<|aK<|Wk<|sN<|Ws ?_;have X:iR L i x=0:=by first|exact o|exact Classical.not_not.1 o
  obtain⟨hr0,eV,hE0⟩:=xY X;have hVw:gI (gY L i x):=by rw[eV]; exact X5 h.i.kn hx hr0
  refine Ad [1,0,2,3,4,5] [1,0,4,2,3,0] (Fx.zH [114]) Fx.zH.refl Fx.zH.trans (fJ := [(4,0,[0]),(3,2,[2]),(4,2,[3,2]),(4,3,[3]),(5,3,[3]),(5,4,[4])]) (by kernel_rfl) (by kernel_rfl) (by kernel_rfl) (by kernel_rfl) (by kernel_rfl) fun BS fZ mQ => ?_;have⟨nT,qV,qB,pE,K,z⟩:=rz fZ m32 oQ u oO lu A;refine aY (pt l)<|Rd (v := .agg (aA 14 (bI (gY L i x)))) (by rfl) (by rfl) (Fx.zH.refl _) (fun v1 G=>eG (x:=bI (gY L i x)) (y:=bI (gY L i x)) rfl rfl (by kernel_rfl) (by kernel_rfl) (K.om G (by decide)).aH (i:=0) (by omega) (by omega) (fun j _=>by rw[H_])) ?_;refine Rs (.agg (aA 14 (bI (gY L i x)))) (fM K.aH 0) ?_;refine zG<|dX (Qr (v:=(gY L i x)) nT hVw Y (D.below z l0) (fun _ _=>rfl)) (au 0) (by rw[hE0]) ?_;rintro w9 ⟨hq1,ab⟩;have r:=nT.q.typed ab;have hW1:jI (RS m l w.heap.size) w w9:=Fx.jI.trans _ _ _ (Fx.jI.of_below z) (ab.mono fun k hk=>hk.imp id (m_ z.size));have mK:=qV.om r (by decide);have aze:=mK.lt;have M:=qB.om r (by decide);have azf:=M.lt;have mR:=pE.om r (by decide);have qw:=K.om r (by decide);have azg:=qw.lt;refine Ln ⟨r,?_⟩;refine gQ<|dM M 0 (h1:=(dW _)) fun su qW P z6 => ?_;have ow:aQ su C 14 (bI (gY L i x)) 37:=aL qW;have oq:=fP P M.ty;have sM:=qw.cu P (by omega);have rQ:=jh oq hq1;have b11:=hW1.then P (.inr qX);refine Ln (aY (au 0) (bT (Wr (⟨.tuple #[.agg (aA 14 (bI (gY L i x))),au 0],fQ Tryz.results25 ⟨_,rfl,aS ow.aH (by kernel_rfl) (by kernel_rfl)⟩ (by exact rfl),?_⟩))));exact⟨_,by rw[(oM p).1,(oM p).2.1,X],by rw[(oM p).2.2]; exact rQ,b11⟩
 refine Lv aG (kY o)<|aD<|aN<|ay<|Lv (.agg (aA 14 zQ0)) (fM u.aH 0)<|av (au (iR L i x))<|dM u 0 (h1:=(fun j E=>by rcases j with _|_|_|_|_|_|_|_|_|_|_|_|_|_|j <;> first|rfl|omega)) fun Ah uM Q z7 => ?_
 have uw:aQ Ah C 14 zQ0 37:=aL uM;have uq:=fP Q u.ty;have ug:=jh uq m32;have uh:=lu.cu Q (by omega);have b12:=Q.below A A.size (by omega);refine av (au (iR L i x)) (aD (Wr (sR (⟨.tuple #[.agg (aA 14 zQ0),au (iR L i x)],fQ Tryz.results25 ⟨_,rfl,aS uw.aH (by kernel_rfl) (by kernel_rfl)⟩ (by exact rfl),?_⟩))));exact⟨m,by rw[(DN p o).1,(DN p o).2.1]; exact GR (fun j E=>by rcases j with _|_|_|_|_|_|_|_|_|_|_|_|_|_|j <;> first|rfl|omega) rfl,by rw[(DN p o).2.2]; exact ug.mono (Nat.le_succ N),(Fx.jI.of_below b12)⟩
end
namespace Rt
theorem aky{k n r:Nat}(e:r=k % (n+1)):Int.tmod (k:Int) ((n:Int)+1)=(r:Int):=by
 rw[show(n:Int)+1=((n+1:Nat):Int) by omega]; exact EG e
end Rt
namespace Rt
theorem Sr{L:eF}{i:Int}{y z:jC}(h:BG L i)(a:mZ L i y)(c:y.kind=3)(b:z.kind=3)(hr:z.req=y.req)(ha:z.aT≠y.aT):fq L i z=true/\jV L i z=14:=by
 obtain⟨q,e,k⟩:=GV h a;have l:Yw z=true:=by have:=QF a; unfold Yw at *; rw[b,hr]; rw[c]at this; exact this
 have e:yJ L i z.req=(q:Int):=by rw[hr]; exact e
 obtain⟨f,j⟩:=Bz l e;refine⟨f,?_⟩;rw[j,b_];obtain⟨_,⟨_,_,_,d⟩|⟨k4,_⟩⟩:=k
 ·unfold yB vB;rw[b,g_ (show ¬ L.g q 3=z.aT from fun e=>ha (e.symm.trans d)),J_,J_,J_];intro h; simp at h
 rw[c]at k4; exact N_ k4 (by decide)
def OO:jC:=⟨3,SV,0,5,1,0⟩
theorem aaZ:yA OO:=⟨⟨by decide,by decide⟩,⟨by decide,by decide⟩,⟨by decide,by decide⟩,⟨by decide,by decide⟩,⟨by decide,by decide⟩,⟨by decide,by decide⟩⟩
noncomputable def rq0:dP:=yH 1 0 0 0 0 0 0
noncomputable def rL0:eF:=(jL 1 0).core
def rA:EvM:=iL (jL 1 0).core.known 1 Hr
noncomputable def Sv:dP:=gX rq0 rA
noncomputable def Nf:eF:=bP rL0 rA
noncomputable def rB:EvM:=iL Nf.known 1 uE
noncomputable def rB':EvM:=iL Sv.known 1 uE
noncomputable def rq2:dP:=gX Sv rB'
noncomputable def Ya:eF:=bP Nf rB
theorem rw0:DJ rq0 rL0 0 := .new 1
theorem rw1:DJ Sv Nf 1:=rw0.apply rA
theorem rBe:rB'=rB:=by show iL Sv.known 1 uE=iL Nf.known 1 uE; rw[rw1.s.known]
theorem rw2:DJ rq2 Ya 2:=by show DJ (gX Sv rB') (bP Nf rB) 2; rw[rBe]; exact rw1.apply rB
theorem rc1:iR rL0 1 Hr=0:=by rw[mD (by decide)]; exact rw0.err rA (by kernel_rfl)
theorem rv1:gY rL0 1 Hr=rA:=by unfold gY; rw[d_ rc1]; rfl
theorem rg1:fq rL0 1 Hr=false:=(MV (.inr ⟨by decide,by decide⟩)).1
theorem rc2:iR Nf 1 uE=0:=by rw[mD (by decide)]; show bD Nf rB=0; rw[<- rBe]; exact rw1.err rB' (by kernel_rfl)
theorem rv2:gY Nf 1 uE=rB:=by unfold gY; rw[d_ rc2]; rfl
theorem rn1:Nf.gn=0:=rw1.s.gn.symm.trans (by kernel_rfl)
theorem rg2:fq Nf 1 uE=false:=(Fh (by unfold yJ; rw[rn1]; decide)).1
theorem rs2:rB.seq=2:=by rw[<- rBe]; kernel_rfl
theorem ru1:BG Nf 1:=(Cx (BG.new 1) rfl).1
theorem ru2:BG Ya 1:=(Cx ru1 rfl).1
theorem rd2:mZ Ya 1 uE:=GY ru1 (show bD Nf rB=0 from(mD (L:=Nf) (x:=uE) (by decide)).symm.trans rc2) rfl (.inl rfl) rfl rfl rfl rfl rfl
theorem ra2:fq Ya 1 uE=true/\jV Ya 1 uE=0:=GX ru2 rd2
theorem ra3:fq Ya 1 OO=true/\jV Ya 1 OO=14:=Sr ru2 rd2 rfl rfl rfl (by decide)
theorem rr2:aW rq2 SV=(bF (Sv.R 0) 1 4).1:=by
 unfold aW;rw[d_ (show rq2.T.has SV=true by kernel_rfl)];unfold Ec;rw[show rq2.idx SV=0 by kernel_rfl,show rq2.R 0=(qj Sv (fun x=>bF x 1 4) (Sv.T.path SV)).R 0 by kernel_rfl];show(if Sv.T.x 0∈Sv.T.path SV then(bF (Sv.R 0) 1 4).1 else Sv.R 0)=_;rw[d_];rw[show Sv.T.path SV = [SV] by kernel_rfl];exact List.mem_singleton.2 (by kernel_rfl)
theorem rl2:jd Ya SV 1=6:=rw2.loc _ _ (by rw[rr2]; kernel_rfl)
end Rt
theorem Rt.Aa{a b:Value}{y:Nat->Value}{x:jC}(hy : ∀ j,j<6->y j=kJ x j):(#[a,b,.agg (aA 6 y)]:Array Value) = #[a,b,.agg (aA 6 (kJ x))]:=by rw[Fx.dS hy]
theorem uR(w:World)(f:iU w 0 0 8 Ct) :
 Calls Tryz.prog 22 #[] w fun e w'=>e = .returned (.bool true)/\Below w.heap.size w w':=by
 have m:=f.lt (by omega);have k:1<=w.heap.size:=by omega
 refine Kent Tryz.func22 77 ?_;refine ay<|av aF<|aD<|ay<|kF (acr 1 (by omega) _) ?_;rintro h w1 ⟨b,m0,c,hl1,hb1⟩;refine⟨_,c,?_⟩;clear c;have v:=hl1.weak (Below.refl w.heap.size w).size;have p:=bB hb1 (Below.refl w.heap.size w);refine av (.tuple #[(pt b),au 0])<|av (pt b)<|av (au 0)<|av (pt b)<|av (au 0)<|aD<|Ws<|ay<|av (au 0)<|Lv aF (jR rfl)<|av aF<|av (pt b)<|Lv aF (Fx.lW rfl rfl rfl (by kernel_rfl))<|av aF<|aD<|aK<|Wk<|sN<|ay<|av (pt b)<|av (.agg (aA 6 (bG (bG zT0 0 1 (fun _ => .int .u8 (1))) 3 1 (fun _=>au 10))))<|kF (nR (Ht b w.heap.size 0 m0 ((jL 1 0).core) _ v k (f.below p m) (by omega) 1 (by omega) Hr aaV) (Aa (fun j d=>by rcases j with _|_|_|_|_|_|j <;> first|rfl|omega))) (ax := #[(pt b),au 1,.agg (aA 6 (bG (bG zT0 0 1 (fun _ => .int .u8 (1))) 3 1 (fun _=>au 10)))]) ?_
 rintro h w2 ⟨mm1,c,hq1,hc1⟩;rw[(oM (L:=(jL 1 0).core) rg1).2.2,show gY (jL 1 0).core 1 Hr=rA from rv1,show bP (jL 1 0).core rA=Nf from rfl]at hq1;refine⟨.tuple #[.agg (aA 14 (bI rA)),au 0],by rw[c,(oM (L:=(jL 1 0).core) rg1).1,show gY (jL 1 0).core 1 Hr=rA from rv1,(oM (L:=(jL 1 0).core) rg1).2.1,show iR (jL 1 0).core 1 Hr=0 from rc1],?_⟩;clear c;have akC:=v.q.typed hc1;have OP:=v.q.ql hc1 p.size;have U:=Gx p OP (A_ _);refine av (.tuple #[.agg (aA 14 (bI rA)),au 0])<|av (.agg (aA 14 (bI rA)))<|av (au 0)<|nS 14 zQ0 fun g1 w3 ku x s2 z1 => ?_;have⟨m2,V⟩:=fC s2.old hq1 U;have tC:=iK ku U.size;have uK:=x.lt;refine dM x 0 (h1:=(dW _)) fun w4 m3 s3 z2 => ?_;have m4:aQ w4 g1 14 (bI rA) 37:=aL m3;have gF:=fP s3 x.ty;have m5:=jh gF m2;have W:=s3.below V V.size (by omega);refine av (au 0)<|aD<|ay<|av (.agg (aA 6 (bG (bG (bG (bG zT0 0 1 (fun _ => .int .u8 (3))) 1 1 (fun _=>aC 1099511627777)) 3 1 (fun _=>au 4)) 4 1 (fun _=>aC 1))))<|nS 6 zT0 fun i w5 uO N s4 z3 => ?_;have⟨m7,m8,Z⟩:=iY s4.old m5 m4 W;have qX:=iK uO W.size;have Wd:=cO uO m4.lt;have zM:=N.lt;refine dM N 0 (h1:=(bA (bA (bA (bA (fun jq _=>by show(zT0 jq).oneCell'=true; simp only[zT0]; repeat (first|rfl|split)) (fun _ _=>rfl)) (fun _ _=>rfl)) (fun _ _=>rfl)) (fun _ _=>rfl))) fun w6 m9 s5 z4 => ?_
 have m10:aQ w6 i 6 (bG (bG (bG (bG zT0 0 1 (fun _ => .int .u8 (3))) 1 1 (fun _=>aC 1099511627777)) 3 1 (fun _=>au 4)) 4 1 (fun _=>aC 1)) 25:=aL m9;have m11:aQ w6 i 6 (kJ uE) 25:=m10.congr (fun j d=>by rcases j with _|_|_|_|_|_|j <;> first|rfl|omega)
 have jT:=fP s5 N.ty;have⟨y,m13⟩:=vP jT m7 m8;have s:=s5.below Z Z.size (by omega);refine aD<|ay<|av (pt b)<|Lv (.agg (aA 6 (kJ uE))) (fM m11.aH 0)<|kF (nR (Ht b w.heap.size (0+1) mm1 Nf _ y k (f.below s m) (by omega) 1 (by omega) uE QH) (Aa (fun j d=>by rcases j with _|_|_|_|_|_|j <;> first|rfl|omega))) (ax := #[(pt b),au 1,.agg (aA 6 (kJ uE))]) ?_
 rintro h w7 ⟨mm2,c,hq2,hc2⟩;rw[(oM rg2).2.2,rv2,show bP Nf rB=Ya from rfl]at hq2;refine⟨.tuple #[.agg (aA 14 (bI rB)),au 0],by rw[c,(oM rg2).1,rv2,(oM rg2).2.1,rc2],?_⟩;clear c;have Sw:=y.q.typed hc2;have hbw2:=y.q.ql hc2 s.size;have b7:=Gx s hbw2 (A_ _);have z:=m13.om Sw (by decide);have azm:=z.lt;have A:=m11.om Sw (by decide);have azn:=A.lt;refine av (.tuple #[.agg (aA 14 (bI rB)),au 0])<|av (.agg (aA 14 (bI rB)))<|av (au 0)<|nS 14 zQ0 fun g3 w8 um B s6 z5 => ?_;have⟨m17,m18,m19,b8⟩:=jW s6.old z A hq2 b7;have BF:=iK um b7.size;have⟨Xm,agw⟩:=rD um z.lt A.lt;have GZ:=B.lt;refine dM B 0 (h1:=(dW _)) fun w9 m20 O z6 => ?_;have m21:aQ w9 g3 14 (bI rB) 37:=aL m20;have m22:=m17.cu O (by omega);have oq:=fP O B.ty;have⟨m23,C⟩:=vP oq m18 m19;have t:=O.below b8 b8.size (by omega);refine av (au 0)<|aD<|ay<|av (pt b)<|Lv (.agg (aA 6 (kJ uE))) (fM m23.aH 0)<|kF (nR (Ht b w.heap.size (0+1+1) mm2 Ya _ C k (f.below t m) (by omega) 1 (by omega) uE QH) (Aa (fun j d=>by rcases j with _|_|_|_|_|_|j <;> first|rfl|omega))) (ax := #[(pt b),au 1,.agg (aA 6 (kJ uE))]) ?_
 rintro h su ⟨mm3,c,hq3,hc3⟩;rw[(yC ra2.1).2.2]at hq3;refine⟨.tuple #[.agg (aA 14 (bI zeroE)),au 0],by rw[c,(yC ra2.1).1,(yC ra2.1).2.1,ra2.2],?_⟩;clear c;have u:=C.q.typed hc3;have agR:=C.q.ql hc3 t.size;have P:=Gx t agR (A_ _);have D:=m22.om u (by decide);have azo:=D.lt;have E:=m23.om u (by decide);have azp:=E.lt;have F:=m21.om u (by decide);have azq:=F.lt;refine av (.tuple #[.agg (aA 14 (bI zeroE)),au 0])<|av (.agg (aA 14 (bI zeroE)))<|av (au 0)<|nS 14 zQ0 fun g4 Ah CU G s8 z7 => ?_;have⟨nX,ou,lu,m32,Q⟩:=nE s8.old D E F hq3 P;have NT:=iK CU P.size;have⟨asK,asL,asM⟩:=AZ CU D.lt E.lt F.lt;have M9:=G.lt;refine dM G 0 (h1:=(dW _)) fun BZ oQ o z8 => ?_;have nL:aQ BZ g4 14 (bI zeroE) 37:=aL oQ;have oO:=nX.cu o (by omega);have uq:=fP o G.ty;have nT:=jh uq ou;have qV:=lu.cu o (by omega);have qB:=jh uq m32;have R:=o.below Q Q.size (by omega);refine av (au 0)<|aD<|ay<|av (pf i 3)<|ji nT 3 (au 5) fun FK pE s10 z9 => ?_;have sJ:aQ FK i 6 (kJ OO) 25:=pE.congr (fun j d=>by rcases j with _|_|_|_|_|_|j <;> first|rfl|omega)
 have uV:=fP s10 nT.ty;have⟨mK,ni,H,qw⟩:=Em uV oO qV qB nL;have r:=s10.below R R.size (by omega);refine aD<|ay<|av (pt b)<|Lv (.agg (aA 6 (kJ OO))) (fM sJ.aH 0)<|kF (nR (Ht b w.heap.size (0+1+1+1) mm3 Ya _ H k (f.below r m) (by omega) 1 (by omega) OO aaZ) (Aa (fun j d=>by rcases j with _|_|_|_|_|_|j <;> first|rfl|omega))) (ax := #[(pt b),au 1,.agg (aA 6 (kJ OO))]) ?_
 rintro h K6 ⟨mm4,c,hq4,hc4⟩;rw[(yC ra3.1).2.2]at hq4;refine⟨.tuple #[.agg (aA 14 (bI zeroE)),au 14],by rw[c,(yC ra3.1).1,(yC ra3.1).2.1,ra3.2],?_⟩;clear c;have l:=H.q.typed hc4;have agS:=H.q.ql hc4 r.size;have S:=Gx r agS (A_ _);have I:=mK.om l (by decide);have azr:=I.lt;have J:=ni.om l (by decide);have azs:=J.lt;have K:=qw.om l (by decide);have azt:=K.lt;have vE:=sJ.om l (by decide);have azu:=vE.lt;refine av (.tuple #[.agg (aA 14 (bI zeroE)),au 14])<|av (.agg (aA 14 (bI zeroE)))<|av (au 14)<|nS 14 zQ0 fun g5 JE SN M s11 YP => ?_;have⟨rQ,uM,uw,uW,T⟩:=nE s11.old I J K hq4 S;have lg5:=iK SN S.size;have⟨afZ,aga,agb,agc⟩:=KM SN I.lt J.lt K.lt vE.lt;have tg5:=M.lt;refine dM M 0 (h1:=(dW _)) fun w16 xk g z11 => ?_;have uh:aQ w16 g5 14 (bI zeroE) 37:=aL xk;have rR:=rQ.cu g (by omega);have sw:=uM.cu g (by omega);have vU:=uw.cu g (by omega);have vT:=fP g M.ty;have uj:=jh vT uW;have b16:=g.below T T.size (by omega);refine av (au 14)<|aD<|ay<|av (au 0)<|Lv aG (dZ rfl)<|av aG<|av (au 0)<|Lv aG (dZ rfl)<|av aG<|av aG<|av (pf g3 1)<|Lv (aC ((rB:EvM).seq)) (aM sw.aH 1)<|Lv aG (dZ rs2)<|av aG<|av aG<|av (au 0)<|Lv aG (dZ rfl)<|av aG<|av aG<|Lv (.agg (aA 14 (bI zeroE))) (fM vU.aH 0)<|av (.agg (aA 14 zQ0))<|Lv aG (Fx.wQ (n:=14) (ks := [(some .i64),(some .u64),(some .u64),(some .u64),(some .u64),(some .u64),(some .u64),(some .u64),(some .u8),(some .u64),(some .i64),(some .i64),(some .u64),(some .u64)]) (X:=bI zeroE) (Y:=fun a=>if a<1 then au 0 else if a<8 then aC 0 else if a<9 then .int .u8 (0)else if a<10 then aC 0 else if a<12 then au 0 else aC 0) 12 true rfl rfl rfl (Fx.Tn (fun j d=>by rcases j with _|_|_|_|_|_|_|_|_|_|_|_|_|_|j <;> first|rfl|omega)) (AJ Cw) (Ka (AJ Cw) (fun j d=>by rcases j with _|_|_|_|_|_|_|_|_|_|_|_|_|_|j <;> first|rfl|omega)) rfl (by kernel_rfl) (by kernel_rfl) (by kernel_rfl) (by kernel_rfl) (by kernel_rfl))<|av aG<|av aG<|av (au 14)<|Lv aG (dZ rfl)<|av aG ?_
 refine av aG<|av (pt b)<|dX (Kj uj 1 1099511627777 (by omega)) _ rfl ?_;intro Ph hb2;have b17:=bB hb2 b16;refine Lv aG (dZ rl2)<|av aG<|av aG<|aD<|Wr<|aJ aG ?_;exact⟨rfl,b17⟩
end Go.Proofs.YtcbedgfikejkoaaGreatDoor
namespace Go.Proofs.YtcbedgfikejkoaaGreatDoor
open Go.RowKit Go
namespace Rt
section
variable {L:eF} {i:Int} {x y z:jC}
theorem akD(h:BG L i):BG (MW L i x) i/\(∀ w,mZ L i w->mZ (MW L i x) i w):=by
 cases hb:fq L i x with
 | true=>rw[(yC hb).2.2]; exact⟨h,fun _ q=>q⟩
 | false =>
   by_cases c:iR L i x=0
   ·rw[(oM hb).2.2,(xY c).2.1]; exact Cx h rfl
   ·rw[(DN hb c).2.2]; exact⟨h,fun _ q=>q⟩
theorem QI(h:BG L i)(d:Fj L i x=0)(f : ¬ Cy L i x=zeroE)(e:x.kind=3\/x.kind=4):mZ (MW L i x) i x:=by
 cases hb:fq L i x with
 | true=>exact N_ (yC hb).1 f
 | false =>
   have c:iR L i x=0:=(by rw[<- (oM hb).2.1]; exact d);obtain⟨_,b,a⟩:=xY c;rw[(oM hb).2.2];rw[b]at a ⊢;exact GY h a rfl e rfl rfl rfl rfl rfl
theorem QJ(h:BG L i)(f:mZ L i y):Cy L i y=zeroE/\Fj L i y=0/\MW L i y=L:=by
 obtain⟨a,b⟩:=GX h f;obtain⟨c,d,e⟩:=yC a;exact⟨c,d.trans b,e⟩
end
end Rt
end Go.Proofs.YtcbedgfikejkoaaGreatDoor
namespace Go.Proofs.YtcbedgfikejkoaaGreatDoor
open Go.RowKit Rt
open Fx (Ws ev cK down)
section
namespace Rt
section
variable {ev:Nat->EvM} {an k N S ic jc:Nat} {L:eF} {v:EvM} {i x id r y:Int} {m:dP}
attribute [local irreducible] bO dz
theorem Sy(h:BG L i)(C:v.o≠i)(t:(i-1).toNat≠aP v):BG (gJ L v) i:=by
 obtain⟨k,y⟩ : ∃ k,k=down (fun i=>CG v (L.g i)) L.gn:=⟨_,rfl⟩;have n:k<=L.gn:=by rw[y]; exact Fx.rZ _ _
 have w:(gJ L v).g=cK L.g k (oI v):=by rw[y]; rfl
 have x:(gJ L v).gn=L.gn+1:=rfl;have B:(gJ L v).rn (i-1).toNat=L.rn (i-1).toNat:=b_ t;have A:(gJ L v).rq (i-1).toNat=L.rq (i-1).toNat:=b_ t;have s : ∀ r,¬ qK i r (oI v)=true:=fun r e=>C (zx.1 e).1;refine⟨fun q f r m e => ?_,fun r m q p f z b d => ?_⟩
 ·rw[x]at f;rw[w]at e;rw[B,A]
  rcases dD n f with rfl|⟨j,hj,ej,_,_⟩
  ·rw[dw]at e; exact N_ e (s r)
  rw[ej]at e; exact h.a j hj r m e
 rw[x]at f z;rw[w]at b d
 rcases dD n f with rfl|⟨j,hj,ej,j1,j2⟩
 ·rw[dw]at b; exact N_ b (s r)
 rw[ej]at b
 rcases dD n z with rfl|⟨l,hl,el,l1,l2⟩
 ·rw[dw]at d; exact N_ d (s r)
 rw[el]at d;have:=h.u r m j l hj hl b d;subst this;by_cases c:j<k
 ·rw[j1 c,l1 c]
 rw[j2 (by omega),l2 (by omega)]
theorem Sz(h:BG L i)(B:v.o≠i)(n:(i-1).toNat≠aP v)(b:gW L v=0):BG (eY L v) i:=by
 unfold gW at b;split at b
 ·cases b
 split at b
 ·cases b
 rename_i c2;have m : ¬ L.grant v.o v.of<0:=fun e=>c2 (.inl e);obtain⟨k,y,C⟩ : ∃ k,wN L v=k/\L.g k 0=v.o:=by
  unfold wN
  rcases gu (fun i=>decide (L.g i 0=v.o)&&decide (L.g i 1=v.of)) L.gn with ⟨k,D,e,d⟩|⟨e,_⟩
  ·rw[T_,Q_,Q_]at d;exact⟨k,by unfold eF.grant; rw[e]; rfl,d.1⟩
  ·unfold eF.grant at m; rw[e]at m; omega
 have A:(eY L v).rn (i-1).toNat=L.rn (i-1).toNat:=b_ n;have z:(eY L v).rq (i-1).toNat=L.rq (i-1).toNat:=b_ n;have j : ∀ r q,qK i r ((eY L v).g q)=true->qK i r (L.g q)=true:=fun r q e=>by
  have x:(eY L v).g q=if q=k then aI (L.g k) 4 v.req else L.g q:=by rw[<- y]; rfl
  rw[x]at e;by_cases c:q=k
  ·rw[d_ c]at e;have:=(zx.1 e).1;have s:aI (L.g k) 4 v.req 0=L.g k 0:=b_ (by decide);rw[s,C]at this;exact N_ this B
  ·rw[b_ c]at e; exact e
 exact⟨fun q l r f e=>by rw[A,z]; exact h.a q l r f (j r q e),fun r f q p l d t w=>h.u r f q p l d (j r q t) (j r p w)⟩
theorem Yb(h:BG L i)(hi:1<=i)(e:v.o≠i):BG (bP L v) i:=by
 unfold bP;by_cases c:bD L v=0
 ·rw[d_ c];obtain⟨m,b⟩:=xX c;have n:=nI m;have d:(i-1).toNat≠aP v:=by unfold aP; omega
  have f:BG (fT L v) i:=by
   unfold dQ at b;unfold fT;by_cases g:v.kind=1
   ·rw[d_ g]; exact⟨h.a,h.u⟩
   rw[b_ g]at b ⊢;by_cases j:v.kind=2
   ·rw[d_ j]; exact⟨h.a,h.u⟩
   rw[b_ j]at b ⊢;by_cases k:v.kind=3
   ·rw[d_ k]; exact Sy h e d
   rw[b_ k]at b ⊢;by_cases l:v.kind=4
   ·rw[d_ l]at b ⊢; exact Sz h e d b
   rw[b_ l];split
   ·exact⟨h.a,h.u⟩
   split <;> exact⟨h.a,h.u⟩
  exact⟨f.a,f.u⟩
 rw[b_ c]; exact h
def UqA(L:eF):Prop := ∀ i,1<=i->BG L i
theorem UqA.new(k:Nat):UqA (jL k 0).core:=fun i _ => .new k
theorem UqA.apply(h:UqA L):UqA (bP L v):=fun i a=>by
 by_cases e:v.o=i
 ·exact(Cx (h i a) e).1
 ·exact Yb (h i a) a e
theorem Tw.up(h:Tw m L N S)(f:S+1<=1000000)(ha:v.aT<=65536)(c:bD L v=0):Tw (gX m v) (bP L v) (N+1) (S+1)/\bY (gX m v)=(bY m).qM v/\(bY m).OI v:=by
 have a:bZ m v=0:=(h.t.s.apply h.t.t h.t.i v).1.trans c;have e:dG m.known v=true:=by rw[h.t.s.known]; exact iA c
 have d:=(h.check ha e).1 a;have b:=Jg h.t.t h.t.s.ga a;refine⟨⟨h.t.apply v,h.w.apply,?_,f⟩,b,d⟩;rw[b];exact h.s.qM d.pre (EA e).1 ha
theorem Yc(h:Tw m L N S)(k:BG L ((ic:Int)+1))(hi:ic<6)(d:r≠0)(ha:gG m ((ic:Int)+1) r=false):yJ L ((ic:Int)+1) r<0:=by
 unfold yJ
 rcases gu (fun q=>qK ((ic:Int)+1) r (L.g q)) L.gn with ⟨q,i,e,f⟩|⟨e,_⟩
 ·obtain⟨j,c,b⟩:=k.a q i r d f;rw[show((ic:Int)+1-1).toNat=ic by omega]at c b;have:=(h.t.s.ask ic r hi).2 ⟨j,c,b⟩;rw[ha]at this; cases this
 rw[e]; decide
def AQ(id x:Int):jC:=⟨3,id,0,x,100000,0⟩
def pG(r:Int):jC:=⟨4,0,0,0,r,100000⟩
theorem Yd{K:Nat->Int}{z:jC}(a : ∀ q,q<6->0<=K q/\K q<=2000)(hi:ic<6)(k:qC (iL K ((ic:Int)+1) z)=true)(h:dH (iL K ((ic:Int)+1) z)=true):dG K (iL K ((ic:Int)+1) z)=true:=by
 have e:((ic:Int)+1-1).toNat=ic:=by omega
 have m:=a ic hi;have g:xu (iL K ((ic:Int)+1) z)=true:=by
  unfold xu; rw[List.all_eq_true]; intro j i; exact f_ (by have:=a j (P_.1 i); show K j<_; omega)
 have l:K ((ic:Int)+1-1).toNat=K ic:=by rw[e]
 have b:jy (iL K ((ic:Int)+1) z).o=true:=by show jy ((ic:Int)+1)=true; unfold jy; simp; omega
 have c:decide (1<=(iL K ((ic:Int)+1) z).seq)=true:=f_ (by show 1<=K ((ic:Int)+1-1).toNat+1; omega);have d:decide ((iL K ((ic:Int)+1) z).seq<1099511627776)=true:=f_ (by show K ((ic:Int)+1-1).toNat+1<_; omega);have f:decide ((iL K ((ic:Int)+1) z).deps ((iL K ((ic:Int)+1) z).o-1).toNat=(iL K ((ic:Int)+1) z).seq-1)=true:=f_ (by show K ((ic:Int)+1-1).toNat=K ((ic:Int)+1-1).toNat+1-1; omega);refine J5 ?_ rfl fun q _=>O_ _;unfold bR;rw[b,c,d,f,g,k,h]; rfl
theorem MX{K:Nat->Int}(a : ∀ q,q<6->0<=K q/\K q<=2000)(hi:ic<6)(hr:1<=r)(c:r≠100000):dG K (iL K ((ic:Int)+1) (pG r))=true:=by
 refine Yd a hi ?_ ?_
 ·simp[qC,kX,iL,pG]
 unfold dH;have b:(iL K ((ic:Int)+1) (pG r)).kind=4:=rfl;rw[b,b_ (by decide),b_ (by decide),b_ (by decide),d_ rfl];show(decide (1<=r)&&decide ((1:Int)<=100000) && !decide (r=100000))=true;rw[f_ hr,g_ c]; rfl
theorem QK(h:Tw m L N S)(e : ∀ q,q<6->0<=L.known q/\L.known q<=2000)(hi:ic<6)(hr:1<=r)(k:r≠100000)(ha:gG m ((ic:Int)+1) r=false)(f:iy m ((ic:Int)+1) 100000=false\/m.g (eZ m ((ic:Int)+1) 100000) 4≠0) :
 bD L (iL L.known ((ic:Int)+1) (pG r))=if m.inn ic=false\/m.left ic=true then 10 else 12:=by
 have c:=(h.t.s.apply h.t.t h.t.i (iL L.known ((ic:Int)+1) (pG r))).1;have b:=MX e hi hr k;have a:dG m.known (iL L.known ((ic:Int)+1) (pG r))=true:=by rw[h.t.s.known]; exact b
 have d:aP (iL L.known ((ic:Int)+1) (pG r))=ic:=by show((ic:Int)+1-1).toNat=ic; omega
 rw[<- c];unfold bZ;rw[b_ (by rw[(EA b).1]; decide),b_ (by rw[QA a]; decide),b_ (by rw[a]; decide),d];split
 ·rfl
 unfold fG;have j:(iL L.known ((ic:Int)+1) (pG r)).kind=4:=rfl;rw[j,b_ (by decide),b_ (by decide),b_ (by decide),d_ rfl];unfold jv;exact(b_ (show ¬ gG m ((ic:Int)+1) r=true by rw[ha]; decide)).trans (d_ f)
theorem Fp(h:Tw m L N S)(b:BG L ((ic:Int)+1))(hi:ic<6){z:jC}(a:z.req≠0)(ha:gG m ((ic:Int)+1) z.req=false):fq L ((ic:Int)+1) z=false/\iR L ((ic:Int)+1) z=bD L (iL L.known ((ic:Int)+1) z) :=
 ⟨(Fh (Yc h b hi a ha)).1,mD (by unfold jy; simp; omega)⟩
structure akE(L L1 L2:eF)(ic:Nat)(id x:Int):Prop where
 o : ∀ jc,jc<6->jc≠ic->Fj L1 ((jc:Int)+1) (pG 100001)≠0/\MW L1 ((jc:Int)+1) (pG 100001)=L1
 g:Fj L1 ((ic:Int)+1) (pG 100001)=0/\MW L1 ((ic:Int)+1) (pG 100001)=L2
 a:Fj L2 ((ic:Int)+1) (pG 100001)=0/\MW L2 ((ic:Int)+1) (pG 100001)=L2
 t:Fj L2 ((ic:Int)+1) (pG 100002)=12/\MW L2 ((ic:Int)+1) (pG 100002)=L2
 s:Fj L2 ((ic:Int)+1) (AQ id x)=0/\MW L2 ((ic:Int)+1) (AQ id x)=L2
 l : ∀ q,q<bO L.t L.tn id->jd L2 (aZ L.t L.tn q id) ((ic:Int)+1)=jd L (aZ L.t L.tn q id) ((ic:Int)+1)
theorem Ye{f g:Nat->Int}{n:Int}(hi:ic<6)(c:f (6+ic)=g (6+ic)+n)(b:f (12+ic)=g (12+ic)+n)(a : ∀ p,p≠6+ic->p≠12+ic->f p=g p):Ar f ic=Ar g ic:=by
 unfold Ar
 rw[c,b,a ic (by omega) (by omega),a (18+(6*0+ic)) (by omega) (by omega),a (18+(6*1+ic)) (by omega) (by omega),a (18+(6*2+ic)) (by omega) (by omega),a (18+(6*3+ic)) (by omega) (by omega),a (18+(6*4+ic)) (by omega) (by omega),a (18+(6*5+ic)) (by omega) (by omega),
  a (18+(6*ic+0)) (by omega) (by omega),a (18+(6*ic+1)) (by omega) (by omega),a (18+(6*ic+2)) (by omega) (by omega),a (18+(6*ic+3)) (by omega) (by omega),a (18+(6*ic+4)) (by omega) (by omega),a (18+(6*ic+5)) (by omega) (by omega)]
 omega
theorem acA{c:Int}(h:bD L v=0)(a : ∀ q,q<6->0<=L.known q/\L.known q<=c) : ∀ q,q<6->0<=(bP L v).known q/\(bP L v).known q<=c+1:=fun q b=>by
 rw[zV h];unfold aI;have:=a q b;split
 ·rename_i e; rw[<- e]; omega
 ·omega
theorem Yf(h:wH k ev an L)(W:Ws k ev an)(hu:UqA L)(hK : ∀ q,q<6->0<=L.known q/\L.known q<=1000)(hi:ic<6)(hx:1<=x/\x<=65536)(hd:Fj L ((ic:Int)+1) (AQ id x)=0) :
 ∃ u D,MW L ((ic:Int)+1) (AQ id x)=u/\akE L u D ic id x:=by
 obtain⟨m,N,w,he⟩:=h.tw W;have hS:=W.an;have hno : ∀ o r,256<r->gG m o r=false:=fun o r hr=>by
  cases c:gG m o r with
  | false=>rfl
  | true =>
    have:=W.agP (K:=L.known) an (A_ _) o r (by rw[<- he]; exact c);omega
 have hA:(bY m).Ok:=by rw[he]; exact(tY W.toEvs an (A_ _) L.known h.kc).1 an (A_ _)
 obtain⟨ag1,mk1⟩:=Fp w (hu _ (by omega)) hi (z:=AQ id x) (by show(100000:Int)≠0; decide) (hno _ _ (by show(256:Int)<100000; decide));have U:bD L (iL L.known ((ic:Int)+1) (AQ id x))=0:=by rw[<- mk1,<- (oM ag1).2.1]; exact hd
 have eL1:MW L ((ic:Int)+1) (AQ id x)=bP L (iL L.known ((ic:Int)+1) (AQ id x)):=by
  rw[(oM ag1).2.2,(xY (mk1.trans U)).2.1]
 obtain⟨f,O⟩ : ∃ q,q=iL L.known ((ic:Int)+1) (AQ id x):=⟨_,rfl⟩;rw[<- O]at U eL1;have v1o:f.o=(ic:Int)+1:=by rw[O]; rfl
 have v1k:f.kind=3:=by rw[O]; rfl
 have v1n:f.node=id:=by rw[O]; rfl
 have v1a:f.aT=x:=by rw[O]; rfl
 have v1r:f.req=100000:=by rw[O]; rfl
 have a1:aV f=ic:=by unfold aV; omega
 obtain⟨B,A,Zb⟩:=w.up (by omega) (by omega) U;have hm1:=(xX U).1;obtain⟨u,hL1⟩ : ∃ q,q=bP L f:=⟨_,rfl⟩;rw[<- hL1]at B eL1;have ab:UqA u:=by rw[hL1]; exact hu.apply
 have hK1 : ∀ q,q<6->0<=u.known q/\u.known q<=1000+1:=by rw[hL1]; exact acA U hK
 have hK1' : ∀ q,q<6->0<=u.known q/\u.known q<=2000:=fun q Q=>by have:=hK1 q Q; omega
 have hP1:=Zb.pre;obtain⟨hn1,hg1⟩:=hP1.n3 v1k;rw[v1n]at hn1;obtain⟨l,asR⟩ : ∃ q,q=gX m f:=⟨_,rfl⟩;rw[<- asR]at B A;have hA1:(bY l).Ok:=by rw[A]; exact Ab.XK hA hP1
 have Y : ∀ o r,256<r->r≠100000->gG l o r=false:=fun o r h1 h2=>by
  show(bY l).ask o r=false;rw[A];show((bY m).ask o r || ((decide (f.kind=3) || decide (f.kind=4))&&(decide (o=f.o)&&decide (r=f.req))))=false;rw[show(bY m).ask o r=false from hno o r h1,g_ (show ¬ r=f.req by rw[v1r]; exact h2),J_,J_]; rfl
 have gh1:(bY l).gh ((ic:Int)+1) 100000=true:=by
  rw[A];show((bY m).gh ((ic:Int)+1) 100000 || (decide (f.kind=3)&&(decide ((ic:Int)+1=f.o)&&decide (100000=f.req))))=true;rw[f_ v1k,f_ v1o.symm,f_ v1r.symm,Bool.or_eq_true]; exact .inr rfl
 have Z : ∀ j,(bY l).g ((ic:Int)+1) 100000 j=if j=2 then id else if j=3 then x else 0:=fun j=>by
  rw[A];show(if f.kind=3/\(ic:Int)+1=f.o/\100000=f.req then(if j=2 then f.node else if j=3 then f.aT else 0)else _)=_;rw[d_ ⟨v1k,v1o.symm,v1r.symm⟩,v1n,v1a]
 have R1 : ∀ y p,(bY l).R y p=(bY m).R y p+if(bY m).on id y=true/\p=6+ic then x else 0:=fun y p=>by
  rw[A];show(bY m).R y p+(bY m).dl f y p=_;unfold Ab.dl;rw[b_ (by omega),b_ (by omega),d_ v1k,v1n,a1,v1a]
 have on1 : ∀ y,(bY l).on id y=(bY m).on id y:=fun y=>by rw[A]; exact Ab.Kk hA hP1 hn1 y
 have akF : ∀ y,(bY m).on id y=true->may (aW m y)=true:=fun y hy=>w.t.may (dO.lN w.t.t rfl y ((xV w.t.t id y).1 hy));obtain⟨d,H⟩ : ∃ q,q=iL u.known ((ic:Int)+1) (pG 100001):=⟨_,rfl⟩;have X:d.o=(ic:Int)+1:=by rw[H]; rfl
 have v2k:d.kind=4:=by rw[H]; rfl
 have V:d.of=100000:=by rw[H]; rfl
 have v2a:d.aT=0:=by rw[H]; rfl
 have v2r:d.req=100001:=by rw[H]; rfl
 have S:aV d=ic:=by unfold aV; omega
 have I : ∀ {c:Int} {P:Prop},c≠4->d.kind=c->P:=fun a b=>N_ (b.symm.trans v2k) a;have hO2:(bY l).OI d:=by
  refine⟨?_,?_,⟨I (by decide),I (by decide),I (by decide),fun _=>by rw[X,V]; exact gh1,I (by decide)⟩,I (by decide),I (by decide),I (by decide),fun _=>⟨?_,?_,?_⟩,I (by decide)⟩
  ·rw[S,A];show((bY m).inn ic || _)=true;rw[<- a1,Zb.inn]; rfl
  ·rw[S,A];show((bY m).left ic || (decide (f.kind=7)&&_))=false;rw[<- a1,Zb.left,g_ (by omega)]; rfl
  ·rw[v2r]; exact Y _ _ (by decide) (by decide)
  ·rw[X,V,Z]; rfl
  ·intro y hy;rw[X,V,Z,d_ rfl,on1]at hy;have g3:(bY l).g ((ic:Int)+1) 100000 3=x:=(by rw[Z,b_ (by decide),d_ rfl]);have e6:(bY l).R y (6+ic)=(bY m).R y (6+ic)+x:=(by rw[R1,d_ ⟨hy,rfl⟩]);have e12:(bY l).R y (12+ic)=(bY m).R y (12+ic):=(by rw[R1,b_ (fun q=>by have:=q.2; omega),E_]);rw[X,V,g3,S,e6,e12];have:=(((jO (aW m y)).1 (akF y hy)).2.1 ic hi).2.1;unfold F C at this;have J:(bY m).R y (6+ic)=aW m y (6+ic):=rfl;have M:(bY m).R y (12+ic)=aW m y (12+ic):=rfl;rw[J,M]; omega
 have hr2:dG u.known d=true:=by rw[H]; exact MX hK1' hi (by decide) (by decide)
 have aa:bD u d=0:=by
  rw[<- (B.t.s.apply B.t.t B.t.i d).1];exact(B.check (by omega) (by rw[B.t.s.known]; exact hr2)).2 hO2
 obtain⟨ag2,mk2⟩:=Fp B (ab _ (by omega)) hi (z:=pG 100001) (by show(100001:Int)≠0; decide) (Y _ _ (by show(256:Int)<100001; decide) (by show(100001:Int)≠100000; decide));rw[<- H]at mk2;have hc2:Fj u ((ic:Int)+1) (pG 100001)=0:=(oM ag2).2.1.trans (mk2.trans aa);have eL2:MW u ((ic:Int)+1) (pG 100001)=bP u d:=by
  rw[(oM ag2).2.2,(xY (mk2.trans aa)).2.1,<- H]
 obtain⟨E,G,_⟩:=B.up (by omega) (by omega) aa;obtain⟨D,hL2⟩ : ∃ q,q=bP u d:=⟨_,rfl⟩;rw[<- hL2]at E eL2;obtain⟨v,asV⟩ : ∃ q,q=gX l d:=⟨_,rfl⟩;rw[<- asV]at E G;have hu2:UqA D:=by rw[hL2]; exact ab.apply
 have hK2 : ∀ q,q<6->0<=D.known q/\D.known q<=2000:=fun q Q=>by
  have:=acA aa hK1 q Q;rw[hL2]; omega
 have uE:gG v ((ic:Int)+1) 100002=false:=by
  show(bY v).ask ((ic:Int)+1) 100002=false;rw[G];show((bY l).ask ((ic:Int)+1) 100002 || ((decide (d.kind=3) || decide (d.kind=4))&&(decide ((ic:Int)+1=d.o)&&decide (100002=d.req))))=false;rw[show(bY l).ask ((ic:Int)+1) 100002=false from Y _ _ (by decide) (by decide),g_ (show ¬ (100002:Int)=d.req by omega),J_,J_]; rfl
 have hi2:v.inn ic=true:=by
  show(bY v).inn ic=true;rw[G];show((bY l).inn ic || _)=true;rw[<- S,hO2.inn]; rfl
 have hl2:v.left ic=false:=by
  show(bY v).left ic=false;rw[G];show((bY l).left ic || (decide (d.kind=7)&&_))=false;rw[<- S,hO2.left,g_ (by omega)]; rfl
 have g2:iy v ((ic:Int)+1) 100000=false\/v.g (eZ v ((ic:Int)+1) 100000) 4≠0:=by
  have hh:iy v ((ic:Int)+1) 100000=true:=by
   show(bY v).gh ((ic:Int)+1) 100000=true;rw[G]; exact Ab.XJ gh1
  have e:(bY v).g ((ic:Int)+1) 100000 4=v.g (eZ v ((ic:Int)+1) 100000) 4:=d_ ⟨hh,by decide,by decide⟩;refine .inr ?_;rw[<- e,G];show(if d.kind=3/\(ic:Int)+1=d.o/\100000=d.req then _ else if d.kind=4/\(ic:Int)+1=d.o/\100000=d.of/\4=4 then d.req else _)≠0;rw[b_ (fun q=>by have:=q.1; omega),d_ ⟨v2k,X.symm,V.symm,rfl⟩,v2r]; decide
 have d1:mZ u ((ic:Int)+1) (AQ id x):=by
  rw[<- eL1];refine QI (hu _ (by omega)) hd (fun e => ?_) (.inl rfl);rw[(oM ag1).1,(xY (mk1.trans (O ▸ U))).2.1]at e;exact N_ (M_ EvM.kind e) (show ¬ (3:Int)=0 by decide)
 have d2:mZ D ((ic:Int)+1) (pG 100001):=by
  rw[<- eL2];refine QI (ab _ (by omega)) hc2 (fun e => ?_) (.inr rfl);rw[(oM ag2).1,(xY (mk2.trans aa)).2.1]at e;exact N_ (M_ EvM.kind e) (show ¬ (4:Int)=0 by decide)
 have d3:mZ D ((ic:Int)+1) (AQ id x):=by
  rw[<- eL2]; exact(akD (ab _ (by omega))).2 _ d1
 obtain⟨_,b1,b2⟩:=QJ (hu2 _ (by omega)) d2;obtain⟨_,b3,b4⟩:=QJ (hu2 _ (by omega)) d3;obtain⟨ag3,mk3⟩:=Fp E (hu2 _ (by omega)) hi (z:=pG 100002) (by show(100002:Int)≠0; decide) uE;have c3:iR D ((ic:Int)+1) (pG 100002)=12:=by
  rw[mk3,QK E hK2 hi (by decide) (by decide) uE g2,b_ (by rw[hi2,hl2]; decide)]
 obtain⟨_,b5,b6⟩:=DN ag3 (by rw[c3]; decide);refine⟨u,D,eL1,⟨fun jc hj hne => ?_,⟨hc2,eL2⟩,⟨b1,b2⟩,⟨b5.trans c3,b6⟩,⟨b3,b4⟩,fun q Q => ?_⟩⟩
 ·obtain⟨ag4,mk4⟩:=Fp B (ab _ (by omega)) hj (z:=pG 100001) (by show(100001:Int)≠0; decide) (Y _ _ (by show(256:Int)<100001; decide) (by show(100001:Int)≠100000; decide));have gh4:iy l ((jc:Int)+1) 100000=false:=by
   show(bY l).gh ((jc:Int)+1) 100000=false;rw[A];show((bY m).gh ((jc:Int)+1) 100000 || (decide (f.kind=3)&&(decide ((jc:Int)+1=f.o)&&decide (100000=f.req))))=false;have:iy m ((jc:Int)+1) 100000=false:=by
    cases c:iy m ((jc:Int)+1) 100000 with
    | false=>rfl
    | true =>
      obtain⟨q,Q,J,M⟩:=kI.1 c;have:=w.t.s.ga q Q;have J:m.g q 0=_:=J;have M:m.g q 1=_:=M;rw[J,M,hno _ _ (by decide)]at this; cases this
   rw[show(bY m).gh ((jc:Int)+1) 100000=false from this,g_ (show ¬ (jc:Int)+1=f.o by omega)]; simp
  have c4:iR u ((jc:Int)+1) (pG 100001)≠0:=by
   rw[mk4,QK B hK1' hj (by decide) (by decide) (Y _ _ (by decide) (by decide)) (.inl gh4)];split <;> decide
  obtain⟨_,J,M⟩:=DN ag4 c4;exact⟨by rw[J]; exact c4,M⟩
 have hon:(bY m).on id (aZ L.t L.tn q id)=true:=(xV w.t.t _ _).2 ((w.t.s.T.mem w.t.t w.t.i id _).2 ⟨q,Q,rfl⟩);obtain⟨y,ey⟩ : ∃ y,y=aZ L.t L.tn q id:=⟨_,rfl⟩;rw[<- ey]at hon ⊢;have asW:(bY v).on id y=true:=by
  rw[G,Ab.Kk hA1 hO2.pre (by rw[A]; exact Ab.zW hn1),on1]; exact hon
 have asX:may (aW v y)=true:=E.t.may (dO.lN E.t.t rfl y ((xV E.t.t id y).1 asW));rw[<- E.t.s.local E.t.i,<- w.t.s.local w.t.i,<- v1o,wG asX hm1,wG (akF y hon) hm1,a1];have R2 : ∀ p,aW v y p=aW m y p+(if p=6+ic then x else 0)+if p=12+ic then x else 0:=fun p=>by
  show(bY v).R y p=_;rw[G];show(bY l).R y p+(bY l).dl d y p=_;unfold Ab.dl;rw[b_ (by omega),b_ (by omega),b_ (by omega),d_ v2k,X,V,S,Z,Z,R1,d_ rfl,b_ (show ¬ (3:Nat)=2 by decide),d_ rfl,on1];simp only[hon,true_and];rfl
 refine Ye (n:=x) hi ?_ ?_ fun p h1 h2 => ?_
 ·rw[R2,d_ rfl,b_ (by omega)]; omega
 ·rw[R2,b_ (by omega),d_ rfl]; omega
 rw[R2,b_ h1,b_ h2]; omega
end
end Rt
end
end Go.Proofs.YtcbedgfikejkoaaGreatDoor
