/-
  What the proof of the law rests on, part 6: walks of functions, and plain laws; each says its conditions itself.
-/
import Derived.Test.YtcbedgfikejkoaaDoorRows
import Derived.LaidMore
import Derived.OpenShut
import Derived.ProofKit
import Derived.Stop.Joined
import Derived.Test.YtcbedgfikejkoaaDoorZA5
set_option maxHeartbeats 1600000
set_option linter.unusedVariables false
set_option linter.unusedSimpArgs false
namespace Go.Proofs.YtcbedgfikejkoaaDoor
open Go.RowKit Rt
open Fx (eT dI eY bf eX eU eG dM eZ gW dO gX eP gH gY Lv sN Ln Ws Qv Wl Rp Wc Qs Wr Sb Lk Wk rC rV sR Rs Rn Rd Rk Wb Wx Wo yE Wt pJ Ai Qn zQ tL yt zG wT zT zR iB zV jC nY rR zW yu zU yF yx rv aA aL bE aI ev bT Stp bV aO flat fH Mp dK aT fq gF bA down fM iW iJ jk kU bQ bD cells_one jD aX pV unseen jl iQ cu bX dA cZ dh iE iT qL gI)
set_option maxRecDepth 20000
set_option linter.unusedVariables false
namespace Rt
theorem JV{L:dU}{i:Int}{y z:fU}(h:E8 L i)(a:mX L i y)(c:y.kind=3)(b:z.kind=3)(hr:z.req=y.req)(ha:z.bM≠y.bM):dD L i z=true/\fP L i z=14:=by
 obtain⟨q,e,k⟩:=zD h a
 have l:J9 z=true:=by have:=IV a; unfold J9 at *; rw[b,hr]; rw[c]at this; exact this
 have e:qK L i z.req=(q:Int):=by rw[hr]; exact e
 obtain⟨f,j⟩:=tK l e
 refine⟨f,?_⟩
 rw[j,if_neg]
 obtain⟨_,⟨_,_,_,d⟩|⟨k4,_⟩⟩:=k
 ·unfold pI nG
  rw[b,decide_eq_false (show ¬ L.g q 3=z.bM from fun e=>ha (e.symm.trans d)),Bool.and_false,Bool.and_false,Bool.and_false]
  intro h; simp at h
 rw[c]at k4; exact absurd k4 (by decide)
def GI:fU:=⟨3,J8,0,5,1,0⟩
theorem Qo:sJ GI:=⟨⟨by decide,by decide⟩,⟨by decide,by decide⟩,⟨by decide,by decide⟩,⟨by decide,by decide⟩,⟨by decide,by decide⟩,⟨by decide,by decide⟩⟩
noncomputable def rq0:dB:=tH 1 0 0 0 0 0 0
noncomputable def Xx:dU:=(oO 1 0).core
def rA:EvM:=kg (oO 1 0).core.known 1 Ak
noncomputable def JW:dB:=iN rq0 rA
noncomputable def E9:dU:=dR Xx rA
noncomputable def rB:EvM:=kg E9.known 1 pq
noncomputable def Yj:EvM:=kg JW.known 1 pq
noncomputable def Xy:dB:=iN JW Yj
noncomputable def NS:dU:=dR E9 rB
theorem rw0:IL rq0 Xx 0 := .new 1
theorem Yk:IL JW E9 1:=rw0.apply rA
theorem rBe:Yj=rB:=by show kg JW.known 1 pq=kg E9.known 1 pq; rw[Yk.s.known]
theorem rw2:IL Xy NS 2:=by show IL (iN JW Yj) (dR E9 rB) 2; rw[rBe]; exact Yk.apply rB
theorem rc1:gQ Xx 1 Ak=0:=by rw[jB (by decide)]; exact rw0.err rA (by kernel_rfl)
theorem rv1:dZ Xx 1 Ak=rA:=by unfold dZ; rw[if_pos rc1]; rfl
theorem rg1:dD Xx 1 Ak=false:=(EP (.inr ⟨by decide,by decide⟩)).1
theorem rc2:gQ E9 1 pq=0:=by rw[jB (by decide)]; show cK E9 rB=0; rw[<- rBe]; exact Yk.err Yj (by kernel_rfl)
theorem rv2:dZ E9 1 pq=rB:=by unfold dZ; rw[if_pos rc2]; rfl
theorem rn1:E9.gn=0:=Yk.s.gn.symm.trans (by kernel_rfl)
theorem rg2:dD E9 1 pq=false:=(xZ (by unfold qK; rw[rn1]; decide)).1
theorem rs2:rB.seq=2:=by rw[<- rBe]; kernel_rfl
theorem ru1:E8 E9 1:=(EO (E8.new 1) rfl).1
theorem ru2:E8 NS 1:=(EO ru1 rfl).1
theorem rd2:mX NS 1 pq:=GA ru1 (show cK E9 rB=0 from(jB (L:=E9) (x:=pq) (by decide)).symm.trans rc2) rfl (.inl rfl) rfl rfl rfl rfl rfl
theorem Yl:dD NS 1 pq=true/\fP NS 1 pq=0:=Gy ru2 rd2
theorem Ym:dD NS 1 GI=true/\fP NS 1 GI=14:=JV ru2 rd2 rfl rfl rfl (by decide)
theorem rr2:kF Xy J8=(bL (JW.R 0) 1 4).1:=by
 unfold kF
 rw[if_pos (show Xy.T.has J8=true by kernel_rfl)]
 unfold wP
 rw[show Xy.idx J8=0 by kernel_rfl,show Xy.R 0=(lX JW (fun x=>bL x 1 4) (JW.T.path J8)).R 0 by kernel_rfl]
 show(if JW.T.x 0∈JW.T.path J8 then(bL (JW.R 0) 1 4).1 else JW.R 0)=_
 rw[if_pos]
 rw[show JW.T.path J8 = [J8] by kernel_rfl]
 exact List.mem_singleton.2 (by kernel_rfl)
theorem rl2:zA NS J8 1=6:=rw2.loc _ _ (by rw[rr2]; kernel_rfl)
theorem rz{i:Int}{x:fU}:dD Bv i x=false/\fP Bv i x=0:=by
 by_cases h:J9 x=true
 ·exact xZ (by unfold qK; show(-1:Int)<0; decide)
 have:dD Bv i x=false:=by
  unfold dD; cases c:J9 x with
  | true=>exact absurd c h
  | false=>rfl
 exact⟨this,by unfold fP; rw[this]; rfl⟩
end Rt
theorem Rt.rF{a b:Value}{y:Nat->Value}{x:fU}(hy : ∀ j,j<6->y j=iO x j):(#[a,b,.agg (aA 6 y)]:Array Value) = #[a,b,.agg (aA 6 (iO x))]:=by rw[Fx.fE hy]
theorem ER(w:World)(f:gF w 0 0 8 vX) :
 Calls Tryd.prog 5 #[] w fun e w'=>e = .returned (.bool true)/\Below w.heap.size w w':=by
 have m:=f.lt (by omega)
 have k:1<=w.heap.size:=by omega
 refine Kent Tryd.func5 77 ?_
 refine ay<|av aF<|aD<|ay<|ko (Xn 1 (by omega) _) ?_
 rintro h w1 ⟨b,m0,c,hl1,hb1⟩
 refine⟨_,c,?_⟩
 clear c
 have v:=hl1.weak (Below.refl w.heap.size w).size
 have p:=aR hb1 (Below.refl w.heap.size w)
 refine av (.tuple #[(pt b),au 0])<|av ((pt b))<|av (au 0)<|av ((pt b))<|av (au 0)<|aD<|Ws<|ay<|av (au 0)<|Lv aF (ng rfl)<|av aF<|av ((pt b))<|Lv aF (Fx.jF rfl rfl rfl (by kernel_rfl))<|av aF<|aD<|aN<|Wk<|sN<|ay<|av ((pt b))<|av (.agg (aA 6 (bE (bE (fun a=>if a<1 then .int .u8 (0)else if a<2 then aC 0 else if a<4 then au 0 else aC 0) 0 1 (fun _ => .int .u8 (1))) 3 1 (fun _=>au 10))))<|ko (jZ (Qm b w.heap.size 0 m0 ((oO 1 0).core) _ v k (f.below p m) (by omega) 1 (by omega) Ak Qj) (rF (fun j d=>by rcases j with _|_|_|_|_|_|j <;> first|rfl|omega))) (ax := #[(pt b),au 1,.agg (aA 6 (bE (bE (fun a=>if a<1 then .int .u8 (0)else if a<2 then aC 0 else if a<4 then au 0 else aC 0) 0 1 (fun _ => .int .u8 (1))) 3 1 (fun _=>au 10)))]) ?_
 rintro h w2 ⟨mm1,c,hq1,hc1⟩
 rw[(sK (L:=(oO 1 0).core) rg1).2.2,show dZ (oO 1 0).core 1 Ak=rA from rv1,show dR (oO 1 0).core rA=E9 from rfl]at hq1
 refine⟨.tuple #[.agg (aA 14 (dF rA)),au 0],by rw[c,(sK (L:=(oO 1 0).core) rg1).1,show dZ (oO 1 0).core 1 Ak=rA from rv1,(sK (L:=(oO 1 0).core) rg1).2.1,show gQ (oO 1 0).core 1 Ak=0 from rc1],?_⟩
 clear c
 have ahq:=v.q.typed hc1
 have abI:=v.q.CX hc1 p.size
 have U:=Qa p abI (Nat.le_refl _)
 refine av (.tuple #[.agg (aA 14 (dF rA)),au 0])<|av (.agg (aA 14 (dF rA)))<|av (au 0)<|ni 14 (fun a=>if a<1 then au 0 else if a<8 then aC 0 else if a<9 then .int .u8 (0)else if a<10 then aC 0 else if a<12 then au 0 else aC 0) fun g1 w3 oI x s2 z1 => ?_
 have⟨m2,V⟩:=gU s2.old hq1 U
 have wY:=iC oI U.size
 have xK:=x.lt
 refine fI x 0 (h1:=(ku _)) fun w4 m3 s3 z2 => ?_
 have m4:aL w4 g1 14 (dF rA) 33:=aO m3
 have iD:=iB s3 x.ty
 have m5:=oC iD m2
 have W:=s3.below V V.size (by omega)
 refine av (au 0)<|aD<|ay<|av (.agg (aA 6 (bE (bE (bE (bE (fun a=>if a<1 then .int .u8 (0)else if a<2 then aC 0 else if a<4 then au 0 else aC 0) 0 1 (fun _ => .int .u8 (3))) 1 1 (fun _=>aC 1099511627777)) 3 1 (fun _=>au 4)) 4 1 (fun _=>aC 1))))<|ni 6 (fun a=>if a<1 then .int .u8 (0)else if a<2 then aC 0 else if a<4 then au 0 else aC 0) fun i w5 wM N s4 z3 => ?_
 have⟨m7,m8,Z⟩:=kM s4.old m5 m4 W
 have zN:=iC wM W.size
 have Xr:=bS wM m4.lt
 have Cg:=N.lt
 refine fI N 0 (h1:=(aX (aX (aX (aX (fun jq _=>by show((fun a=>if a<1 then .int .u8 (0)else if a<2 then aC 0 else if a<4 then au 0 else aC 0:Nat->Value) jq).oneCell'=true; simp only[]; repeat (first|rfl|split)) (fun _ _=>rfl)) (fun _ _=>rfl)) (fun _ _=>rfl)) (fun _ _=>rfl))) fun w6 m9 s5 z4 => ?_
 have m10:aL w6 i 6 (bE (bE (bE (bE (fun a=>if a<1 then .int .u8 (0)else if a<2 then aC 0 else if a<4 then au 0 else aC 0) 0 1 (fun _ => .int .u8 (3))) 1 1 (fun _=>aC 1099511627777)) 3 1 (fun _=>au 4)) 4 1 (fun _=>aC 1)) 37:=aO m9
 have m11:aL w6 i 6 (iO pq) 37:=m10.congr (fun j d=>by rcases j with _|_|_|_|_|_|j <;> first|rfl|omega)
 have mH:=iB s5 N.ty
 have⟨y,m13⟩:=Dq mH m7 m8
 have s:=s5.below Z Z.size (by omega)
 refine aD<|ay<|av ((pt b))<|Lv (.agg (aA 6 (iO pq))) (jh m11.aK 0)<|ko (jZ (Qm b w.heap.size (0+1) mm1 E9 _ y k (f.below s m) (by omega) 1 (by omega) pq IQ) (rF (fun j d=>by rcases j with _|_|_|_|_|_|j <;> first|rfl|omega))) (ax := #[(pt b),au 1,.agg (aA 6 (iO pq))]) ?_
 rintro h w7 ⟨mm2,c,hq2,hc2⟩
 rw[(sK rg2).2.2,rv2,show dR E9 rB=NS from rfl]at hq2
 refine⟨.tuple #[.agg (aA 14 (dF rB)),au 0],by rw[c,(sK rg2).1,rv2,(sK rg2).2.1,rc2],?_⟩
 clear c
 have Xz:=y.q.typed hc2
 have hbw2:=y.q.CX hc2 s.size
 have b7:=Qa s hbw2 (Nat.le_refl _)
 have z:=m13.zH Xz (by decide)
 have ahs:=z.lt
 have A:=m11.zH Xz (by decide)
 have aht:=A.lt
 refine av (.tuple #[.agg (aA 14 (dF rB)),au 0])<|av (.agg (aA 14 (dF rB)))<|av (au 0)<|ni 14 (fun a=>if a<1 then au 0 else if a<8 then aC 0 else if a<9 then .int .u8 (0)else if a<10 then aC 0 else if a<12 then au 0 else aC 0) fun g3 w8 Bf B s6 z5 => ?_
 have⟨m17,m18,m19,b8⟩:=jH s6.old z A hq2 b7
 have G6:=iC Bf b7.size
 have⟨UA,abJ⟩:=rH Bf z.lt A.lt
 have Ie:=B.lt
 refine fI B 0 (h1:=(ku _)) fun w9 m20 O z6 => ?_
 have m21:aL w9 g3 14 (dF rB) 33:=aO m20
 have m22:=m17.eH O (by omega)
 have yJ:=iB O B.ty
 have⟨m23,C⟩:=Dq yJ m18 m19
 have t:=O.below b8 b8.size (by omega)
 refine av (au 0)<|aD<|ay<|av ((pt b))<|Lv (.agg (aA 6 (iO pq))) (jh m23.aK 0)<|ko (jZ (Qm b w.heap.size (0+1+1) mm2 NS _ C k (f.below t m) (by omega) 1 (by omega) pq IQ) (rF (fun j d=>by rcases j with _|_|_|_|_|_|j <;> first|rfl|omega))) (ax := #[(pt b),au 1,.agg (aA 6 (iO pq))]) ?_
 rintro h zI ⟨mm3,c,hq3,hc3⟩
 rw[(uW Yl.1).2.2]at hq3
 refine⟨.tuple #[.agg (aA 14 (dF zeroE)),au 0],by rw[c,(uW Yl.1).1,(uW Yl.1).2.1,Yl.2],?_⟩
 clear c
 have u:=C.q.typed hc3
 have abK:=C.q.CX hc3 t.size
 have P:=Qa t abK (Nat.le_refl _)
 have D:=m22.zH u (by decide)
 have ahv:=D.lt
 have E:=m23.zH u (by decide)
 have ahw:=E.lt
 have F:=m21.zH u (by decide)
 have ahx:=F.lt
 refine av (.tuple #[.agg (aA 14 (dF zeroE)),au 0])<|av (.agg (aA 14 (dF zeroE)))<|av (au 0)<|ni 14 (fun a=>if a<1 then au 0 else if a<8 then aC 0 else if a<9 then .int .u8 (0)else if a<10 then aC 0 else if a<12 then au 0 else aC 0) fun g4 N7 DC G s8 z7 => ?_
 have⟨tQ,uY,mP,m32,Q⟩:=mF s8.old D E F hq3 P
 have J2:=iC DC P.size
 have⟨abL,abM,abN⟩:=BQ DC D.lt E.lt F.lt
 have JG:=G.lt
 refine fI G 0 (h1:=(ku _)) fun N8 oK o z8 => ?_
 have nZ:aL N8 g4 14 (dF zeroE) 33:=aO oK
 have qP:=tQ.eH o (by omega)
 have DL:=iB o G.ty
 have qQ:=oC DL uY
 have vG:=mP.eH o (by omega)
 have uo:=oC DL m32
 have R:=o.below Q Q.size (by omega)
 refine av (au 0)<|aD<|ay<|av ((pf i 3))<|nk qQ 3 (au 5) fun SX qR s10 z9 => ?_
 have wC:aL SX i 6 (iO GI) 37:=qR.congr (fun j d=>by rcases j with _|_|_|_|_|_|j <;> first|rfl|omega)
 have KX:=iB s10 qQ.ty
 have⟨qU,vH,H,rO⟩:=Kw KX qP vG uo nZ
 have r:=s10.below R R.size (by omega)
 refine aD<|ay<|av ((pt b))<|Lv (.agg (aA 6 (iO GI))) (jh wC.aK 0)<|ko (jZ (Qm b w.heap.size (0+1+1+1) mm3 NS _ H k (f.below r m) (by omega) 1 (by omega) GI Qo) (rF (fun j d=>by rcases j with _|_|_|_|_|_|j <;> first|rfl|omega))) (ax := #[(pt b),au 1,.agg (aA 6 (iO GI))]) ?_
 rintro h Vd ⟨mm4,c,hq4,hc4⟩
 rw[(uW Ym.1).2.2]at hq4
 refine⟨.tuple #[.agg (aA 14 (dF zeroE)),au 14],by rw[c,(uW Ym.1).1,(uW Ym.1).2.1,Ym.2],?_⟩
 clear c
 have l:=H.q.typed hc4
 have abO:=H.q.CX hc4 r.size
 have S:=Qa r abO (Nat.le_refl _)
 have I:=qU.zH l (by decide)
 have ahy:=I.lt
 have J:=vH.zH l (by decide)
 have ahz:=J.lt
 have K:=rO.zH l (by decide)
 have ahA:=K.lt
 have Ac:=wC.zH l (by decide)
 have ahB:=Ac.lt
 refine av (.tuple #[.agg (aA 14 (dF zeroE)),au 14])<|av (.agg (aA 14 (dF zeroE)))<|av (au 14)<|ni 14 (fun a=>if a<1 then au 0 else if a<8 then aC 0 else if a<9 then .int .u8 (0)else if a<10 then aC 0 else if a<12 then au 0 else aC 0) fun g5 VY Pw M s11 YT => ?_
 have⟨uw,wZ,wE,Ad,T⟩:=mF s11.old I J K hq4 S
 have UH:=iC Pw S.size
 have⟨UJ,UK,UL,UM⟩:=I8 Pw I.lt J.lt K.lt Ac.lt
 have WZ:=M.lt
 refine fI M 0 (h1:=(ku _)) fun w16 wF g YU => ?_
 have uy:aL w16 g5 14 (dF zeroE) 33:=aO wF
 have sG:=uw.eH g (by omega)
 have uZ:=wZ.eH g (by omega)
 have zJ:=wE.eH g (by omega)
 have Jg:=iB g M.ty
 have xg:=oC Jg Ad
 have b16:=g.below T T.size (by omega)
 refine av (au 14)<|aD<|ay<|av (au 0)<|Lv aG (gT rfl)<|av aG<|av (au 0)<|Lv aG (gT rfl)<|av aG<|av aG<|av ((pf g3 1))<|Lv (aC ((rB:EvM).seq)) (aP uZ.aK 1)<|Lv aG (gT rs2)<|av aG<|av aG<|av (au 0)<|Lv aG (gT rfl)<|av aG<|av aG<|Lv (.agg (aA 14 (dF zeroE))) (jh zJ.aK 0)<|av (.agg (aA 14 (fun a=>if a<1 then au 0 else if a<8 then aC 0 else if a<9 then .int .u8 (0)else if a<10 then aC 0 else if a<12 then au 0 else aC 0)))<|Lv aG (Fx.vk (n:=14) (ks := [(some .i64),(some .u64),(some .u64),(some .u64),(some .u64),(some .u64),(some .u64),(some .u64),(some .u8),(some .u64),(some .i64),(some .i64),(some .u64),(some .u64)]) (X:=dF zeroE) (Y:=fun a=>if a<1 then au 0 else if a<8 then aC 0 else if a<9 then .int .u8 (0)else if a<10 then aC 0 else if a<12 then au 0 else aC 0) 12 true rfl rfl rfl (Fx.Oh (fun j d=>by rcases j with _|_|_|_|_|_|_|_|_|_|_|_|_|_|j <;> first|rfl|omega)) (wG uV) (xV (wG uV) (fun j d=>by rcases j with _|_|_|_|_|_|_|_|_|_|_|_|_|_|j <;> first|rfl|omega)) rfl (by kernel_rfl) (by kernel_rfl) (by kernel_rfl) (by kernel_rfl) (by kernel_rfl))<|av aG<|av aG<|av (au 14)<|Lv aG (gT rfl)<|av aG ?_
 refine av aG<|av ((pt b))<|fC (Qd xg 1 1099511627777 (by omega)) _ rfl ?_
 intro XI hb2
 have b17:=aR hb2 b16
 refine Lv aG (gT rl2)<|av aG<|av aG<|aD<|Wr<|aM aG ?_
 exact⟨rfl,b17⟩
set_option maxRecDepth 20000
set_option linter.unusedVariables false
theorem Rt.Qp{z y:Nat->Value}{b c:Value}(h : ∀ j,j<20->z j=y j):(#[.agg (aA 20 z),b,c]:Array Value) = #[.agg (aA 20 y),b,c]:=by rw[Fx.fE h]
theorem NT(i:Int)(x:fU)(w:World)(hi : -9223372036854775808<=i/\i<=9223372036854775807)(l:gF w 0 0 8 vX) :
 Calls Tryd.prog 4 #[au i,.agg (aA 6 (iO x))] w fun e J=>e = .returned (.bool true)/\Below w.heap.size w J:=by
 have B:=l.lt (by omega)
 refine Kent Tryd.func4 40 ?_
 refine ay<|rG fun L R t b H W => ?_
 have q:=aR H.old (Below.refl w.heap.size w)
 have M:=gK t
 have P:=b.lt
 refine av aF<|aD<|ay<|av (au i)<|Lv (.agg (aA 6 (iO x))) (jh b.aK 0)<|fC (Xw i x _) _ rfl ?_
 intro S v
 have⟨o,d⟩:=gU v b q
 refine av (.tuple #[.agg (aA 14 (dF zeroE)),au 2])<|av (.agg (aA 14 (dF zeroE)))<|av (au 2)<|ni 14 (fun a=>if a<1 then au 0 else if a<8 then aC 0 else if a<9 then .int .u8 (0)else if a<10 then aC 0 else if a<12 then au 0 else aC 0) fun u T k c I Z => ?_
 have⟨C,f⟩:=gU I.old o d
 have N:=iC k d.size
 have O:=bS k o.lt
 have Q:=c.lt
 refine fI c 0 (h1:=(ku _)) fun K D p z3 => ?_
 have E:aL K u 14 (dF zeroE) 33:=aO D
 have A:=iB p c.ty
 have F:=oC A C
 have r:=p.below f f.size (by omega)
 refine av (au 2)<|aD<|ay<|av (.agg (aA 20 (fun a=>if a<12 then .bool false else if a<18 then aC 0 else .slice none 0 0)))<|av (au i)<|Lv (.agg (aA 6 (iO x))) (jh F.aK 0)<|fC (jZ (IW Bv none none 0 0 i x _ (U4 _).g (show 0<=1000000 by decide)) (Qp (fun j m=>by rcases j with _|_|_|_|_|_|_|_|_|_|_|_|_|_|_|_|_|_|_|_|j <;> first|rfl|omega))) (ax := #[.agg (aA 20 (fun a=>if a<12 then .bool false else if a<18 then aC 0 else .slice none 0 0)),au i,.agg (aA 6 (iO x))]) (.tuple #[.bool false,au 0]) (by rw[rz.1,rz.2]) ?_
 intro U y
 have⟨G,h⟩:=gU y E r
 refine av (.tuple #[.bool false,au 0])<|av aF<|av (au 0)<|av aF<|av (au 0)<|aD<|ay<|Lv (.agg (aA 14 (dF zeroE))) (jh G.aK 0)<|av (.agg (aA 14 (fun a=>if a<1 then au 0 else if a<8 then aC 0 else if a<9 then .int .u8 (0)else if a<10 then aC 0 else if a<12 then au 0 else aC 0)))<|Lv aG (Fx.vk (n:=14) (ks := [(some .i64),(some .u64),(some .u64),(some .u64),(some .u64),(some .u64),(some .u64),(some .u64),(some .u8),(some .u64),(some .i64),(some .i64),(some .u64),(some .u64)]) (X:=dF zeroE) (Y:=fun a=>if a<1 then au 0 else if a<8 then aC 0 else if a<9 then .int .u8 (0)else if a<10 then aC 0 else if a<12 then au 0 else aC 0) 12 true rfl rfl rfl (Fx.Oh (fun j m=>by rcases j with _|_|_|_|_|_|_|_|_|_|_|_|_|_|j <;> first|rfl|omega)) (wG uV) (xV (wG uV) (fun j m=>by rcases j with _|_|_|_|_|_|_|_|_|_|_|_|_|_|j <;> first|rfl|omega)) rfl (by kernel_rfl) (by kernel_rfl) (by kernel_rfl) (by kernel_rfl) (by kernel_rfl))<|av aG<|av (au 2)<|Lv aG (gT rfl)<|av aG<|av aG<|av aF<|av aG<|av aG<|av aG<|av (au 0)<|Lv aG (gT rfl)<|av aG<|av aG<|fC (ER _ (l.below h B)) _ rfl ?_
 intro V z
 have s:=aR z h
 refine av aG<|av aG<|aD<|Wr<|aM aG ?_
 exact⟨rfl,s⟩
end Go.Proofs.YtcbedgfikejkoaaDoor
namespace Go.Proofs.YtcbedgfikejkoaaDoor
open Go.RowKit Go.WideShapes Go.ChangeShapes Go.Deep Rt
theorem bdU{n:Int}(h:(Lit.int .u64 n).wf=true):je n:=by have:=U3 h; unfold je; omega
theorem bdI{n:Int}(h:(Lit.int .i64 n).wf=true):uz n:=by have:=NJ h; unfold uz; omega
end Go.Proofs.YtcbedgfikejkoaaDoor
namespace Go.Proofs.YtcbedgfikejkoaaDoor
open Go.RowKit Go.WideShapes Go.ChangeShapes Go.Deep Rt
def XA:List (Option IntKind) := [some .u8,some .u64,some .i64,some .i64,some .u64,some .u64]
def Rz(x:Nat->Value):fU:=⟨numOf (x 0),numOf (x 1),numOf (x 2),numOf (x 3),numOf (x 4),numOf (x 5)⟩
theorem NU{x:Nat->Value}(h : ∀(j:Nat) (k:Option IntKind),XA[j]? = some k->P7 k (x j)):(∀ j,j<6->x j=iO (Rz x) j)/\sJ (Rz x):=by
 have o : ∀(j:Nat) (k:IntKind),XA[j]? = some (some k)->x j = .int k (numOf (x j))/\(Lit.int k (numOf (x j))).wf=true:=fun j k e=>(h j (some k) e).num
 refine⟨fun j a => ?_,Xl (o 0 .u8 rfl).2,bdU (o 1 .u64 rfl).2,bdI (o 2 .i64 rfl).2,bdI (o 3 .i64 rfl).2,bdU (o 4 .u64 rfl).2,bdU (o 5 .u64 rfl).2⟩
 rcases j with _|_|_|_|_|_|j
 ·exact(o 0 .u8 rfl).1
 ·exact(o 1 .u64 rfl).1
 ·exact(o 2 .i64 rfl).1
 ·exact(o 3 .i64 rfl).1
 ·exact(o 4 .u64 rfl).1
 ·exact(o 5 .u64 rfl).1
 omega
theorem JX{P:Program}{l:Array Field}{T:TypeId}{H:Type}{enc:TypeId × Value->H}{w W:World}{r:Reach}{base D:Nat}{v:Value}{d:DataW H}{s:List MemPlace}(p:P.underlying T=some (.struct l))(o:tJ P D T=some XA)(f:Value.okWide P W r base T v)(h:DataW.Trod enc P w 0 (fun _=>true) true T v d s) : ∃ V:fU,v = .agg (Fx.aA 6 (iO V))/\sJ V:=by
 unfold Value.okWide at f
 rw[p]at f
 obtain⟨a,rfl,_⟩:=f
 obtain⟨t,n⟩:=h
 have g:=wh _ _ _ o _ _ _ n
 have u:a.size=6:=by have:=g.1; simpa [Value.cells,XA] using this
 have q : ∀(j:Nat) (k:Option IntKind),XA[j]? = some k->P7 k ((fun j=>a[j]?.getD undef) j):=fun j k e=>by
  obtain⟨v,b,c⟩:=g.2 j k e
  have m:a[j]? = some v:=by simpa [Value.cells] using b
  show P7 k (a[j]?.getD undef)
  rw[m]; exact c
 obtain⟨b,c⟩:=NU q
 refine⟨_,congrArg Value.agg ?_,c⟩
 apply Array.ext_getElem?
 intro j
 by_cases i:j<6
 ·rw[Fx.dP _ i,<- b j i]
  show a[j]? = some (a[j]?.getD undef)
  rw[Array.getElem?_eq_getElem (by omega)]; rfl
 rw[Array.getElem?_eq_none (by omega),Array.getElem?_eq_none (by rw[Fx.aV]; omega)]
set_option maxRecDepth 100000 in
theorem NV{H:Type}{enc:TypeId × Value->H}{w W:World}{r:Reach}{base:Nat}{v:Value}{d:DataW H}{b:List MemPlace}(a:Value.okWide Tryd.prog W r base 37 v)(h:DataW.Trod enc Tryd.prog w 0 (fun _=>true) true 37 v d b) : ∃ V:fU,v = .agg (Fx.aA 6 (iO V))/\sJ V :=
 JX (D:=8) Tryd.underlying37 (by kernel_rfl) a h
end Go.Proofs.YtcbedgfikejkoaaDoor
namespace Go.Proofs.YtcbedgfikejkoaaDoor
open Go Go.RowKit Rt
set_option linter.unusedVariables false
set_option maxRecDepth 100000
theorem kG : Tryd.prog.globalNamed "leat/ledger.kinds" = some 0 := by kernel_rfl
theorem kT:(Tryd.prog.globals[0]?).map (·.type)=some 106:=by kernel_rfl
theorem kC:Tryd.prog.cellsOf 105=1:=by kernel_rfl
theorem kC8:Tryd.prog.cellsOf 106=8:=by kernel_rfl
theorem ES{H:Type}{enc:TypeId × Value->H}{P:Program}{w:World}{base:Nat}{d:Nat->Bool}{a:Bool}{fuel:Nat}{t:TypeId}{c rs:Array TypeId}{e:Bool}{v:Value}{q:List MemPlace}(b:P.underlying t=some (.func c rs e))(h:DataW.trod enc P w base d a fuel t [v]=some (.nil,q)):v = .nilFunc:=by
 cases fuel with
 | zero=>simp[DataW.trod]at h
 | succ n=>cases v <;> simp[DataW.trod,b]at h <;> rfl
theorem ET {W : World} (h : laidMetH Tryd.prog [("leat/ledger.kinds", Rows.laid_leat_ledger_kinds)] W) : Fx.gF W 0 0 8 vX := by
 obtain⟨g,t,e,R,p,V,Z,hv,T⟩:=h.funcs (List.mem_singleton.2 rfl)
 obtain rfl:=Option.some.inj (kG.symm.trans V)
 obtain rfl:=Option.some.inj (kT.symm.trans Z)
 have U:DataW.trod (funcToken Tryd.prog) Tryd.prog W 0 (fun _=>true) true R 106 e.toList=some (.agg [.nil,.held [40,42,108,101,97,116,47,108,101,100,103,101,114,46,76,101,100,103,101,114,41,46,109,97,107,101,115],.held [40,42,108,101,97,116,47,108,101,100,103,101,114,46,76,101,100,103,101,114,41,46,114,97,105,115,101,115],.held [40,42,108,101,97,116,47,108,101,100,103,101,114,46,76,101,100,103,101,114,41,46,116,97,107,101,115],.held [40,42,108,101,97,116,47,108,101,100,103,101,114,46,76,101,100,103,101,114,41,46,102,114,101,101,115],.held [40,42,108,101,97,116,47,108,101,100,103,101,114,46,76,101,100,103,101,114,41,46,109,111,118,101,115],.held [40,42,108,101,97,116,47,108,101,100,103,101,114,46,76,101,100,103,101,114,41,46,106,111,105,110,115],.held [40,42,108,101,97,116,47,108,101,100,103,101,114,46,76,101,100,103,101,114,41,46,108,101,97,118,101,115]],p):=T
 obtain⟨k,m,_,Q,Y,hl,l⟩:=DataW.trod_array Tryd.underlying106 U
 have P:k.map (·.1) = [.nil,.held [40,42,108,101,97,116,47,108,101,100,103,101,114,46,76,101,100,103,101,114,41,46,109,97,107,101,115],.held [40,42,108,101,97,116,47,108,101,100,103,101,114,46,76,101,100,103,101,114,41,46,114,97,105,115,101,115],.held [40,42,108,101,97,116,47,108,101,100,103,101,114,46,76,101,100,103,101,114,41,46,116,97,107,101,115],.held [40,42,108,101,97,116,47,108,101,100,103,101,114,46,76,101,100,103,101,114,41,46,102,114,101,101,115],.held [40,42,108,101,97,116,47,108,101,100,103,101,114,46,76,101,100,103,101,114,41,46,109,111,118,101,115],.held [40,42,108,101,97,116,47,108,101,100,103,101,114,46,76,101,100,103,101,114,41,46,106,111,105,110,115],.held [40,42,108,101,97,116,47,108,101,100,103,101,114,46,76,101,100,103,101,114,41,46,108,101,97,118,101,115]]:=by
  have:=congrArg Prod.fst Q
  simp only[DataW.agg.injEq]at this
  exact this.symm
 rw[kC8]at Y
 rw[kC]at l
 have a : ∀ i,i<8 -> ∀ d,(k.map (·.1))[i]? = some d -> ∃ c q,e[i]? = some c/\DataW.trod (funcToken Tryd.prog) Tryd.prog W 0 (fun _=>true) true m 105 [c]=some (d,q):=fun i X d b=>by
  have f:=l i X
  rw[Nat.mul_one]at f
  have S:(e.toList.drop i).take 1 = [e.toList[i]'(by omega)]:=by rw[List.drop_eq_getElem_cons (by omega)]; rfl
  rw[S]at f
  rw[List.getElem?_map]at b
  cases hx:k[i]? with
  | none=>rw[hx]at b; cases b
  | some x =>
    rw[hx]at f b
    simp only[Option.map_some,Option.some.injEq]at b
    refine⟨e.toList[i]'(by omega),x.2,?_,by rw[f,<- b]⟩
    rw[<- Array.getElem?_toList,List.getElem?_eq_getElem (by omega)]
 rw[P]at a
 intro j hj
 rw[Nat.zero_add,World.var?_cell kG hv j]
 obtain⟨c0,q0,n,z⟩:=a 0 (by decide) _ rfl
 have H:=ES Tryd.underlying105 z
 obtain⟨c1,q1,o,A⟩:=a 1 (by decide) _ rfl
 have I:=func_of_trod (f0:=108) Tryd.underlying105 (by kernel_rfl) A
 obtain⟨c2,q2,r,B⟩:=a 2 (by decide) _ rfl
 have J:=func_of_trod (f0:=109) Tryd.underlying105 (by kernel_rfl) B
 obtain⟨c3,q3,s,C⟩:=a 3 (by decide) _ rfl
 have K:=func_of_trod (f0:=110) Tryd.underlying105 (by kernel_rfl) C
 obtain⟨c4,q4,u,D⟩:=a 4 (by decide) _ rfl
 have L:=func_of_trod (f0:=111) Tryd.underlying105 (by kernel_rfl) D
 obtain⟨c5,q5,v,E⟩:=a 5 (by decide) _ rfl
 have M:=func_of_trod (f0:=112) Tryd.underlying105 (by kernel_rfl) E
 obtain⟨c6,q6,w,F⟩:=a 6 (by decide) _ rfl
 have N:=func_of_trod (f0:=113) Tryd.underlying105 (by kernel_rfl) F
 obtain⟨c7,q7,y,G⟩:=a 7 (by decide) _ rfl
 have O:=func_of_trod (f0:=114) Tryd.underlying105 (by kernel_rfl) G
 rcases j with _|_|_|_|_|_|_|_|j
 ·rw[n,H]; rfl
 ·rw[o,I]; rfl
 ·rw[r,J]; rfl
 ·rw[s,K]; rfl
 ·rw[u,L]; rfl
 ·rw[v,M]; rfl
 ·rw[w,N]; rfl
 ·rw[y,O]; rfl
 omega
theorem NW (os : Os) (args : Array Value) : laidMetH Tryd.prog [("leat/ledger.kinds", Rows.laid_leat_ledger_kinds)] ((World.doorLaid Tryd.prog 600 os).forCall (fun _ _ => 0) ⟨#[], args, []⟩).memory :=
 laidMetH_of_parts3 (fuel:=8) (laidMet_of_run' 8 (by kernel_rfl) (by kernel_rfl)) (by kernel_rfl) (by kernel_rfl)
end Go.Proofs.YtcbedgfikejkoaaDoor
