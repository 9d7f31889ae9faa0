/-
  What the proof of the law rests on, part 8: walks of functions, and plain laws; each says its conditions itself.
-/
import Derived.Test.YtcbedgfikejkoaaGreatDoorRows
import Derived.LaidMore
import Derived.OpenShut
import Derived.ProofKit
import Derived.Stop.Joined
import Derived.Test.YtcbedgfikejkoaaGreatDoorZD7
set_option maxRecDepth 20000
set_option linter.unusedVariables false
set_option maxHeartbeats 1600000
set_option linter.unusedSimpArgs false
namespace Go.Proofs.YtcbedgfikejkoaaGreatDoor
open Go.RowKit Rt
open Fx (dA dQ iM iX Lv sN Ln Ws Qv Wl Wr Sb Wk sR Rs Rd Wb Wx Wo Qn zx wV yc Bv gH yC uG vI tK xZ Bo zX rv aA aP bB ev Stp aQ flat dB aS iU aZ iJ jM iN mP bE cells_one iF bJ rT ig dD bL bP bX bY gP gW pV fP)
namespace Rt
theorem ace{x:gV}(a : ¬ x.req=0)(h:x.kind=3\/x.kind=4):tfB x=true:=by
 unfold tfB; rw[g_ a]
 rcases h with h|h
 ·rw[f_ h]; rfl
 rw[f_ h,Bool.or_true]; rfl
theorem Nb{L:dP}{i:Int}{x:gV}(h:x.req=0 \/ ¬ x.kind=3 /\ ¬ x.kind=4):iH L i x=false/\nX L i x=0:=by
 have:iH L i x=false:=by
  unfold iH tfB
  rcases h with h|⟨h1,h2⟩
  ·rw[f_ h]; rfl
  ·rw[g_ h1,g_ h2,H_,I_]; rfl
 exact⟨this,by unfold nX; rw[this]; rfl⟩
theorem QX{L:dP}{i:Int}{x:gV}(h:EG L i x.req<0):iH L i x=false/\nX L i x=0:=by
 have:iH L i x=false:=by unfold iH; rw[g_ (by omega),I_]
 exact⟨this,by unfold nX; rw[this]; rfl⟩
theorem agv{L:dP}{i r:Int}(h : ¬ EG L i r<0) : ∃ j:Nat,j<L.gn/\EG L i r=(j:Int):=by
 unfold EG at h ⊢
 rcases iR (fun q=>DI i r (L.g q)) L.gn with ⟨k,a,e,_⟩|⟨e,_⟩
 ·exact⟨k,a,e⟩
 rw[e]at h; exact M_ (by decide) h
theorem DJ{L:dP}{i:Int}{x:gV}{j:Nat}(a:tfB x=true)(e:EG L i x.req=(j:Int)):iH L i x=true/\nX L i x=if(Aw x (L.g j) || zn x (L.g j))=true then 0 else 14:=by
 have:iH L i x=true:=by unfold iH; rw[a,e,f_ (by omega)]; rfl
 exact⟨this,by unfold nX; rw[this,d_ rfl,e]; rfl⟩
end Rt
theorem acf(g:Nat->Int)(i:Int)(x:gV)(w:World)(k:Nat)(ga:Nat)(hi:aP w k 1 (fun _=>au i) 3)(ha:aP w ga 6 (qN x) 25) :
 Calls Tryz.prog 54 #[.agg (aA 5 (jc g)),(pt k),(pt ga)] w fun e o=>e = .returned (.bool (DI i x.req g))/\Below w.heap.size w o:=by
 have r:=hi.lt;have q:=ha.lt;refine Kent Tryz.func54 23 ?_;refine ay<|oz fun h v j f n y => ?_;have⟨m,l,b⟩:=iy n.old hi ha (Below.refl w.heap.size w);have p:=gD j;have⟨s,t⟩:=sF j hi.lt ha.lt;have u:=f.lt;refine av aF<|aC<|ay<|av (pt h)<|Lv (au (g 0)) (aL f.aH 0)<|Lv (au i) (aL m.aH 0) ?_;by_cases a:(g 0)=i
 ·refine Lv aG (eH a)<|av aG<|av (pf h 1)<|Lv (aD (g 1)) (aL f.aH 1)<|av (pf ga 4)<|Lv (aD x.req) (aL l.aH 4) ?_;by_cases c:(g 1)=x.req
  ·refine Lv aG (eH c)<|av aG<|bO<|bO<|bO<|bO<|bO<|av aG<|av aG<|av aG<|aC<|Wr<|aJ aG ?_;exact⟨iD (Eq.symm (by unfold DI; rw[f_ a,f_ c]; rfl)),b⟩
  refine Lv aF (fC c)<|av aF<|av (pf h 4)<|Lv (aD (g 4)) (aL f.aH 4)<|av (pf ga 4)<|Lv (aD x.req) (aL l.aH 4) ?_;by_cases d:(g 4)=x.req
  ·refine Lv aG (eH d)<|av aG<|av aG<|av aG<|aC<|Wr<|aJ aG ?_;exact⟨iD (Eq.symm (by unfold DI; rw[f_ a,f_ d,Bool.or_true]; rfl)),b⟩
  refine Lv aF (fC d)<|av aF<|av aF<|av aF<|aC<|Wr<|aJ aF ?_;exact⟨iD (Eq.symm (by unfold DI; rw[f_ a,g_ c,g_ d]; rfl)),b⟩
 refine Lv aF (fC a)<|av aF<|bO<|bO<|bO<|bO<|bO<|bO<|bO<|bO<|bO<|bO<|bO<|bO<|av aF<|av aF<|aC<|Wr<|aJ aF ?_;exact⟨iD (Eq.symm (by unfold DI; rw[g_ a]; rfl)),b⟩
theorem Rt.O7{P:Nat->Bool}{k:Nat}(h : ∀ p,p<k->P p=false)(a:P k=false) : ∀ p,p<k+1->P p=false:=fun p b=>by
 by_cases e:p=k
 ·rw[e]; exact a
 ·exact h p (by omega)
theorem akB(a:Option Addr)(n cap:Nat)(g:Nat->Nat->Int)(i:Int)(x:gV)(w:World)(G:mP w a n 5 (flat 5 (fun I=>jc (g I))))(Q:n<=1000000)(b:Nat)(ga:Nat)(hi:aP w b 1 (fun _=>au i) 3)(ha:aP w ga 6 (qN x) 25) :
 Calls Tryz.prog 53 #[.slice a (n) (cap),.func (.func 54) #[] #[(pt b),(pt ga)]] w fun e M=>e = .returned (au (fK (fun p=>DI i x.req (g p)) n))/\Below w.heap.size w M:=by
 have V:=hi.lt;have U:=ha.lt;refine Kent Tryz.func53 19 ?_;refine ay<|av (au 0)<|aC<|Ws<|ay<|av (.slice a (n) (cap))<|av (au n)<|av (au 0)<|aC<|Wb<|Wo (fun f t => ∃ k:Nat,k<=n/\(∀ p,p<k->(fun p=>DI i x.req (g p)) p=false)/\f 0 = .slice a (n) (cap)/\f 1 = .func (.func 54) #[] #[(pt b),(pt ga)]/\f 7=au (n:Int)/\f 8=au (k:Int)/\aP t b 1 (fun _=>au i) 3/\aP t ga 6 (qN x) 25/\Below w.heap.size w t) (fun f _=>(n-(intOf (f 8)).toNat)) ⟨0,by omega,(fun p h=>M_ h (by omega)),(by rfl),(by rfl),Fx.ic,Fx.ic,hi,ha,(Below.refl w.heap.size w)⟩ ?_;rintro O N ⟨k,P,o,y,z,m,d,r,s,l⟩;refine ay ?_;by_cases v:(k:Int)<(n:Int)
 ·refine Lv aG (gM v (hx:=d) (hy:=m))<|aC<|Ws<|aM<|Wk<|sN<|Ws<|Wb<|ay<|aU d<|av (au k)<|aC<|ay<|aU z<|aU y<|av (au k) ?_;obtain⟨u,L,D,A⟩:=(G.up l rfl) (by omega);have T:u<N.heap.size:=A.lt (by omega);refine Lv (pf u (5*k+L)) (dw 5 (hx:=(rfl.trans (L_ (fun q=>Value.slice q (n) (cap)) D))))<|Lv (.agg (aA 5 (jc (g k)))) (eT A (5*k) (fun S H=>Fx.iq (k:=k) (by omega) H)) ?_;by_cases c:(DI i x.req (g k))=true
  ·refine zx (by rfl) (Fx.Ai (args := [.agg (aA 5 (jc (g k)))]) rfl rfl rfl (all := #[.agg (aA 5 (jc (g k))),(pt b),(pt ga)]) rfl Tryz.func54 rfl rfl) rfl<|(acf (g k) i x _ b ga r s).mono ?_;rintro e W ⟨j,E⟩;refine⟨.bool true,by rw[j,c],?_⟩;clear j;have B:=bf E l;refine aC<|aM<|ay<|av (au k)<|av (au k)<|aC<|Wr<|bL<|sR<|pV<|bL<|sR<|aJ (au k) ?_;exact⟨oL (Eq.symm (nU o c (by omega))),B⟩
  rw[U_]at c;refine zx (by rfl) (Fx.Ai (args := [.agg (aA 5 (jc (g k)))]) rfl rfl rfl (all := #[.agg (aA 5 (jc (g k))),(pt b),(pt ga)]) rfl Tryz.func54 rfl rfl) rfl<|(acf (g k) i x _ b ga r s).mono ?_;rintro e X ⟨j,F⟩;refine⟨.bool false,by rw[j,c],?_⟩;clear j;have⟨J,K,C⟩:=iy F r s l;refine aC<|aK<|Wk<|bP<|sN<|Wl<|Lv (au ((k:Int)+1)) (fA (hx:=d))<|av (au ((k:Int)+1))<|Ln<|gW ⟨k+1,by omega,(O7 o (by simpa using c)),y,z,(m.trans Fx.ic),Fx.ic,J,K,C⟩ ?_;show(n-(intOf (au ((k:Int)+1))).toNat)<_;simp only[d,intOf]; omega
 refine Lv aF (gN v (hx:=d) (hy:=m))<|aC<|Ws<|aK<|Wx<|bX<|gP<|bY<|sN<|ay<|av (au (-1))<|aC<|Wr<|aJ (au (-1)) ?_;exact⟨oL (Eq.symm (kg (fun p R=>o p (by omega)))),l⟩
theorem aaL(L:dP)(na ga:Option Addr)(nc gc:Nat)(i:Int)(x:gV)(w:World)(hga:mP w ga L.gn 5 (flat 5 (Ns L)))(hgn:L.gn<=1000000) :
 Calls Tryz.prog 23 #[.agg (aA 20 (kI (qM L na nc ga gc))),au i,.agg (aA 6 (qN x))] w fun e w'=>e = .returned (.tuple #[.bool (iH L i x),au (nX L i x)])/\Below w.heap.size w w':=by
 refine Kent Tryz.func23 83 ?_;refine ay<|oz fun u w1 kQ Z s1 z1 => ?_;have b1:=bf s1.old (Below.refl w.heap.size w);have rF:=gD kQ;have sQ:=Z.lt;refine vU (au i) fun o w2 yw m2 s2 z2 => ?_;have⟨m3,b2⟩:=eU s2.old Z b1;have pO:=iw yw b1.size;have FK:=cu yw Z.lt;have yu:=m2.lt;refine oz fun a w3 yE z s3 z3 => ?_;have⟨m5,m6,K⟩:=iy s3.old m3 m2 b2;have Bp:=iw yE b2.size;have⟨U0,abE⟩:=sF yE m3.lt m2.lt;have Hg:=z.lt;refine av aF<|av (au 0)<|aC<|Bo (fun f b=>tfB x=true/\f 3=(pt u)/\f 4=(pt o)/\f 5=(pt a)/\aP b u 20 (kI (qM L na nc ga gc)) 50/\aP b o 1 (fun _=>au i) 3/\aP b a 6 (qN x) 25/\Below w.heap.size w b) ?_ ?_
 ·refine ay<|av (pf a 4)<|Lv (aD x.req) (aL z.aH 4) ?_;by_cases r:x.req=0
  ·refine Lv aG (eH r)<|av aG<|bO<|bO<|bO<|bO<|bO<|bO<|bO<|bO<|av aG<|aC<|aM<|ay<|av aF<|av (au 0)<|aC<|Wr<|Fx.jnR<|aJ (.tuple #[.bool false,au 0]) ?_;exact⟨by rw[(Nb (.inl r)).1,(Nb (.inl r)).2],K⟩
  refine Lv aF (fC r)<|av aF<|av (pt a)<|Lv (.int .u8 (x.kind)) (aL z.aH 0) ?_;by_cases B:x.kind=3
  ·refine Lv aF (jG B)<|av aF<|bO<|bO<|bO<|av aF<|av aF<|aC<|aK<|Wk ?_;exact rT ⟨(ace r (.inl B)),(by rfl),(by rfl),(by rfl),m5,m6,z,K⟩
  refine Lv aG (mG B)<|av aG<|av (pt a)<|Lv (.int .u8 (x.kind)) (aL z.aH 0) ?_;by_cases C:x.kind=4
  ·refine Lv aF (jG C)<|av aF<|av aF<|aC<|aK<|Wk ?_;exact rT ⟨(ace r (.inr C)),(by rfl),(by rfl),(by rfl),m5,m6,z,K⟩
  refine Lv aG (mG C)<|av aG<|av aG<|aC<|aM<|ay<|av aF<|av (au 0)<|aC<|Wr<|Fx.jnR<|aJ (.tuple #[.bool false,au 0]) ?_;exact⟨by rw[(Nb (.inr ⟨B,C⟩)).1,(Nb (.inr ⟨B,C⟩)).2],K⟩
 rintro f1 w4 ⟨v,h1,Q,d,m7,m8,m9,b4⟩;refine ay<|Lv (pf u 19) (iL h1 19)<|Lv (.slice ga (L.gn) (gc)) (aL m7.aH 19)<|Lv (.func (.func 54) #[] #[(pt o),(pt a)]) (Fx.lJ (us := []) (vs := [(pt o),(pt a)]) rfl rfl (Fx.args2 Q d))<|dH ((akB ga L.gn gc L.g i x _ (hga.up b4 rfl) hgn o a m8 m9).mono (fun e w2 Q=>(⟨Q.1,Q.2⟩:e = .returned (au (EG L i x.req))/\_))) _ rfl ?_;intro w5 hb1;have⟨aa,m11,m12,M⟩:=jN hb1 m7 m8 m9 b4;refine av (au (EG L i x.req))<|aC<|Ws<|ay<|av (au (EG L i x.req)) ?_;by_cases D:(EG L i x.req)<0
 ·refine Lv aG (gM D)<|aC<|aM<|ay<|av aF<|av (au 0)<|aC<|Wr<|sR<|aJ (.tuple #[.bool false,au 0]) ?_;exact⟨by rw[(QX D).1,(QX D).2],M⟩
 refine Lv aF (gN D)<|aC<|aK<|Wk<|sN<|Ws ?_;obtain⟨j,hj,n⟩:=agv D;refine Wl<|Lv (pf u 19) (iL h1 19)<|Lv (.slice ga (L.gn) (gc)) (aL aa.aH 19)<|aU (L_ (Value.int .i64) n) ?_;obtain⟨W,oq1,eq1,S⟩:=(hga.up M rfl) (by omega);have aeA:W<w5.heap.size:=S.lt (by omega);refine Lv (pf W (5*j+oq1)) (dw 5 (hx:=(rfl.trans (L_ (fun q=>Value.slice q (L.gn) (gc)) eq1))))<|Lv (.agg (aA 5 (Ns L j))) (eT S (5*j) (fun jq hjq=>Fx.iq (k:=j) (by omega) hjq))<|qR 5 zR0 fun c w6 X ab s5 z4 => ?_;have⟨m15,m16,m17,m18,b6⟩:=nN s5.old aa m11 m12 S M;have Og:=iw X M.size;have⟨Xh,OO,XV⟩:=AJ X aa.lt m11.lt m12.lt;have XW:W≠c:=by rw[X]; exact u_ (S.lt (by omega))
 have Oh:=ab.lt;refine dU ab 0 (h1:=(fun j _=>sH _ j)) fun w7 m19 s6 z5 => ?_;have l:aP w7 c 5 (Ns L j) 106:=aQ m19;have fV:=gH s6 ab.ty;have⟨I,J,h⟩:=zZ fV m15 m16 m17;have m24:=m18.cZ s6 (by omega);have A:=s6.below b6 b6.size (by omega);refine aC<|Bo (fun f b=>f 5=(pt a)/\f 9=(pt c)/\f 10 = .bool (Aw x (L.g j))/\aP b u 20 (kI (qM L na nc ga gc)) 50/\aP b o 1 (fun _=>au i) 3/\aP b a 6 (qN x) 25/\aP b c 5 (Ns L j) 106/\Below w.heap.size w b) ?_ ?_
 ·refine Wl<|Lv (pt a) (iL d 0)<|Lv (.int .u8 (x.kind)) (aL h.aH 0) ?_;by_cases m:x.kind=3
  ·refine Lv aG (eH m)<|av aG<|av (pf c 1)<|Lv (aD (L.g j 1)) (aL l.aH 1)<|Lv (pf a 4) (iL d 4)<|Lv (aD x.req) (aL h.aH 4) ?_;by_cases s:(L.g j 1)=x.req
   ·refine Lv aG (eH s)<|av aG<|av aG<|av (pf c 2)<|Lv (aD (L.g j 2)) (aL l.aH 2)<|Lv (pf a 1) (iL d 1)<|Lv (aD x.node) (aL h.aH 1) ?_;by_cases E:(L.g j 2)=x.node
    ·refine Lv aG (eH E)<|av aG<|av aG<|av (pf c 3)<|Lv (au (L.g j 3)) (aL l.aH 3)<|Lv (pf a 3) (iL d 3)<|Lv (au x.aT) (aL h.aH 3) ?_;by_cases O:(L.g j 3)=x.aT
     ·refine Lv aG (eH O)<|av aG<|av aG<|Ln ?_;exact rT ⟨d,(by rfl),(L_ Value.bool (by unfold Aw; rw[f_ m,f_ s,f_ E,f_ O]; rfl)),I,J,h,l,A⟩
     refine Lv aF (fC O)<|av aF<|av aF<|Ln ?_;exact rT ⟨d,(by rfl),(L_ Value.bool (by unfold Aw; rw[f_ m,f_ s,f_ E,g_ O]; rfl)),I,J,h,l,A⟩
    refine Lv aF (fC E)<|av aF<|av aF<|bO<|bO<|bO<|bO<|bO<|av aF<|av aF<|Ln ?_;exact rT ⟨d,(by rfl),(L_ Value.bool (by unfold Aw; rw[f_ m,f_ s,g_ E]; rfl)),I,J,h,l,A⟩
   refine Lv aF (fC s)<|av aF<|av aF<|bO<|bO<|bO<|bO<|bO<|av aF<|av aF<|bO<|bO<|bO<|bO<|bO<|av aF<|av aF<|Ln ?_;exact rT ⟨d,(by rfl),(L_ Value.bool (by unfold Aw; rw[f_ m,g_ s]; rfl)),I,J,h,l,A⟩
  refine Lv aF (fC m)<|av aF<|bO<|bO<|bO<|bO<|bO<|av aF<|av aF<|bO<|bO<|bO<|bO<|bO<|av aF<|av aF<|bO<|bO<|bO<|bO<|bO<|av aF<|av aF<|Ln ?_;exact rT ⟨d,(by rfl),(L_ Value.bool (by unfold Aw; rw[g_ m]; rfl)),I,J,h,l,A⟩
 rintro f2 w8 ⟨Y,h5,R,T,U,p,y,N⟩;refine Bo (fun f b=>f 10 = .bool (Aw x (L.g j))/\f 11 = .bool (zn x (L.g j))/\aP b u 20 (kI (qM L na nc ga gc)) 50/\aP b o 1 (fun _=>au i) 3/\aP b a 6 (qN x) 25/\aP b c 5 (Ns L j) 106/\Below w.heap.size w b) ?_ ?_
 ·refine Wl<|Lv (pt a) (iL Y 0)<|Lv (.int .u8 (x.kind)) (aL p.aH 0) ?_;by_cases t:x.kind=4
  ·refine Lv aG (eH t)<|av aG<|Lv (pf c 4) (iL h5 4)<|Lv (aD (L.g j 4)) (aL y.aH 4)<|Lv (pf a 4) (iL Y 4)<|Lv (aD x.req) (aL p.aH 4) ?_;by_cases F:(L.g j 4)=x.req
   ·refine Lv aG (eH F)<|av aG<|av aG<|Lv (pf c 1) (iL h5 1)<|Lv (aD (L.g j 1)) (aL y.aH 1)<|Lv (pf a 5) (iL Y 5)<|Lv (aD x.of) (aL p.aH 5) ?_;by_cases P:(L.g j 1)=x.of
    ·refine Lv aG (eH P)<|av aG<|av aG<|Ln ?_;exact rT ⟨R,(L_ Value.bool (by unfold zn; rw[f_ t,f_ F,f_ P]; rfl)),T,U,p,y,N⟩
    refine Lv aF (fC P)<|av aF<|av aF<|Ln ?_;exact rT ⟨R,(L_ Value.bool (by unfold zn; rw[f_ t,f_ F,g_ P]; rfl)),T,U,p,y,N⟩
   refine Lv aF (fC F)<|av aF<|av aF<|bO<|bO<|bO<|bO<|bO<|av aF<|av aF<|Ln ?_;exact rT ⟨R,(L_ Value.bool (by unfold zn; rw[f_ t,g_ F]; rfl)),T,U,p,y,N⟩
  refine Lv aF (fC t)<|av aF<|bO<|bO<|bO<|bO<|bO<|av aF<|av aF<|bO<|bO<|bO<|bO<|bO<|av aF<|av aF<|Ln ?_;exact rT ⟨R,(L_ Value.bool (by unfold zn; rw[g_ t]; rfl)),T,U,p,y,N⟩
 rintro f3 w9 ⟨h7,h8,oh,oD,lI,m32,V⟩;refine Ws<|ay ?_;by_cases G:(Aw x (L.g j))=true
 ·refine aU (h7.trans (L_ Value.bool G))<|av aF<|av aF<|bO<|bO<|av aF<|aC<|aK<|Wk<|sN<|ay<|av aG<|av (au 0)<|aC<|Wr<|aJ (.tuple #[.bool true,au 0]) ?_;exact⟨by rw[(DJ v n).1,(DJ v n).2,d_ (by rw[G]; rfl)],V⟩
 rw[U_]at G;refine aU (h7.trans (L_ Value.bool G))<|av aG<|av aG ?_;by_cases H:(zn x (L.g j))=true
 ·refine aU (h8.trans (L_ Value.bool H))<|av aF<|av aF<|aC<|aK<|Wk<|sN<|ay<|av aG<|av (au 0)<|aC<|Wr<|aJ (.tuple #[.bool true,au 0]) ?_;exact⟨by rw[(DJ v n).1,(DJ v n).2,d_ (by rw[H,Bool.or_true])],V⟩
 rw[U_]at H;refine aU (h8.trans (L_ Value.bool H))<|av aG<|av aG<|aC<|aM<|ay<|av aG<|av (au 14)<|aC<|Wr<|sR<|aJ (.tuple #[.bool true,au 14]) ?_;exact⟨by rw[(DJ v n).1,(DJ v n).2,b_ (by rw[G,H]; decide)],V⟩
section
namespace Rt
noncomputable def doV(L:dP)(i:Int)(x:gV):EvM:=if iH L i x=true then zeroE else jf L i x
noncomputable def doC(L:dP)(i:Int)(x:gV):Int:=if iH L i x=true then nX L i x else kM L i x
noncomputable def doL(L:dP)(i:Int)(x:gV):dP:=if iH L i x=true then L else bV L (jf L i x)
section
variable {L:dP} {i:Int} {x:gV}
theorem Yb(h:iH L i x=true):doV L i x=zeroE/\doC L i x=nX L i x/\doL L i x=L:=⟨d_ h,d_ h,d_ h⟩
theorem Nc(h:iH L i x=false):doV L i x=jf L i x/\doC L i x=kM L i x/\doL L i x=bV L (jf L i x):=by
 have h : ¬ iH L i x=true:=by rw[h]; decide
 exact⟨b_ h,b_ h,b_ h⟩
theorem aaM(L:dP):bV L zeroE=L:=by
 unfold bV;rw[b_];have:bD L zeroE=1:=by unfold bD; rw[d_ (by kernel_rfl)]
 rw[this]; decide
theorem Yc(h : ¬ kM L i x=0):jf L i x=zeroE:=by unfold jf; rw[b_ h]
theorem O8(h:iH L i x=false)(d : ¬ kM L i x=0):doV L i x=zeroE/\doC L i x=kM L i x/\doL L i x=L:=by
 obtain⟨a,b,c⟩:=Nc h;exact⟨by rw[a,Yc d],b,by rw[c,Yc d,aaM]⟩
theorem QY(h:kM L i x=0):jh i=true/\jf L i x=pI L.known i x/\bD L (jf L i x)=0:=by
 have a:jh i=true:=by
  cases c:jh i with
  | true=>rfl
  | false=>rw[(G7 c).1]at h; cases h
 have e:jf L i x=pI L.known i x:=by unfold jf; rw[d_ h]
 exact⟨a,e,by rw[e,<- tF a]; exact h⟩
end
end Rt
set_option maxRecDepth 10000 in
theorem asU(l B N:Nat)(m:dN)(L:dP)(w:World)(h:vP w B l m L N)(Y:1<=B)(D:iU w 0 0 8 Cj)(hN:N<=900000)(i:Int)(hi : -9223372036854775808<=i/\i<=9223372036854775807)(x:gV)(hx:Av x) :
 Calls Tryz.prog 25 #[(pt l),au i,.agg (aA 6 (qN x))] w fun e w' => ∃ m',e = .returned (.tuple #[.agg (aA 14 (bM (doV L i x))),au (doC L i x)])/\vP w' B l m' (doL L i x) (N+1)/\jM (R8 m l w.heap.size) w w':=by
 have l0:=D.lt (by omega);have lq:=h.q.lt;refine Kent Tryz.func25 40 ?_;refine ay<|oz fun g1 w1 kQ H s1 z1 => ?_;have⟨m2,S⟩:=eU s1.old h (Below.refl w.heap.size w);have rF:=gD kQ;have sQ:=H.lt;refine qR 14 zQ0 fun C w2 V m3 s2 z2 => ?_;have⟨m4,m5,b2⟩:=iy s2.old m2 H S;have pO:=iw V S.size;have IK:=cu V H.lt;have yu:=m3.lt;refine av (au 0)<|aC<|Ws<|ay<|av (pt l)<|Lv aF (Fx.oH rfl rfl rfl (by kernel_rfl))<|aC<|aK<|Wk<|sN<|Ws<|Ws ?_;refine kH [0,2,3,1,4,5,6,7,8,9] [0,2,0,1,2,0,0,0,0,0] [(4,1,[1]),(5,1,[4,1]),(6,1,[5,4,1]),(7,1,[5,4,1]),(8,1,[1]),(9,1,[1]),(5,4,[4]),(6,4,[5,4]),(7,4,[5,4]),(8,4,[4]),(9,4,[4])] fun rE dR iK => ?_;have⟨m6,O,m8,b3⟩:=jN dR m4 m5 m3 b2;refine aX (pt l)<|aX (au i)<|Rd (v := .agg (aA 6 (qN x))) (by rfl) (by rfl) (uG _) (fun v1 G=>dQ (x:=qN x) (y:=qN x) rfl rfl (by kernel_rfl) (by kernel_rfl) (O.aH.below G (by have:=O.lt; omega)) (i:=0) (by omega) (by omega) (fun j _=>by rw[G_])) ?_;refine zD<|lD (Kl m6 (by omega)) ?_;rintro e9 w3 ⟨ss1,he,F,Z⟩;obtain⟨zna,znc,zga,zgc,eS9⟩ : ∃ a b c d,ss1=qM L a b c d:=⟨_,_,_,_,F.e⟩;subst eS9;refine⟨_,he,?_⟩;clear he;have s4:=Sb Z;have⟨m9,m10,m11,b4⟩:=jN Z m6 O m8 b3;refine Ln ⟨s4.old,?_⟩;refine zD<|dH (aaL L zna zga znc zgc i x _ F.g.arr (by have:=m9.i.gn; omega)) _ rfl ?_;intro w4 aa;have s5:=Sb aa;have⟨I,m13,t,m15,s⟩:=nN aa m9 m10 m11 F b4;refine Ln ⟨s5.old,?_⟩;refine aX (.tuple #[.bool (iH L i x),au (nX L i x)])<|aX (.bool (iH L i x))<|aX (au (nX L i x))<|aX (.bool (iH L i x))<|aX (au (nX L i x))<|bS<|ay ?_;by_cases n:(iH L i x)=true
 ·refine aU (rfl.trans (L_ Value.bool n))<|aC<|aM<|ay<|Lv (.agg (aA 14 zQ0)) (eT t.aH 0)<|av (au (nX L i x))<|dU t 0 (h1:=(fun j E=>by rcases j with _|_|_|_|_|_|_|_|_|_|_|_|_|_|j <;> first|rfl|omega)) fun w5 m16 s6 z3 => ?_
  have m17:aP w5 C 14 zQ0 37:=aQ m16;have fV:=gH s6 t.ty;have m18:=jo fV I;have b6:=s6.below s s.size (by omega);refine av (au (nX L i x)) (aC (Wr (sR (⟨.tuple #[.agg (aA 14 zQ0),au (nX L i x)],fP Tryz.results25 ⟨_,rfl,aS m17.aH (by kernel_rfl) (by kernel_rfl)⟩ (by exact rfl),?_⟩))));exact⟨m,by rw[(Yb n).1,(Yb n).2.1]; exact G6 (fun j E=>by rcases j with _|_|_|_|_|_|_|_|_|_|_|_|_|_|j <;> first|rfl|omega) rfl,by rw[(Yb n).2.2]; exact m18.mono (Nat.le_succ N),(Fx.jM.of_below b6)⟩
 rw[U_]at n;refine aU (rfl.trans (L_ Value.bool n))<|aC<|aK<|Wk<|sN<|Ws ?_;have p:iH L i x=false:=by cases h9:iH L i x with|false=>rfl|true=>exact M_ h9 (by rw[n]; decide)
 refine Wl<|av (pt l)<|av (au i)<|Lv (.agg (aA 6 (qN x))) (eT m13.aH 0)<|dH (agm I Y (D.below s l0) i (x:=x) hx (fun _ _=>rfl)) _ rfl ?_;intro w6 hb3;have⟨m21,m22,m23,m24,T⟩:=nN hb3 I m13 t m15 s;refine av (.tuple #[.agg (aA 14 (bM (jf L i x))),au (kM L i x)])<|av (.agg (aA 14 (bM (jf L i x))))<|av (au (kM L i x))<|qR 14 zQ0 fun g3 w7 W J s8 z4 => ?_;have⟨nQ,nH,og,oh,U⟩:=nN s8.old m21 m22 m23 m24 T;have Bp:=iw W T.size;have⟨Kg,OD⟩:=sF W m22.lt m23.lt;have Hg:=J.lt;refine dU J 0 (h1:=(gK _)) fun w8 oD R z5 => ?_;have lI:aP w8 g3 14 (bM (jf L i x)) 37:=aQ oD;have ac:=gH R J.ty;have⟨m32,pE⟩:=Cx ac nQ nH;have u:=og.cZ R (by omega);have pF:=jo ac oh;have A:=R.below U U.size (by omega);refine av (au (kM L i x))<|aC<|Ws<|ay<|av (au (kM L i x)) ?_;by_cases o:(kM L i x)=0
 ·refine Lv aF (jG o)<|aC<|aK<|Wk<|sN<|Ws ?_;have X:kM L i x=0:=by first|exact o|exact Classical.not_not.1 o
  obtain⟨hr0,eV,hE0⟩:=QY X;have hVw:gL (jf L i x):=by rw[eV]; exact O6 h.i.kn hx hr0
  refine zX [1,0,2,3,4,5] [1,0,4,2,3,0] (Fx.zF [114]) Fx.zF.refl Fx.zF.trans (fJ := [(4,0,[0]),(3,2,[2]),(4,2,[3,2]),(4,3,[3]),(5,3,[3]),(5,4,[4])]) (by kernel_rfl) (by kernel_rfl) (by kernel_rfl) (by kernel_rfl) (by kernel_rfl) fun CJ gJ nZ => ?_;have⟨nS,qW,qB,pK,K,z⟩:=oJ gJ m32 pE u pF lI A;refine aX (pt l)<|Rd (v := .agg (aA 14 (bM (jf L i x)))) (by rfl) (by rfl) (Fx.zF.refl _) (fun v1 G=>dQ (x:=bM (jf L i x)) (y:=bM (jf L i x)) rfl rfl (by kernel_rfl) (by kernel_rfl) (K.Em G (by decide)).aH (i:=0) (by omega) (by omega) (fun j _=>by rw[G_])) ?_;refine Rs (.agg (aA 14 (bM (jf L i x)))) (eT K.aH 0) ?_;refine zD<|dH (QL (v:=(jf L i x)) nS hVw Y (D.below z l0) (fun _ _=>rfl)) (au 0) (by rw[hE0]) ?_;rintro w9 ⟨hq1,ab⟩;have r:=nS.q.typed ab;have hW1:jM (R8 m l w.heap.size) w w9:=Fx.jM.trans _ _ _ (Fx.jM.of_below z) (ab.mono fun k hk=>hk.imp id (m_ z.size));have mh:=qW.Em r (by decide);have azg:=mh.lt;have M:=qB.Em r (by decide);have azh:=M.lt;have mH:=pK.Em r (by decide);have qg:=K.Em r (by decide);have azi:=qg.lt;refine Ln ⟨r,?_⟩;refine gZ<|dU M 0 (h1:=(gK _)) fun pJ qh P z6 => ?_;have om:aP pJ C 14 (bM (jf L i x)) 37:=aQ qh;have qc:=gH P M.ty;have uD:=qg.cZ P (by omega);have qX:=jo qc hq1;have b11:=hW1.then P (.inr pO);refine Ln (aX (au 0) (bS (Wr (⟨.tuple #[.agg (aA 14 (bM (jf L i x))),au 0],fP Tryz.results25 ⟨_,rfl,aS om.aH (by kernel_rfl) (by kernel_rfl)⟩ (by exact rfl),?_⟩))));exact⟨_,by rw[(Nc p).1,(Nc p).2.1,X],by rw[(Nc p).2.2]; exact qX,b11⟩
 refine Lv aG (mG o)<|aC<|aM<|ay<|Lv (.agg (aA 14 zQ0)) (eT u.aH 0)<|av (au (kM L i x))<|dU u 0 (h1:=(fun j E=>by rcases j with _|_|_|_|_|_|_|_|_|_|_|_|_|_|j <;> first|rfl|omega)) fun DV vJ Q z7 => ?_
 have uZ:aP DV C 14 zQ0 37:=aQ vJ;have xu:=gH Q u.ty;have uE:=jo xu m32;have tQ:=lI.cZ Q (by omega);have b12:=Q.below A A.size (by omega);refine av (au (kM L i x)) (aC (Wr (sR (⟨.tuple #[.agg (aA 14 zQ0),au (kM L i x)],fP Tryz.results25 ⟨_,rfl,aS uZ.aH (by kernel_rfl) (by kernel_rfl)⟩ (by exact rfl),?_⟩))));exact⟨m,by rw[(O8 p o).1,(O8 p o).2.1]; exact G6 (fun j E=>by rcases j with _|_|_|_|_|_|_|_|_|_|_|_|_|_|j <;> first|rfl|omega) rfl,by rw[(O8 p o).2.2]; exact uE.mono (Nat.le_succ N),(Fx.jM.of_below b12)⟩
end
namespace Rt
theorem akF{k n r:Nat}(e:r=k % (n+1)):Int.tmod (k:Int) ((n:Int)+1)=(r:Int):=by
 rw[show(n:Int)+1=((n+1:Nat):Int) by omega]; exact EF e
end Rt
namespace Rt
def Yx(a b:Int):Int:=if b<a then b else a
end Rt
namespace Rt
def isLive(s:uR)(k:Nat):Bool:=s.inn k && !s.left k
def iC(s:uR):Nat->List Int
 | 0 => []
 | k+1=>if isLive s k then iC s k ++ [(k:Int)+1]else iC s k
def O9(l:List Int):Nat->Value:=fun p=>au (l.getD p 0)
theorem wM{s:uR}{k:Nat}(h:isLive s k=true):iC s (k+1)=iC s k ++ [(k:Int)+1]:=by
 show(if isLive s k then _ else _)=_; rw[d_ h]
theorem uU{s:uR}{k:Nat}(h:isLive s k=false):iC s (k+1)=iC s k:=by
 show(if isLive s k then _ else _)=_; rw[b_ (by rw[h]; decide)]
theorem zo(s:uR) : ∀ k,(iC s k).length<=k
 | 0=>A_ _
 | k+1=>by
   have:=zo s k;show(if isLive s k then _ else _:List Int).length<=k+1;split
   ·simp; omega
   ·omega
theorem agw{l:List Int}{n:Nat}{z:Nat->Value}{v:Int}(a:n=l.length) : ∀ j,j<(n+1)*1->ig (O9 l) (n*1) (bB z (0*1) 1 (fun _=>au v)) j=O9 (l ++ [v]) j:=fun j b=>by
 subst a;unfold ig O9;by_cases h:j<l.length*1
 ·rw[d_ h]; congr 1;rw[r_,r_,List.getElem?_append_left (by omega)]
 ·rw[b_ h];unfold bB;rw[d_ (by omega),r_,List.getElem?_append_right (by omega),show j-l.length=0 by omega]; rfl
def iT(s:uR)(i:Int):Bool:=decide (1<=i)&&decide (i<=6)&&isLive s (i-1).toNat
theorem G8{s:uR}{i:Int} : ∀ n,i∈iC s n<->(1<=i/\i<=(n:Int)/\isLive s (i-1).toNat=true)
 | 0=>by
   constructor
   ·intro h; cases h
   ·rintro ⟨b,c,_⟩; omega
 | n+1=>by
   have d:=G8 (s:=s) (i:=i) n
   cases hl:isLive s n with
   | true =>
     rw[wM hl,List.mem_append,d];constructor
     ·rintro (⟨b,c,a⟩|h)
      ·exact⟨b,by omega,a⟩
      ·have f:i=(n:Int)+1:=(by simpa using h);subst f;exact⟨by omega,by omega,by rw[show((n:Int)+1-1).toNat=n by omega]; exact hl⟩
     ·rintro ⟨b,c,a⟩;by_cases e:i=(n:Int)+1
      ·right; rw[e]; exact List.mem_singleton.2 rfl
      ·left; exact⟨b,by omega,a⟩
   | false =>
     rw[uU hl,d];constructor
     ·rintro ⟨b,c,a⟩; exact⟨b,by omega,a⟩
     ·rintro ⟨b,c,a⟩;by_cases e:i=(n:Int)+1
      ·subst e; rw[show((n:Int)+1-1).toNat=n by omega,hl]at a; cases a
      ·exact⟨b,by omega,a⟩
theorem acg{l:List Int}{k:Nat}(h:k<l.length):l.getD k 0∈l:=by
 rw[r_,o_ h]; exact R_ h
theorem agx{l:List Int}{i:Int}:0<=fK (fun k=>decide (i=l.getD k 0)) l.length<->i∈l:=by
 rcases iR (fun k=>decide (i=l.getD k 0)) l.length with ⟨k,a,e,d⟩|⟨e,h⟩
 ·rw[e];have:=h_ d;exact⟨fun _=>by rw[this]; exact acg a,fun _=>by omega⟩
 rw[e];refine⟨fun h=>M_ h (by decide),fun c => ?_⟩;obtain⟨k,a,b⟩:=List.getElem_of_mem c;have:=h k a;rw[r_,o_ a,b]at this;exact M_ rfl (j_ this)
theorem Co(s:uR)(i:Int):decide (0<=fK (fun k=>decide (i=(iC s 6).getD k 0)) (iC s 6).length)=iT s i:=by
 rw[P_,Q_,agx,G8];unfold iT;simp only[T_,decide_eq_true_eq];exact⟨fun⟨a,b,c⟩=>⟨⟨a,by omega⟩,c⟩,fun⟨⟨a,b⟩,c⟩=>⟨a,by omega,c⟩⟩
end Rt
set_option maxRecDepth 10000 in
theorem Kv(s:uR)(w:World) :
 Calls Tryz.prog 35 #[.agg (aA 20 (kI s))] w fun e L => ∃ v n,e = .returned v/\n=(iC s 6).length/\Fx.Own L w.heap.size 3 1 v n (O9 (iC s 6))/\Below w.heap.size w L:=by
 refine Kent Tryz.func35 26 ?_;refine ay<|oz fun o w1 P F s1 z1 => ?_;have N:=bf s1.old (Below.refl w.heap.size w);have rF:=gD P;have sQ:=F.lt;refine av (.slice none 0 0)<|aC<|Ws<|ay<|av (pt o)<|Lv (.agg (aA 6 (fun q => .bool (s.inn q)))) (eT F.aH 0 (fun jq T=>by rw[G_]; exact yU _ T))<|av (au 0)<|aC<|Wb ?_;have Y:Fx.Own w1 w.heap.size 3 1 (.slice none 0 0) 0 (O9 (iC s 0)):=tK _ _ _ _ _;refine Wo (fun f H => ∃ k:Nat,∃ n:Nat,∃ a:Option Addr,∃ c:Nat,k<=6/\n=(iC s k).length/\f 1=(pt o)/\f 6 = .agg (aA 6 (fun q => .bool (s.inn q)))/\f 2 = .slice a (n) (c)/\f 7=au (k:Int)/\aP H o 20 (kI s) 50/\Fx.Own H w.heap.size 3 1 (.slice a (n) (c)) n (O9 (iC s k))/\Below w.heap.size w H) (fun f _=>(6-(intOf (f 7)).toNat)) ⟨0,0,none,0,by omega,rfl,(by rfl),(by rfl),(by rfl),Fx.ic,F,Y,N⟩ ?_;rintro f1 w2 ⟨k,n,a,c,hk,r,u,p,z,b,g,t,h⟩;have hnl:=zo s k;refine ay ?_;by_cases I:(k:Int)<6
 ·refine Lv aG (gM I (hx:=b))<|aC<|Ws<|aM<|Wk<|sN<|Ws<|Wb<|ay<|aU b ?_;by_cases i:(s.inn k)=true
  ·refine Lv aG (Fx.KZ (j:=k) (y:=fun q => .bool (s.inn q)) rfl p b Tryz.underlying46 (by kernel_rfl) (by kernel_rfl) (by omega) ((show _=Value.bool (s.inn k)from rfl).trans (L_ Value.bool i)))<|av (au k)<|av aG<|aC<|ay<|av aG<|av aG<|av (au k)<|Lv (pf o 6) (iL u 6)<|Lv (pf o (k+6)) (jJ 6 1) ?_;by_cases l:(s.left k)=true
   ·refine Lv aG (aL g.aH (k+6) ((ug _ (by omega) (by omega)).trans (L_ Value.bool l)))<|av aF<|av aF<|aC<|aK<|Wk<|bP<|sN ?_;have d:isLive s k=false:=(by unfold isLive; rw[l,Bool.not_true,I_]);refine Wl<|Lv (au ((k:Int)+1)) (fA (hx:=b))<|av (au ((k:Int)+1))<|Ln ?_;have Z:=t.congr (y:=O9 (iC s (k+1))) (fun j _=>by rw[uU d])
    skip
    refine gW ⟨k+1,n,a,c,by omega,(by rw[uU d]; exact r),u,p,z,Fx.ic,g,Z,h⟩ ?_;show(6-(intOf (au ((k:Int)+1))).toNat)<_;simp only[b,intOf]; omega
   rw[U_]at l;refine Lv aF (aL g.aH (k+6) ((ug _ (by omega) (by omega)).trans (L_ Value.bool l)))<|av aG<|av aG<|aC<|aM ?_;have d:isLive s k=true:=(by unfold isLive; rw[i,l]; rfl);refine Wl<|aU z<|av (au k)<|Lv (au ((k:Int)+1)) fA<|wV (vs := [(0,au ((k:Int)+1))]) (s:=1) (zc:=rv .i64 (fun _=>0)) (y:=bB (fun j=>(rv .i64 (fun _=>0)) (j % 1)) (0*1) 1 (fun _=>au ((k:Int)+1))) (by rfl) rfl rfl Tryz.underlying90 (by kernel_rfl) (by rfl) (by rfl) (by kernel_rfl) (by rw[aZ (off:=0*1) (s:=1) (y:=fun _=>au ((k:Int)+1)) rfl (cells_one (by rfl)) (by rfl)]; rfl) rfl fun Q w3 D K s2 z2 => ?_;have⟨m7,G,A⟩:=iy s2.old g t h;have pO:=iw D h.size;have LQ:=cu D g.lt;have VW:(.slice a (n) (c):Value).ownBlock≠some Q:=(by rw[D]; exact t.jF (A_ _));have yu:=K.lt;refine yc (B:=w.heap.size) (s:=1) (bytes:=8) (k:=n) (m:=1) (v := .slice a (n) (c)) (x:=O9 (iC s k)) (by rfl) rfl rfl rfl Tryz.underlying90 (by kernel_rfl) (by kernel_rfl) rfl rfl G K.aH (uT (fun _=>rfl)) (by omega) (by omega) (by omega) A.size fun E C M U J tO hlt1 => ?_;have R:=yC J G;have W:=jo R m7;have m9:Fx.Own M w.heap.size 3 1 (bK E (n+1) C) (n+1) (O9 (iC s (k+1))):=(U.congr (fun j S=>by rw[wM d]; exact agw r j S));have O:Below w.heap.size w M:=xZ A J A.size (fun q V=>(G.ge V).1);refine av (bK E (n+1) C)<|Ln<|bP<|sN<|Wl<|Lv (au ((k:Int)+1)) (fA (hx:=b))<|av (au ((k:Int)+1))<|Ln ?_
   skip
   refine gW ⟨k+1,n+1,(some ⟨E,0,none⟩),C,by omega,(by rw[wM d,E_,<- r]; rfl),u,p,(by rfl),Fx.ic,W,m9,O⟩ ?_;show(6-(intOf (au ((k:Int)+1))).toNat)<_;simp only[b,intOf]; omega
  rw[U_]at i;refine Lv aF (Fx.KZ (j:=k) (y:=fun q => .bool (s.inn q)) rfl p b Tryz.underlying46 (by kernel_rfl) (by kernel_rfl) (by omega) ((show _=Value.bool (s.inn k)from rfl).trans (L_ Value.bool i)))<|av (au k)<|av aF<|aC<|ay<|av aF<|av aF<|bO<|bO<|bO<|bO<|bO<|av aF<|aC<|aK<|Wk<|bP<|sN ?_;have d:isLive s k=false:=by unfold isLive; rw[i]; rfl
  refine Wl<|Lv (au ((k:Int)+1)) (fA (hx:=b))<|av (au ((k:Int)+1))<|Ln ?_;have X:=t.congr (y:=O9 (iC s (k+1))) (fun j _=>by rw[uU d])
  skip
  refine gW ⟨k+1,n,a,c,by omega,(by rw[uU d]; exact r),u,p,z,Fx.ic,g,X,h⟩ ?_;show(6-(intOf (au ((k:Int)+1))).toNat)<_;simp only[b,intOf]; omega
 refine Lv aF (gN I (hx:=b))<|aC<|Ws<|aK<|Wx<|bX<|gP<|bY<|sN<|ay<|aU z<|av (.slice a (n) (c))<|aC<|Wr<|aJ (.slice a (n) (c)) ?_;obtain rfl:k=6:=by omega
 exact⟨_,n,rfl,r,t,h⟩
theorem aaN(a:Option Addr)(n cap:Nat)(l:List Int)(x:Int)(w:World)(u:mP w a n 1 (O9 l))(E:n<=1000000) :
 Calls Tryz.prog 97 #[.slice a (n) (cap),au x] w fun e y=>e = .returned (au (fK (fun k=>decide (x=l.getD k 0)) n))/\Below w.heap.size w y:=by
 refine Kent Tryz.func97 19 ?_;refine ay<|av (au 0)<|aC<|Ws<|ay<|av (.slice a (n) (cap))<|av (au n)<|av (au 0)<|aC<|Wb<|Wo (fun f A => ∃ k:Nat,k<=n/\(∀ i,i<k->(fun k=>decide (x=l.getD k 0)) i=false)/\f 0 = .slice a (n) (cap)/\f 1=au x/\f 7=au (n:Int)/\f 8=au (k:Int)/\Below w.heap.size w A) (fun f _=>(n-(intOf (f 8)).toNat)) ⟨0,by omega,(fun i h=>M_ h (by omega)),(by rfl),Fx.ic,Fx.ic,Fx.ic,(Below.refl w.heap.size w)⟩ ?_;rintro B z ⟨k,D,j,p,r,g,b,c⟩;refine ay ?_;by_cases o:(k:Int)<(n:Int)
 ·refine Lv aG (gM o (hx:=b) (hy:=g))<|aC<|Ws<|aM<|Wk<|sN<|Ws<|Wb<|ay<|aU b<|av (au k)<|aC<|ay<|aU r<|aU p<|av (au k) ?_;obtain⟨m,v,t,s⟩:=(u.up c rfl) (by omega);have F:m<z.heap.size:=s.lt (by omega);refine Lv (pf m (k+v)) (dw 1 (hx:=(rfl.trans (L_ (fun q=>Value.slice q (n) (cap)) t))))<|Lv (au (l.getD k 0)) (aL s k) ?_;by_cases d:x=(l.getD k 0)
  ·refine Lv aG (eH d)<|aC<|aM<|ay<|av (au k)<|av (au k)<|aC<|Wr<|bL<|sR<|pV<|bL<|sR<|aJ (au k) ?_;exact⟨oL (Eq.symm (nU j (f_ d) (by omega))),c⟩
  refine Lv aF (fC d)<|aC<|aK<|Wk<|bP<|sN<|Wl<|Lv (au ((k:Int)+1)) (fA (hx:=b))<|av (au ((k:Int)+1))<|Ln<|gW ⟨k+1,by omega,(sU j (g_ d)),p,(r.trans Fx.ic),(g.trans Fx.ic),Fx.ic,c⟩ ?_;show(n-(intOf (au ((k:Int)+1))).toNat)<_;simp only[b,intOf]; omega
 refine Lv aF (gN o (hx:=b) (hy:=g))<|aC<|Ws<|aK<|Wx<|bX<|gP<|bY<|sN<|ay<|av (au (-1))<|aC<|Wr<|aJ (au (-1)) ?_;exact⟨oL (Eq.symm (kg (fun i C=>j i (by omega)))),c⟩
theorem xW(a:Option Addr)(n cap:Nat)(l:List Int)(x:Int)(w:World)(f:mP w a n 1 (O9 l))(g:n<=1000000) :
 Calls Tryz.prog 61 #[.slice a (n) (cap),au x] w fun e h=>e = .returned (.bool (decide (0<=fK (fun k=>decide (x=l.getD k 0)) n)))/\Below w.heap.size w h:=by
 refine Kent Tryz.func61 9 ?_;refine ay<|av aF<|aC<|ay<|av (.slice a (n) (cap))<|av (au x)<|dH (aaN a n cap l x _ (f.up (Below.refl w.heap.size w) rfl) g) _ rfl ?_;intro i d;have c:=bf d (Below.refl w.heap.size w);by_cases b:0<=(fK (fun k=>decide (x=l.getD k 0)) n)
 ·refine Lv aG (kR b)<|av aG<|aC<|Wr<|aJ aG ?_;exact⟨iD (Eq.symm (f_ b)),c⟩
 refine Lv aF (kJ b)<|av aF<|aC<|Wr<|aJ aF ?_;exact⟨iD (Eq.symm (g_ b)),c⟩
namespace Rt
def su(id tj x:Int):gV:=⟨5,id,tj,Yx x 1125899906842624,0,0⟩
def mU:gV:=⟨7,0,0,0,0,0⟩
def leave1(l:List gV)(id tj x:Int):List gV:=if 0<x then l ++ [su id tj x]else l
def eF(id:Nat->Int)(R:Nat->Nat->Int)(i tj:Int):Nat->List gV
 | 0 => []
 | k+1=>leave1 (eF id R i tj k) (id k) tj (bT (R k) i)
theorem Pb{l:List gV}{id tj x:Int}{n:Nat}(h:n=l.length):(leave1 l id tj x).length<=n+1:=by
 unfold leave1;split
 ·simp; omega
 omega
theorem uz(id:Nat->Int)(R:Nat->Nat->Int)(i tj:Int) : ∀ k,(eF id R i tj k).length<=k
 | 0=>A_ _
 | k+1=>m_ (Pb rfl) (by have:=uz id R i tj k; omega)
def lZ(s:uR)(i tj:Int):Int:=if iT s i=false\/iT s tj=false\/i=tj then 10 else 0
def rQ(s:uR)(id:Nat->Int)(R:Nat->Nat->Int)(i tj:Int):List gV:=if iT s i=false\/iT s tj=false\/i=tj then []else eF id R i tj s.nn ++ [mU]
end Rt
theorem Rt.akG{z y:Nat->Value}(hy : ∀ j,j<6->(y j).oneCell'=true) : ∀ j,j<1*6->(bB z (0*6) 6 y j).oneCell'=true:=fun j a=>by
 unfold bB; rw[d_ (by omega)]; exact hy _ (by omega)
set_option maxRecDepth 10000 in
theorem Yd(B:Nat)(d asV:Int)(c:Nat->Int)(W h X:Nat)(i tj:Int)(a:Option Addr)(n cap:Nat)(l:List gV)(w:World)(g:B<=w.heap.size)(hi : -9223372036854775808<=i/\i<=9223372036854775807)(E:aP w W 1 (fun _=>au i) 3)(F:aP w h 1 (fun _ => .slice a n cap) 32)(G:aP w X 1 (fun _=>au tj) 3)(hoa:Fx.Own w B 25 6 (.slice a n cap) n (O5 l))(I:n=l.length)(hn2:n<=1000000)(azj:B<=h) :
 Calls Tryz.prog 62 #[.agg (aA 56 (jW (d) (asV) (c))),(pt W),(pt h),(pt X)] w fun e z => ∃ Q u S,e = .returned (.tuple #[])/\u=(leave1 l d tj (bT c i)).length/\aP z h 1 (fun _ => .slice Q u S) 32/\Fx.Own z B 25 6 (.slice Q u S) u (O5 (leave1 l d tj (bT c i)))/\iF [32,25] w z/\Below B w z:=by
 have lgi:=E.lt;have YI:=F.lt;have lgt:=G.lt;refine Kent Tryz.func62 21 ?_;refine ay<|oz fun V w1 U J N z1 => ?_;have⟨m2,m3,m4,m5⟩:=jN N.old E F G hoa;have b1:=eZ N.old (Below.refl B w) g;have ct1:=Fx.iF.trans _ _ _ (vI w:iF [32,25] w w) (Fx.iF.of_below N.old);have rF:=iw U (Below.refl B w).size;have⟨ny,P7,yB⟩:=AJ U E.lt F.lt G.lt;have sQ:=J.lt;refine aC<|ay<|av (pf V 2)<|Lv (.agg (aA 54 (rv .i64 c))) (eT J.aH 2 (fun q _=>BN _ _ _ q))<|Lv (au i) (aL m2.aH 0)<|dH (uf c i _ hi) _ rfl ?_;intro w2 D;have s2:=Sb D;have⟨m6,t,m8,M,aa⟩:=nN D m2 m3 m4 m5 J;have A:=eZ D b1 g;have T:=Fx.iF.trans _ _ _ ct1 (Fx.iF.of_below s2.old);refine av (au (bT c i))<|aC<|ay<|av (au (bT c i)) ?_;by_cases f:0<(bT c i)
 ·refine Lv aG (ni f)<|aC<|aM<|Wl<|Lv (.slice a (n) (cap)) (aL t.aH 0)<|av (pt V)<|Lv (aD d) (aL aa.aH 0)<|Lv (au tj) (aL m8.aH 0)<|av (au (bT c i))<|Lv (au (Yx (bT c i) 1125899906842624)) (Fx.ahf rfl rfl rfl)<|av (.agg (aA 6 (bB (bB (bB (bB zT0 0 1 (fun _ => .int .u8 (5))) 1 1 (fun _=>aD d)) 2 1 (fun _=>au tj)) 3 1 (fun _=>au (Yx (bT c i) 1125899906842624)))))<|wV (vs := [(0,.agg (aA 6 (bB (bB (bB (bB zT0 0 1 (fun _ => .int .u8 (5))) 1 1 (fun _=>aD d)) 2 1 (fun _=>au tj)) 3 1 (fun _=>au (Yx (bT c i) 1125899906842624)))))]) (s:=6) (zc:=fun b=>if b<1 then .int .u8 (0)else if b<2 then aD 0 else if b<4 then au 0 else aD 0) (y:=bB (fun j=>zT0 (j % 6)) (0*6) 6 (bB (bB (bB (bB zT0 0 1 (fun _ => .int .u8 (5))) 1 1 (fun _=>aD d)) 2 1 (fun _=>au tj)) 3 1 (fun _=>au (Yx (bT c i) 1125899906842624)))) (by rfl) rfl rfl Tryz.underlying32 (by kernel_rfl) (by rfl) (by rfl) (by kernel_rfl) (by rw[aZ (off:=0*6) (s:=6) (y:=bB (bB (bB (bB zT0 0 1 (fun _ => .int .u8 (5))) 1 1 (fun _=>aD d)) 2 1 (fun _=>au tj)) 3 1 (fun _=>au (Yx (bT c i) 1125899906842624))) rfl (bE _ _) (by rfl)]; rfl) rfl fun g2 w3 p ab O z2 => ?_;have⟨m13,K⟩:=eU O.old t M;have C:=eZ O.old A g;have ct3:=Fx.iF.trans _ _ _ T (Fx.iF.of_below O.old);have pO:=iw p A.size;have⟨Dk,zf,Dl⟩:=AJ p m6.lt t.lt m8.lt;have AV:(.slice a (n) (cap):Value).ownBlock≠some g2:=by rw[p]; exact M.jF (A_ _)
  have NV:=cu p aa.lt;have yu:=ab.lt;refine yc (B:=B) (s:=6) (bytes:=48) (k:=n) (m:=1) (v := .slice a (n) (cap)) (x:=O5 l) (by rfl) rfl rfl rfl Tryz.underlying32 (by kernel_rfl) (by kernel_rfl) rfl rfl K ab.aH (akG (fun j H=>by rcases j with _|_|_|_|_|_|j <;> first|rfl|omega)) (by omega) (by omega) (by omega) (m_ g C.size) fun r o w4 ho1 Z tO hlt1 => ?_
  have Y:=yC Z K;have L:=jo Y m13;have m17:Fx.Own w4 B 25 6 (bK r (n+1) o) (n+1) (O5 (l ++ [su d tj (bT c i)])):=(ho1.congr (fun j H=>XT I (fun j H=>by rcases j with _|_|_|_|_|_|j <;> first|rfl|omega) j H))
  have R:Below B w w4:=xZ C Z (m_ g C.size) (fun q hq=>(K.ge hq).1);have ct4:=Fx.iF.trans _ _ _ ct3 (Y.wide (by decide));refine ji L 0 (bK r (n+1) o) fun w5 m22 P z3 => ?_;have m23:aP w5 h 1 (fun _=>bK r (n+1) o) 32:=dD m22;have jr:=gH P L.ty;have nH:=jo jr m17;have b5:=P.below R (m_ g R.size) (by omega);have ct5:=Fx.iF.trans _ _ _ ct4 ((gH P L.ty).wide (by decide));refine Ln (⟨.tuple #[],iJ Tryz.results62,?_⟩);exact⟨some ⟨r,0,none⟩,n+1,o,rfl,by unfold leave1; rw[d_ f,E_,<- I]; rfl,m23,by unfold leave1; rw[d_ f]; exact nH,ct5,b5⟩
 refine Lv aF (nk f) (aC (aK (Wk (⟨.tuple #[],iJ Tryz.results62,?_⟩))));exact⟨a,n,cap,rfl,by unfold leave1; rw[b_ f]; exact I,t,by unfold leave1; rw[b_ f]; exact M,T,A⟩
namespace Rt
theorem G9{id:Nat->Int}{R:Nat->Nat->Int}{i tj:Int}(a:oM tj) : ∀ n,(∀ k,k<n->iY (id k)) -> ∀ x∈eF id R i tj n,Av x
 | 0,_,_,h=>M_ h (List.not_mem_nil)
 | n+1,hid,x,h=>by
   unfold eF leave1 at h;have b:=G9 (R:=R) (i:=i) a n (fun k c=>hid k (by omega));split at h
   ·rename_i hx
    rcases List.mem_append.1 h with h|h
    ·exact b x h
    ·obtain rfl:x=su (id n) tj (bT (R n) i):=(by simpa using h);have z:iY (0:Int):=⟨by decide,by decide⟩;refine⟨by show(0:Int)<=5/\(5:Int)<=255; omega,hid n (by omega),a,?_,z,z⟩;show oM (Yx (bT (R n) i) 1125899906842624);have:=CP (R n) i;unfold oM Yx; split <;> omega
   ·exact b x h
theorem SI{s:uR}{id:Nat->Int}{R:Nat->Nat->Int}{i tj:Int}(b:oM tj)(a : ∀ k,k<s.nn->iY (id k)) : ∀ x∈rQ s id R i tj,Av x:=fun x h=>by
 unfold rQ at h;split at h
 ·cases h
 ·rcases List.mem_append.1 h with h|h
  ·exact G9 b s.nn a x h
  ·obtain rfl:x=mU:=(by simpa using h);exact⟨by decide,⟨by decide,by decide⟩,⟨by decide,by decide⟩,⟨by decide,by decide⟩,⟨by decide,by decide⟩,⟨by decide,by decide⟩⟩
theorem ach{l:List gV}{k:Nat}(h:k<l.length):l.getD k mY∈l:=by
 rw[r_,o_ h]; exact R_ h
theorem zu{s:uR}{id:Nat->Int}{R:Nat->Nat->Int}{i tj:Int}(h:iT s i=false\/iT s tj=false\/i=tj):lZ s i tj=10/\rQ s id R i tj = []:=⟨d_ h,d_ h⟩
theorem He{s:uR}{id:Nat->Int}{R:Nat->Nat->Int}{i tj:Int}(h1:iT s i=true)(a:iT s tj=true)(b : ¬ i=tj):lZ s i tj=0/\rQ s id R i tj=eF id R i tj s.nn ++ [mU]:=by
 have h : ¬ (iT s i=false\/iT s tj=false\/i=tj):=by rw[h1,a]; exact fun h=>h.elim (fun h=>by cases h) (fun h=>h.elim (fun h=>by cases h) b)
 exact⟨b_ h,b_ h⟩
end Rt
set_option maxRecDepth 10000 in
theorem Kw(s:uR)(id par:Nat->Int)(R:Nat->Nat->Int)(i tj:Int)(w:World)(hnn:s.nn<=900000)(hnd:Nds w s.na s.nn id par R)(hi : -9223372036854775808<=i/\i<=9223372036854775807) :
 Calls Tryz.prog 33 #[.agg (aA 20 (kI s)),au i,au tj] w fun e w' => ∃ v n,e = .returned (.tuple #[v,au (lZ s i tj)])/\n=(rQ s id R i tj).length/\Fx.Own w' w.heap.size 25 6 v n (O5 (rQ s id R i tj))/\Below w.heap.size w w':=by
 refine Kent Tryz.func33 46 ?_;refine ay<|oz fun Q w1 kQ W s1 z1 => ?_;have b1:=bf s1.old (Below.refl w.heap.size w);have rF:=gD kQ;have sQ:=W.lt;refine vU (au i) fun r J yw Z s2 z2 => ?_;have⟨m3,b2⟩:=eU s2.old W b1;have pO:=iw yw b1.size;have FK:=cu yw W.lt;have yu:=Z.lt;refine vU (au tj) fun t w3 yE m4 s3 z3 => ?_;have⟨m5,m6,b3⟩:=iy s3.old m3 Z b2;have Bp:=iw yE b2.size;have⟨U0,abE⟩:=sF yE m3.lt Z.lt;have Hg:=m4.lt;refine av (.slice none 0 0)<|av (au 0)<|aC<|ay<|Lv (.agg (aA 20 (kI s))) (eT m5.aH 0)<|lD (Kv s _) ?_;rintro e9 w4 ⟨v9,g,E,F,H,Yn⟩;obtain⟨h,l,rfl⟩:=H.val;refine⟨.slice h g l,E,?_⟩;clear E;have⟨m7,m8,m9,b4⟩:=jN Yn m5 m6 m4 b3;have azo:g<=6:=by rw[F]; exact zo s 6
 refine av (.slice h (g) (l))<|aC<|Ws<|ay<|av (.slice h (g) (l))<|Lv (au i) (aL m8.aH 0) ?_;by_cases A:(iT s i)=true
 ·refine dH ((xW h g l (iC s 6) i _ H.arr (by omega)).mono (fun e J d=>(⟨d.1.trans (by rw[F,Co]),d.2⟩:e = .returned (.bool (iT s i))/\_))) aG (by rw[A]) ?_;intro w5 hb1;have⟨m10,m11,m12,m13,b5⟩:=nN hb1 m7 m8 m9 H b4;refine av aF<|av aF<|av (.slice h (g) (l))<|Lv (au tj) (aL m12.aH 0) ?_;by_cases C:(iT s tj)=true
  ·refine dH ((xW h g l (iC s 6) tj _ m13.arr (by omega)).mono (fun e J d=>(⟨d.1.trans (by rw[F,Co]),d.2⟩:e = .returned (.bool (iT s tj))/\_))) aG (by rw[C]) ?_;intro w6 hb2;have⟨m14,X,Y,L⟩:=jN hb2 m10 m11 m12 b5;refine av aF<|av aF<|av aF<|Lv (au i) (aL X.aH 0)<|Lv (au tj) (aL Y.aH 0) ?_;by_cases G:i=tj
   ·refine Lv aG (eH G)<|av aG<|aC<|aM<|ay<|av (.slice none 0 0)<|av (au 10)<|aC<|Wr<|sR<|aJ (.tuple #[.slice none 0 0,au 10]) ?_;have c:=zu (s:=s) (i:=i) (tj:=tj) (id:=id) (R:=R) (.inr (.inr G));exact⟨.slice none 0 0,0,by rw[c.1],by rw[c.2]; rfl,by rw[c.2]; exact tK _ _ _ _ _,L⟩
   refine Lv aF (fC G)<|av aF<|aC<|aK<|Wk<|sN<|ay<|Bv (m:=1) (y:=fun _ => .slice none 0 0) (by rfl) rfl (by kernel_rfl) rfl fun o w7 KA m18 s7 z4 => ?_;have⟨m19,m20,m21,b7⟩:=jN s7.old m14 X Y L;have Og:=iw KA L.size;have⟨asW,asY,aeH⟩:=AJ KA m14.lt X.lt Y.lt;have Oh:=m18.lt;refine aC<|ay<|Lv (.func (.func 62) #[] #[(pt r),(pt o),(pt t)]) (Fx.lJ (us := []) (vs := [(pt r),(pt o),(pt t)]) rfl rfl rfl)<|av (.func (.func 62) #[] #[(pt r),(pt o),(pt t)])<|aC<|Ws<|ay<|av (pf Q 18)<|Lv (.slice s.na (s.nn) (s.nc)) (aL m19.aH 18)<|av (au s.nn)<|av (au 0)<|aC<|Wb ?_;have m23:Fx.Own w7 w.heap.size 25 6 (.slice none 0 0) 0 (O5 (eF id R i tj 0)):=tK _ _ _ _ _;refine Wo (fun f u => ∃ k:Nat,∃ n:Nat,∃ a:Option Addr,∃ p:Nat,k<=s.nn/\n=(eF id R i tj k).length/\f 3=(pt Q)/\f 9=(pt o)/\f 10 = .func (.func 62) #[] #[(pt r),(pt o),(pt t)]/\f 32 = .slice s.na (s.nn) (s.nc)/\f 33=au (s.nn:Int)/\f 34=au (k:Int)/\aP u Q 20 (kI s) 50/\aP u r 1 (fun _=>au i) 3/\aP u t 1 (fun _=>au tj) 3/\aP u o 1 (fun _ => .slice a n p) 32/\Fx.Own u w.heap.size 25 6 (.slice a (n) (p)) n (O5 (eF id R i tj k))/\Below w.heap.size w u) (fun f _=>(s.nn-(intOf (f 34)).toNat)) ⟨0,0,none,0,by omega,rfl,(by rfl),(by rfl),(by rfl),(by rfl),Fx.ic,Fx.ic,m19,m20,m21,m18,m23,b7⟩ ?_;rintro f1 w8 ⟨k,n,a,p,hk,V,h1,d,h3,h4,T,D,aa,ab,ac,I,ad,z⟩;have hnl:=uz id R i tj k;refine ay ?_;by_cases c35:(k:Int)<(s.nn:Int)
   ·refine Lv aG (gM c35 (hx:=D) (hy:=T))<|aC<|Ws<|aM<|Wk<|sN<|Ws<|Wb<|Ws ?_;obtain⟨M,off1,ea1,akH⟩:=hnd k (by omega);have lb9:M<w.heap.size:=akH.lt (by omega);have ae:=akH.below z lb9;refine Wl<|Lv (pf M (56*k+off1)) (dw 56 (hx:=(h4.trans (L_ (fun q=>Value.slice q (s.nn) (s.nc)) ea1))) (hi:=D))<|Lv (.agg (aA 56 (jW (id k) (par k) (R k)))) (eT ae 0)<|qR 56 zK0 fun g5 w9 O af s8 z5 => ?_;have⟨m32,pE,nR,pF,nS,qW,b10⟩:=jT s8.old aa ab ac I ad ae z;have lg5:=iw O z.size;have⟨XY,XZ,X0,X3⟩:=K5 O aa.lt ab.lt ac.lt I.lt;have asZ:M≠g5:=(by rw[O]; exact u_ (ae.lt (by omega)));have tg5:=af.lt;refine dU af 0 (h1:=(fun j _=>qE _ _ _ j)) fun pJ qB s9 z6 => ?_;have pK:aP pJ g5 56 (jW (id k) (par k) (R k)) 84:=aQ qB;have fV:=gH s9 af.ty;have⟨sS,mh,lM,mH,qg⟩:=rD fV m32 pE nR pF nS;have qh:=qW.cZ s9 (by omega);have b11:=s9.below b10 b10.size (by omega);refine aC<|Wl<|aU h3<|Lv (.agg (aA 56 (jW (id k) (par k) (R k)))) (eT pK.aH 0)<|zx (by rfl) (Fx.Ai (args := [.agg (aA 56 (jW (id k) (par k) (R k)))]) rfl rfl rfl (all := #[.agg (aA 56 (jW (id k) (par k) (R k))),(pt r),(pt o),(pt t)]) rfl Tryz.func62 rfl rfl) rfl<|(Yd w.heap.size (id k) (par k) (R k) r o t i tj a n p (eF id R i tj k) _ b11.size hi mh mH lM qg V (by omega) Og).mono ?_;rintro e9 DV ⟨a2,n2,cap2,E,hn2,ata,ho2,jr,hb3⟩;refine⟨.tuple #[],E,?_⟩;clear E;have⟨om,rW,wh⟩:=zZ jr sS mh lM;have b12:=b11.trans hb3;refine Ln<|bP<|sN<|Wl<|Lv (au ((k:Int)+1)) (fA (hx:=D))<|av (au ((k:Int)+1))<|Ln<|gW ⟨k+1,n2,a2,cap2,by omega,hn2,h1,d,h3,h4,(T.trans Fx.ic),Fx.ic,om,rW,wh,ata,ho2,b12⟩ ?_;show(s.nn-(intOf (au ((k:Int)+1))).toNat)<_;simp only[D,intOf]; omega
   refine Lv aF (gN c35 (hx:=D) (hy:=T))<|aC<|Ws<|aK<|Wx<|bX<|gP<|bY<|sN<|ay<|Lv (.slice a (n) (p)) (aL I.aH 0 (ha:=d))<|av (.agg (aA 6 (bB zT0 0 1 (fun _ => .int .u8 (7)))))<|wV (vs := [(0,.agg (aA 6 (bB zT0 0 1 (fun _ => .int .u8 (7)))))]) (s:=6) (zc:=fun b=>if b<1 then .int .u8 (0)else if b<2 then aD 0 else if b<4 then au 0 else aD 0) (y:=bB (fun j=>zT0 (j % 6)) (0*6) 6 (bB zT0 0 1 (fun _ => .int .u8 (7)))) (by rfl) rfl rfl Tryz.underlying32 (by kernel_rfl) (by rfl) (by rfl) (by kernel_rfl) (by rw[aZ (off:=0*6) (s:=6) (y:=bB zT0 0 1 (fun _ => .int .u8 (7))) rfl (bE _ _) (by rfl)]; rfl) rfl fun g6 Ct P qX s10 z7 => ?_;have⟨wo,K⟩:=eU s10.old ad z;have lg6:=iw P z.size;have⟨agh,agi,agj,agk⟩:=K5 P aa.lt ab.lt ac.lt I.lt;have agl:(.slice a (n) (p):Value).ownBlock≠some g6:=(by rw[P]; exact ad.jF (A_ _));have tg6:=qX.lt;refine yc (B:=w.heap.size) (s:=6) (bytes:=48) (k:=n) (m:=1) (v := .slice a (n) (p)) (x:=O5 (eF id R i tj k)) (by rfl) rfl rfl rfl Tryz.underlying32 (by kernel_rfl) (by kernel_rfl) rfl rfl wo qX.aH (akG (fun j U=>by rcases j with _|_|_|_|_|_|j <;> first|rfl|omega)) (by omega) (by omega) (by omega) K.size fun S N EM ho1 hg1 tO hlt1 => ?_
   have tQ:Fx.Own EM w.heap.size 25 6 (bK S (n+1) N) (n+1) (O5 (eF id R i tj k ++ [mU])):=(ho1.congr (fun j U=>XT V (fun j U=>by rcases j with _|_|_|_|_|_|j <;> first|rfl|omega) j U))
   have b14:Below w.heap.size w EM:=xZ K hg1 K.size (fun q hq=>(wo.ge hq).1);refine av (bK S (n+1) N)<|av (au 0)<|aC<|Wr<|aJ (.tuple #[bK S (n+1) N,au 0]) ?_;have c:=He (s:=s) (i:=i) (tj:=tj) (id:=id) (R:=R) A C G;obtain ek:k=s.nn:=(by omega);exact⟨_,n+1,by rw[c.1],by rw[c.2,E_,<- ek,<- V]; rfl,by rw[c.2,<- ek]; exact tQ,b14⟩
  rw[U_]at C;refine dH ((xW h g l (iC s 6) tj _ m13.arr (by omega)).mono (fun e J d=>(⟨d.1.trans (by rw[F,Co]),d.2⟩:e = .returned (.bool (iT s tj))/\_))) aF (by rw[C]) ?_;intro KD hb4;have b15:=bf hb4 b5;refine av aG<|av aG<|av aG<|bO<|bO<|bO<|av aG<|aC<|aM<|ay<|av (.slice none 0 0)<|av (au 10)<|aC<|Wr<|sR<|aJ (.tuple #[.slice none 0 0,au 10]) ?_;have c:=zu (s:=s) (i:=i) (tj:=tj) (id:=id) (R:=R) (.inr (.inl C));exact⟨.slice none 0 0,0,by rw[c.1],by rw[c.2]; rfl,by rw[c.2]; exact tK _ _ _ _ _,b15⟩
 rw[U_]at A;refine dH ((xW h g l (iC s 6) i _ H.arr (by omega)).mono (fun e J d=>(⟨d.1.trans (by rw[F,Co]),d.2⟩:e = .returned (.bool (iT s i))/\_))) aF (by rw[A]) ?_;intro Lp hb5;have b16:=bf hb5 b4;refine av aG<|av aG<|bO<|bO<|bO<|bO<|av aG<|av aG<|bO<|bO<|bO<|av aG<|aC<|aM<|ay<|av (.slice none 0 0)<|av (au 10)<|aC<|Wr<|sR<|aJ (.tuple #[.slice none 0 0,au 10]) ?_;have c:=zu (s:=s) (i:=i) (tj:=tj) (id:=id) (R:=R) (.inl A);exact⟨.slice none 0 0,0,by rw[c.1],by rw[c.2]; rfl,by rw[c.2]; exact tK _ _ _ _ _,b16⟩
section
namespace Rt
def vQ(L:dP)(a:Nat)(x:gV):EvM:=⟨(a:Int)+1,L.known a+1,L.known,x.kind,x.node,x.dst,x.aT,x.req,x.of⟩
noncomputable def Nf(L:dP)(a:Nat)(l:List gV):Nat->dP
 | 0=>L
 | q+1=>bV (Nf L a l q) (vQ (Nf L a l q) a (l.getD q mY))
def pU(x:Nat->Int)(a b:Nat):Nat->Int:=if 0<Rt.L x a then upd x (18+a*6+b) (x (18+a*6+b)+Rt.L x a)else x
theorem agy{L:dP}{R b:Nat->Nat->Int}{K a:Nat->Int}(h1:R=b)(c:K=a):({ L with R:=R,known:=K }:dP) = { L with R:=b,known:=a }:=by rw[h1,c]
theorem agz{L:dP}{R:Nat->Nat->Int}{F:Nat->Bool}{K a:Nat->Int}(b:K=a):({ L with R:=R,left:=F,known:=K }:dP) = { L with R:=R,left:=F,known:=a }:=by rw[b]
def sP(L:dP)(a b k c:Nat):dP := { L with R:=fun q=>if q<k then pU (L.R q) a b else L.R q,known:=aI L.known a (L.known a+c) }
structure LvC(L:dP)(a b:Nat):Prop where
 a6:a<6
 b6:b<6
 ne:a≠b
 ia:L.inn a=true
 la:L.left a=false
 ib:L.inn b=true
 lb:L.left b=false
 kn : ∀ q,q<6->0<=L.known q/\L.known q<=1000
 sm : ∀ k,k<L.nn->(∀ p,L.R k p<=1099511627776)/\nT (L.R k)<=1099511627776
section
variable {L:dP} {a b k c N n:Nat} {x:Nat->Int} {v:EvM}
theorem Ye{K:Nat->Int}{y:gV}(b : ∀ q,q<6->0<=K q/\K q<=2000)(ha:a<6)(hy:pQ ⟨(a:Int)+1,K a+1,K,y.kind,y.node,y.dst,y.aT,y.req,y.of⟩=true)(g:dG ⟨(a:Int)+1,K a+1,K,y.kind,y.node,y.dst,y.aT,y.req,y.of⟩=true):bR ⟨(a:Int)+1,K a+1,K,y.kind,y.node,y.dst,y.aT,y.req,y.of⟩=true:=by
 have f:xD ⟨(a:Int)+1,K a+1,K,y.kind,y.node,y.dst,y.aT,y.req,y.of⟩=true:=by
  unfold xD; rw[List.all_eq_true]; intro j h; exact f_ (by have:=b j (O_.1 h); show K j<_; omega)
 have:=b a ha;have e:((a:Int)+1-1).toNat=a:=by omega
 have c:jh ((a:Int)+1)=true:=by unfold jh; simp; omega
 have d:decide (K ((a:Int)+1-1).toNat=K a+1-1)=true:=f_ (by rw[e]; omega);unfold bR;rw[f,hy,g];show(jh ((a:Int)+1)&&decide (1<=K a+1)&&decide (K a+1<1099511627776)&&decide (K ((a:Int)+1-1).toNat=K a+1-1)&&true&&true&&true)=true;rw[c,d,f_ (show 1<=K a+1 by omega),f_ (show K a+1<1099511627776 by omega)]; rfl
theorem Ng{M:dP}{y:gV}(ha:a<6)(c:bR (vQ M a y)=true)(hi:M.inn a=true)(e:M.left a=false):bD M (vQ M a y)=dX M (vQ M a y):=by
 have b:aN (vQ M a y)=a:=by show((a:Int)+1-1).toNat=a; omega
 have d:dJ M.known (vQ M a y)=true:=Gm c (by rw[b]; rfl) fun q _=>N_ _;unfold bD;rw[b_ (by rw[c]; decide),b_ (by rw[QU d]; decide),b_ (by rw[d]; decide),b_];rw[b,hi,e]; decide
theorem aaO(h:may x=true)(ha:a<6):0<=Rt.L x a/\Rt.L x a<=nT x:=by
 have p:=((kr x).1 h).2.1;have l:=fun k b=>(p k b).1;have f : ∀ k,k<6->F x k<=C x k:=fun k b=>(p k b).2.1;have:=l 0 (by decide); have:=l 1 (by decide); have:=l 2 (by decide); have:=l 3 (by decide); have:=l 4 (by decide); have:=l 5 (by decide);have:=f 0 (by decide); have:=f 1 (by decide); have:=f 2 (by decide); have:=f 3 (by decide); have:=f 4 (by decide); have:=f 5 (by decide);have s:Rt.L x 0+Rt.L x 1+Rt.L x 2+Rt.L x 3+Rt.L x 4+Rt.L x 5=nT x-mV x:=by simp only[Rt.L,mV,nT]; omega
 have u:0<=mV x:=by unfold mV; omega
 refine⟨l a ha,?_⟩
 rcases(show a=0\/a=1\/a=2\/a=3\/a=4\/a=5 by omega)with e|e|e|e|e|e <;> rw[e] <;> omega
theorem Yf(h:may x=true)(ha:a<6)(d:b<6)(j:a≠b)(c:0<Rt.L x a)(f:x (18+a*6+b)<=1099511627776)(g:nT x<=1099511627776):dn x ((a:Int)+1) ((b:Int)+1) (Rt.L x a)=(pU x a b,0):=by
 have i:=aaO h ha;have e:jZ ((a:Int)+1) ((b:Int)+1)=18+a*6+b:=by unfold jZ; rw[show((a:Int)+1).toNat-1=a by omega,show((b:Int)+1).toNat-1=b by omega]
 unfold dn
 rcases mK x (Rt.L x a) (gG ((a:Int)+1)&&gG ((b:Int)+1)) (mR x ((a:Int)+1) ((b:Int)+1) (Rt.L x a)) (jZ ((a:Int)+1) ((b:Int)+1))with ⟨_,_,q⟩|⟨_,q⟩
 ·refine M_ ⟨h,by omega,by omega,?_,?_,?_⟩ q
  ·unfold gG; simp; omega
  ·unfold mR; rw[b_ (by omega),iZ h a ha,g_ (by omega)]; rfl
  rw[e]; omega
 rw[q,e]; unfold pU; rw[d_ c]
theorem aaP(h:LvC L a b)(l:Inv0 L N)(d:k<L.nn)(z:c<=100)(s:0<Rt.L (L.R k) a) :
 bD (sP L a b k c) (vQ (sP L a b k c) a (su (L.id k) ((b:Int)+1) (bT (L.R k) ((a:Int)+1))))=0/\bV (sP L a b k c) (vQ (sP L a b k c) a (su (L.id k) ((b:Int)+1) (bT (L.R k) ((a:Int)+1))))=sP L a b (k+1) (c+1):=by
 have f:=l.may k d;have A:=aaO f h.a6;have u:=(h.sm k d).2;have n:bT (L.R k) ((a:Int)+1)=Rt.L (L.R k) a:=iZ f a h.a6;have r:su (L.id k) ((b:Int)+1) (bT (L.R k) ((a:Int)+1))=⟨5,L.id k,(b:Int)+1,Rt.L (L.R k) a,0,0⟩:=by
  unfold su;rw[n,show Yx (Rt.L (L.R k) a) 1125899906842624=Rt.L (L.R k) a by unfold Yx; split <;> omega]
 rw[r];have t : ∀ q,q<6->0<=(sP L a b k c).known q/\(sP L a b k c).known q<=2000:=fun q x=>by
  have:=h.kn q x;show 0<=aI L.known a (L.known a+c) q/\aI L.known a (L.known a+c) q<=2000;unfold aI;split
  ·subst_vars; omega
  ·omega
 have v:bR (vQ (sP L a b k c) a ⟨5,L.id k,(b:Int)+1,Rt.L (L.R k) a,0,0⟩)=true:=Ye t h.a6 (by simp[pQ,kU]) (by
  have:=h.b6; have:=h.ne;unfold dG someE lN jh;simp;omega)
 have g:(sP L a b k c).node (L.id k)=(k:Int):=l.at d;have p:aN (vQ (sP L a b k c) a ⟨5,L.id k,(b:Int)+1,Rt.L (L.R k) a,0,0⟩)=a:=by show((a:Int)+1-1).toNat=a; omega
 have o:(sP L a b k c).R k=L.R k:=b_ (by omega);have y:=h.b6;have w:=Yf f h.a6 h.b6 h.ne s ((h.sm k d).1 _) u;have m:wF (sP L a b k c) (vQ (sP L a b k c) a ⟨5,L.id k,(b:Int)+1,Rt.L (L.R k) a,0,0⟩)=(pU (L.R k) a b,0):=by
  show dn ((sP L a b k c).R ((sP L a b k c).node (L.id k)).toNat) ((a:Int)+1) ((b:Int)+1) (Rt.L (L.R k) a)=_;rw[g,show(k:Int).toNat=k by omega,o,w]
 have j:bD (sP L a b k c) (vQ (sP L a b k c) a ⟨5,L.id k,(b:Int)+1,Rt.L (L.R k) a,0,0⟩)=0:=by
  rw[Ng h.a6 v h.ia h.la];show oO (sP L a b k c) (vQ (sP L a b k c) a ⟨5,L.id k,(b:Int)+1,Rt.L (L.R k) a,0,0⟩)=0;show(if(sP L a b k c).node (L.id k)<0 then(9:Int)else if(b:Int)+1<1\/6<(b:Int)+1\/L.inn ((b:Int)+1-1).toNat=false then 10 else(wF (sP L a b k c) (vQ (sP L a b k c) a ⟨5,L.id k,(b:Int)+1,Rt.L (L.R k) a,0,0⟩)).2)=0;rw[b_ (show ¬ (sP L a b k c).node (L.id k)<0 by rw[g]; omega),b_,m];rintro (q|q|q)
  ·omega
  ·omega
  ·rw[show((b:Int)+1-1).toNat=b by omega,h.ib]at q; cases q
 refine⟨j,?_⟩;unfold bV;rw[d_ j];show D5 (Bc (sP L a b k c) _) _=_;unfold D5 Bc;rw[m,p];show({ (sP L a b k c)with R:=aI (sP L a b k c).R ((sP L a b k c).node (L.id k)).toNat (pU (L.R k) a b),known:=aI (sP L a b k c).known a ((sP L a b k c).known a+1) }:dP)=_;rw[g,show(k:Int).toNat=k by omega];refine agy (L:=L) (R:=aI (fun q=>if q<k then pU (L.R q) a b else L.R q) k (pU (L.R k) a b)) (K:=aI (aI L.known a (L.known a+c)) a (aI L.known a (L.known a+c) a+1)) ?_ ?_
 ·funext q
  unfold aI;by_cases e:q=k
  ·rw[d_ e,d_ (show q<k+1 by omega),e]
  rw[b_ e];show(if q<k then pU (L.R q) a b else L.R q)=if q<k+1 then pU (L.R q) a b else L.R q;by_cases i:q<k
  ·rw[d_ i,d_ (show q<k+1 by omega)]
  rw[b_ i,b_ (show ¬ q<k+1 by omega)]
 funext q
 unfold aI;split
 ·rw[d_ rfl]; omega
 rfl
theorem aaQ(f : ¬ 0<Rt.L (L.R k) a):sP L a b (k+1) c=sP L a b k c:=by
 unfold sP
 congr 1
 funext q
 by_cases e:q=k
 ·rw[d_ (show q<k+1 by omega),b_ (show ¬ q<k by omega),e]; unfold pU; rw[b_ f]
 by_cases d:q<k
 ·rw[d_ (show q<k+1 by omega),d_ d]
 rw[b_ (show ¬ q<k+1 by omega),b_ d]
theorem Fg{l:List gV}{y:gV}{q:Nat}:(q<l.length->(l ++ [y]).getD q mY=l.getD q mY)/\(l ++ [y]).getD l.length mY=y:=by
 refine⟨fun h => ?_,?_⟩
 ·rw[r_,r_,List.getElem?_append_left h]
 rw[r_,List.getElem?_append_right (A_ _),Nat.sub_self]; rfl
theorem Pf(h:LvC L a b)(f:Inv0 L N)(l:List gV) : ∀ k,k<=L.nn->(∀ q,q<(eF L.id L.R ((a:Int)+1) ((b:Int)+1) k).length->l.getD q mY=(eF L.id L.R ((a:Int)+1) ((b:Int)+1) k).getD q mY) ->
 Nf L a l (eF L.id L.R ((a:Int)+1) ((b:Int)+1) k).length=sP L a b k (eF L.id L.R ((a:Int)+1) ((b:Int)+1) k).length /\ ∀ q,q<(eF L.id L.R ((a:Int)+1) ((b:Int)+1) k).length->bD (Nf L a l q) (vQ (Nf L a l q) a (l.getD q mY))=0
 | 0,_,_=>by
   refine⟨?_,fun q d=>M_ d (z_ _)⟩;show L=sP L a b 0 0;unfold sP;have n:(fun q=>if q<0 then pU (L.R q) a b else L.R q)=L.R:=(by funext q; rw[b_ (z_ _)]);have o:aI L.known a (L.known a+((0:Nat):Int))=L.known:=by
    funext q; unfold aI; split
    ·subst_vars; omega
    ·rfl
   rw[n,o]
 | k+1,hk,hl=>by
   have i:bT (L.R k) ((a:Int)+1)=Rt.L (L.R k) a:=iZ (f.may k (by omega)) a h.a6;have v:=uz L.id L.R ((a:Int)+1) ((b:Int)+1) k;have w:=f.nn;by_cases g:0<bT (L.R k) ((a:Int)+1)
   ·have e:eF L.id L.R ((a:Int)+1) ((b:Int)+1) (k+1)=eF L.id L.R ((a:Int)+1) ((b:Int)+1) k ++ [su (L.id k) ((b:Int)+1) (bT (L.R k) ((a:Int)+1))]:=by
     show leave1 _ _ _ _=_;unfold leave1; rw[d_ g]
    rw[e]at hl ⊢;have p : ∀ q,q<(eF L.id L.R ((a:Int)+1) ((b:Int)+1) k).length->l.getD q mY=(eF L.id L.R ((a:Int)+1) ((b:Int)+1) k).getD q mY:=fun q d=>(hl q (by rw[E_]; exact Nat.lt_add_right _ d)).trans ((Fg (q:=q)).1 d);obtain⟨m,s⟩:=Pf h f l k (by omega) p;have j:l.getD (eF L.id L.R ((a:Int)+1) ((b:Int)+1) k).length mY=su (L.id k) ((b:Int)+1) (bT (L.R k) ((a:Int)+1)):=(hl _ (by rw[E_]; show _<_+1; omega)).trans (Fg (q:=0)).2;obtain⟨t,u⟩:=aaP (c:=(eF L.id L.R ((a:Int)+1) ((b:Int)+1) k).length) h f (show k<L.nn by omega) (by omega) (by rw[<- i]; exact g);have r:Nf L a l ((eF L.id L.R ((a:Int)+1) ((b:Int)+1) k).length+1)=sP L a b (k+1) ((eF L.id L.R ((a:Int)+1) ((b:Int)+1) k).length+1):=by
     show bV (Nf L a l _) (vQ (Nf L a l _) a (l.getD _ mY))=_;rw[m,j,u]
    rw[E_];refine⟨r,fun q d => ?_⟩;by_cases c:q=(eF L.id L.R ((a:Int)+1) ((b:Int)+1) k).length
    ·rw[c,m,j]; exact t
    ·exact s q (by have d:q<(eF L.id L.R ((a:Int)+1) ((b:Int)+1) k).length+1:=d; omega)
   ·have e:eF L.id L.R ((a:Int)+1) ((b:Int)+1) (k+1)=eF L.id L.R ((a:Int)+1) ((b:Int)+1) k:=by
     show leave1 _ _ _ _=_;unfold leave1; rw[b_ g]
    rw[e]at hl ⊢;rw[aaQ (by rw[<- i]; exact g)];exact Pf h f l k (by omega) hl
def gF(L:dP)(a b:Nat):List gV:=eF L.id L.R ((a:Int)+1) ((b:Int)+1) L.nn ++ [mU]
def sw(L:dP)(a b c:Nat):dP := { sP L a b L.nn c with left:=aI L.left a true,known:=aI L.known a (L.known a+((c+1:Nat):Int)) }
theorem aaR(h:LvC L a b)(g:Inv0 L N):(∀ q,q<(gF L a b).length->bD (Nf L a (gF L a b) q) (vQ (Nf L a (gF L a b) q) a ((gF L a b).getD q mY))=0)/\Nf L a (gF L a b) (gF L a b).length=sw L a b (eF L.id L.R ((a:Int)+1) ((b:Int)+1) L.nn).length:=by
 obtain⟨j,o⟩:=Pf h g (gF L a b) L.nn (A_ _) (fun q d=>(Fg (q:=q)).1 d);have i:(gF L a b).getD (eF L.id L.R ((a:Int)+1) ((b:Int)+1) L.nn).length mY=mU:=(Fg (q:=0)).2;have m:(gF L a b).length=(eF L.id L.R ((a:Int)+1) ((b:Int)+1) L.nn).length+1:=E_;have p:=uz L.id L.R ((a:Int)+1) ((b:Int)+1) L.nn;have r:=g.nn;generalize hc:(eF L.id L.R ((a:Int)+1) ((b:Int)+1) L.nn).length=c at *;have l : ∀ q,q<6->0<=(sP L a b L.nn c).known q/\(sP L a b L.nn c).known q<=2000:=fun q d=>by
  have:=h.kn q d;show 0<=aI L.known a (L.known a+c) q/\aI L.known a (L.known a+c) q<=2000;unfold aI;split
  ·subst_vars; omega
  ·omega
 have n:bR (vQ (sP L a b L.nn c) a mU)=true:=Ye (y:=mU) l h.a6 (by simp[pQ,kU,mU]) (by simp[dG,mU]);have k:aN (vQ (sP L a b L.nn c) a mU)=a:=by show((a:Int)+1-1).toNat=a; omega
 have f:bD (sP L a b L.nn c) (vQ (sP L a b L.nn c) a mU)=0:=by rw[Ng h.a6 n h.ia h.la]; rfl
 rw[m];refine⟨fun q d => ?_,?_⟩
 ·by_cases e:q=c
  ·rw[e,j,i]; exact f
  exact o q (by omega)
 show bV (Nf L a (gF L a b) c) (vQ (Nf L a (gF L a b) c) a ((gF L a b).getD c mY))=_;rw[j,i];unfold bV;rw[d_ f];show({ sP L a b L.nn c with left:=aI L.left (aN (vQ (sP L a b L.nn c) a mU)) true,known:=aI (sP L a b L.nn c).known (aN (vQ (sP L a b L.nn c) a mU)) ((sP L a b L.nn c).known (aN (vQ (sP L a b L.nn c) a mU))+1) }:dP)=_;rw[k];refine agz (L:=L) (R:=fun q=>if q<L.nn then pU (L.R q) a b else L.R q) (F:=aI L.left a true) (K:=aI (aI L.known a (L.known a+c)) a (aI L.known a (L.known a+c) a+1)) ?_
 funext q
 show aI (aI L.known a (L.known a+c)) a (aI L.known a (L.known a+c) a+1) q=aI L.known a (L.known a+((c+1:Nat):Int)) q;unfold aI;split
 ·rw[d_ rfl]; omega
 rfl
theorem Yg(h:may x=true)(ha:a<6)(p:b<6)(t:a≠b)(q:x (18+a*6+b)<=1099511627776)(r:nT x<=1099511627776)(s:k<6):may (pU x a b)=true/\Rt.L (pU x a b) k=if k=a then 0 else if k=b then Rt.L x b+Rt.L x a else Rt.L x k:=by
 by_cases n:0<Rt.L x a
 ·have o:=Yf h ha p t n q r;obtain⟨i,f,_,_,_,j,m,_,_,_,g,_⟩:=zM (show(dn x ((a:Int)+1) ((b:Int)+1) (Rt.L x a)).2=0 by rw[o]);have j:i=a:=by omega
  have m:f=b:=by omega
  subst j m;rw[o]at g;refine⟨g.may,?_⟩;rw[g.l k s];by_cases c:k=i
  ·rw[d_ c,b_ (show ¬ k=f by omega),d_ c,c]; omega
  rw[b_ c,b_ c];by_cases d:k=f
  ·rw[d_ d,d_ d,d]; omega
  rw[b_ d,b_ d]; omega
 have u:=(aaO h ha).1;have e:pU x a b=x:=by unfold pU; rw[b_ n]
 rw[e];refine⟨h,?_⟩;by_cases c:k=a
 ·rw[d_ c,c]; omega
 rw[b_ c];by_cases d:k=b
 ·rw[d_ d,d]; omega
 rw[b_ d]
end
end Rt
end
section
namespace Rt
section
variable {L:dP} {a b k c N n an q r:Nat} {ev:Nat->EvM} {x:Nat->Int} {v:EvM} {s:uR}
theorem sj.lvb(h:sj k ev an L)(W:Ws k ev an) : ∀ i,i<L.nn->(∀ p,L.R i p<=1099511627776)/\nT (L.R i)<=1099511627776:=fun i b=>by
 obtain⟨m,N,a,_⟩:=h.tw W;have r : ∀ p,L.R i p<=65536*an:=fun p=>by rw[<- a.t.row b]; exact a.s.r _ p
 have:=W.an;refine⟨fun p=>by have:=r p; omega,?_⟩;have:=r 0; have:=r 1; have:=r 2; have:=r 3; have:=r 4; have:=r 5;unfold nT; simp only[G]; omega
theorem SK(s:uR)(id:Nat->Int)(R:Nat->Nat->Int)(i tj:Int):lZ s i tj=0\/lZ s i tj=10/\rQ s id R i tj = []:=by
 unfold lZ rQ;by_cases h:iT s i=false\/iT s tj=false\/i=tj
 ·rw[d_ h,d_ h]; exact .inr ⟨rfl,rfl⟩
 rw[b_ h]; exact .inl rfl
theorem Ky{i:Int}(h:iT s i=true):1<=i/\i<=6/\s.inn (i-1).toNat=true/\s.left (i-1).toNat=false:=by
 unfold iT isLive at h;simp only[T_,decide_eq_true_eq,Bool.not_eq_true']at h;exact⟨h.1.1,h.1.2,h.2.1,h.2.2⟩
theorem agA{na ga:Option Addr}{nc gc:Nat}(h:sj k ev an L)(W:Ws k ev an)(n : ∀ q,q<6->0<=L.known q/\L.known q<=1000)(e:lZ (qM L na nc ga gc) ((a:Int)+1) ((b:Int)+1)=0):LvC L a b/\rQ (qM L na nc ga gc) L.id L.R ((a:Int)+1) ((b:Int)+1)=gF L a b:=by
 by_cases c:iT (qM L na nc ga gc) ((a:Int)+1)=false\/iT (qM L na nc ga gc) ((b:Int)+1)=false\/(a:Int)+1=(b:Int)+1
 ·rw[(zu (id:=L.id) (R:=L.R) c).1]at e; cases e
 have j:iT (qM L na nc ga gc) ((a:Int)+1)=true:=by
  cases h:iT (qM L na nc ga gc) ((a:Int)+1)
  ·exact M_ (.inl h) c
  ·rfl
 have l:iT (qM L na nc ga gc) ((b:Int)+1)=true:=by
  cases h:iT (qM L na nc ga gc) ((b:Int)+1)
  ·exact M_ (.inr (.inl h)) c
  ·rfl
 have m : ¬ (a:Int)+1=(b:Int)+1:=fun e=>c (.inr (.inr e));obtain⟨o,p,d,f⟩:=Ky j;obtain⟨r,s,g,i⟩:=Ky l;rw[show((a:Int)+1-1).toNat=a by omega]at d f;rw[show((b:Int)+1-1).toNat=b by omega]at g i;exact⟨⟨by omega,by omega,by omega,d,f,g,i,n,h.lvb W⟩,(He j l m).2⟩
theorem agB{y:gV}(b:BL L.known)(ha:a<6)(hy:Av y):gL (vQ L a y):=by
 have h:=O6 (i:=(a:Int)+1) b hy (by unfold jh; simp; omega);have e:pI L.known ((a:Int)+1) y=vQ L a y:=by unfold pI vQ; rw[show((a:Int)+1-1).toNat=a by omega]
 rw[<- e]; exact h
theorem Yh(d:Inv0 L N) : ∀ x∈gF L a b,b<6->Av x:=fun x e f=>by
 have:=SI (s:=qM L none 0 none 0) (id:=L.id) (R:=L.R) (i:=(a:Int)+1) (tj:=(b:Int)+1) ⟨by omega,by omega⟩ (fun k c=>by have:=d.pos k c; have:=d.top k c; exact⟨by omega,by omega⟩);unfold gF at e
 rcases List.mem_append.1 e with h|h
 ·exact G9 ⟨by omega,by omega⟩ L.nn (fun k c=>by have:=d.pos k c; have:=d.top k c; exact⟨by omega,by omega⟩) x h
 ·obtain rfl:x=mU:=by simpa using h
  exact⟨by decide,⟨by decide,by decide⟩,⟨by decide,by decide⟩,⟨by decide,by decide⟩,⟨by decide,by decide⟩,⟨by decide,by decide⟩⟩
def lvW(L:dP)(a b k r:Nat):Int:=if r=a then 0 else if r=b then Rt.L (L.R k) b+Rt.L (L.R k) a else Rt.L (L.R k) r
theorem akI:0=lvW L a b k a:=by unfold lvW; rw[d_ rfl]
theorem akJ(h : ¬ b=a):Rt.L (L.R k) b+Rt.L (L.R k) a=lvW L a b k b:=by unfold lvW; rw[b_ h,d_ rfl]
theorem Yi(h:LvC L a b)(e:Inv0 L N)(d:k<L.nn)(hr:r<6):jy (sw L a b c) (L.id k) ((r:Int)+1)=lvW L a b k r:=by
 have i:(sw L a b c).node (L.id k)=(k:Int):=e.at d;have f:=h.sm k d;obtain⟨j,l⟩:=Yg (e.may k d) h.a6 h.b6 h.ne (f.1 _) f.2 hr;have g:(sw L a b c).R k=pU (L.R k) a b:=d_ d;unfold jy;rw[i,b_ (by omega),show(k:Int).toNat=k by omega,g,iZ j r hr,l];rfl
theorem acj(h:LvC L a b)(d:Inv0 L N)(c:k<L.nn)(hr:r<6):0<=Rt.L (L.R k) r/\Rt.L (L.R k) r<=1099511627776:=by
 have:=aaO (d.may k c) hr;have:=(h.sm k c).2;omega
theorem QZ(h:LvC L a b){na ga KJ KL:Option Addr}{nc gc KM KN:Nat} : ∀ n,((iC (qM (sw L a b c) na nc ga gc) n).length:Int)=((iC (qM L KJ KM KL KN) n).length:Int)-if a<n then 1 else 0
 | 0=>rfl
 | n+1=>by
   have g:=QZ h (na:=na) (ga:=ga) (KJ:=KJ) (KL:=KL) (nc:=nc) (gc:=gc) (KM:=KM) (KN:=KN) n;by_cases e:n=a
   ·subst e;have d:isLive (qM (sw L n b c) na nc ga gc) n=false:=by
     show(L.inn n && !aI L.left n true n)=false;unfold aI; rw[d_ rfl]; cases L.inn n <;> rfl
    have i:isLive (qM L KJ KM KL KN) n=true:=by
     show(L.inn n && !L.left n)=true;rw[h.ia,h.la]; rfl
    rw[uU d,wM i,g,E_,b_ (by omega),d_ (by omega)];show _=((_+1:Nat):Int)-1;omega
   ·have d:isLive (qM (sw L a b c) na nc ga gc) n=isLive (qM L KJ KM KL KN) n:=by
     show(L.inn n && !aI L.left a true n)=(L.inn n && !L.left n);unfold aI; rw[b_ e]
    have f:(a<n+1)=(a<n):=propext ⟨fun q=>by omega,fun q=>by omega⟩
    cases h3:isLive (qM L KJ KM KL KN) n with
    | true =>
      rw[wM h3,wM (d.trans h3),E_,E_];simp only[f];show((_+1:Nat):Int)=((_+1:Nat):Int)-_;omega
    | false=>rw[uU h3,uU (d.trans h3),g]; simp only[f]
theorem Yj(h:LvC L a b){na ga KJ KL:Option Addr}{nc gc KM KN:Nat}:((iC (qM (sw L a b c) na nc ga gc) 6).length:Int)=((iC (qM L KJ KM KL KN) 6).length:Int)-1:=by
 have:=QZ (c:=c) h (na:=na) (ga:=ga) (KJ:=KJ) (KL:=KL) (nc:=nc) (gc:=gc) (KM:=KM) (KN:=KN) 6;rw[d_ h.a6]at this; exact this
theorem aaS{na ga:Option Addr}{nc gc:Nat}(f:q<(iC (qM (sw L a b c) na nc ga gc) 6).length) : ¬ (iC (qM (sw L a b c) na nc ga gc) 6).getD q 0=(a:Int)+1:=fun e=>by
 have h:=(G8 6).1 (acg f);rw[e,show((a:Int)+1-1).toNat=a by omega]at h;have d:=h.2.2;have:isLive (qM (sw L a b c) na nc ga gc) a=false:=by
  show(L.inn a && !aI L.left a true a)=false;unfold aI; rw[d_ rfl]; cases L.inn a <;> rfl
 rw[this]at d; cases d
theorem Pg:(sw L a b c).left a=true:=by
 show aI L.left a true a=true;unfold aI; rw[d_ rfl]
theorem Yk:(sw L a b c).nn=L.nn:=rfl
theorem Hf:(sw L a b c).id=L.id:=rfl
theorem SL:(gF L a b).length=(eF L.id L.R ((a:Int)+1) ((b:Int)+1) L.nn).length+1:=E_
end
end Rt
end
section
namespace Rt
section
variable {L:dP} {a b k N:Nat} {x:gV} {s:uR} {i tj:Int}
theorem akK(h:lZ s i tj=0) : ∃ b:Nat,b<6/\tj=(b:Int)+1:=by
 unfold lZ at h;by_cases c:iT s i=false\/iT s tj=false\/i=tj
 ·rw[d_ c]at h; cases h
 have a:iT s tj=true:=by
  cases h:iT s tj
  ·exact M_ (.inr (.inl h)) c
  ·rfl
 obtain⟨d,e,_,_⟩:=Ky a;exact⟨(tj-1).toNat,by omega,by omega⟩
theorem Ph : ∀ x∈gF L a b,x.kind=5\/x.kind=7:=fun x c=>by
 unfold gF at c
 rcases List.mem_append.1 c with h|h
 ·left;have : ∀ n,x∈eF L.id L.R ((a:Int)+1) ((b:Int)+1) n->x.kind=5:=fun n=>by
   induction n with
   | zero=>intro h; cases h
   | succ n ih =>
     intro h;have h:x∈leave1 (eF L.id L.R ((a:Int)+1) ((b:Int)+1) n) (L.id n) ((b:Int)+1) (bT (L.R n) ((a:Int)+1)):=h;unfold leave1 at h;split at h
     ·rcases List.mem_append.1 h with q|q
      ·exact ih q
      ·rw[List.mem_singleton.1 q]; rfl
     ·exact ih h
  exact this _ h
 ·right; rw[List.mem_singleton.1 h]; rfl
theorem akL(ha:a<6)(i:x.kind=5\/x.kind=7)(g:bD L (vQ L a x)=0):doV L ((a:Int)+1) x=vQ L a x/\doC L ((a:Int)+1) x=0/\doL L ((a:Int)+1) x=bV L (vQ L a x):=by
 have h:iH L ((a:Int)+1) x=false:=(Nb (.inr ⟨by omega,by omega⟩)).1;have e:pI L.known ((a:Int)+1) x=vQ L a x:=by unfold pI vQ; rw[show((a:Int)+1-1).toNat=a by omega]
 have c:kM L ((a:Int)+1) x=0:=by rw[tF (by unfold jh; simp; omega),e]; exact g
 have v:jf L ((a:Int)+1) x=vQ L a x:=(QY c).2.1.trans e;obtain⟨b,d,f⟩:=Nc h;exact⟨b.trans v,d.trans c,by rw[f,v]⟩
theorem agC(ha:a<6){Z:Nat->Value}(c:Z 0 = .int .i64 0) : ¬ ∀ i,i<14->bM (vQ L a x) i=Z i:=fun h=>by
 have b:=h 0 (by decide);rw[c]at b;have b:Value.int .i64 ((a:Int)+1) = .int .i64 0:=b;injection b with _ e;omega
end
end Rt
end
namespace Rt
theorem Nh{ks:List (Option IntKind)}{X Y:Nat->Value}(h:Fx.Kd ks X)(e : ∀ i,i<ks.length->X i=Y i):Fx.Kd ks Y:=fun i a=>by
 obtain⟨l,b⟩:=h i a; exact⟨l,by rw[<- e i a]; exact b⟩
def wR:Nat->Int:=upd (fun _=>0) 0 6
def SN(g cap:Nat):uR:=⟨fun i=>decide (i<2),fun _=>false,fun _=>0,some ⟨g,0,none⟩,1,cap,none,0,0⟩
theorem agD{x z:Nat->Value} : ∀ j,j<(0+1)*56->ig x (0*56) (bB z (0*56) 56 (jW 9 0 wR)) j=flat 56 (fun _=>jW 9 0 wR) j:=fun j a=>by
 rw[app0];unfold bB;rw[d_ (by omega),show j-0*56=j by omega];exact(Fx.iq (F:=fun _=>jW 9 0 wR) (k:=0) (by omega) (by omega)).symm
theorem Ni : ∀ g a:Nat,lZ (SN g a) 1 2=0/\lZ (SN g a) 1 3=10:=fun g a=>⟨by kernel_rfl,by kernel_rfl⟩
theorem agE:bT wR 1=6:=by kernel_rfl
theorem aaT(g cap:Nat):rQ (SN g cap) (fun _=>9) (fun _=>wR) 1 2 = [su 9 2 6,mU]:=by
 rw[(He (s:=SN g cap) (by kernel_rfl) (by kernel_rfl) (by decide)).2];show leave1 [] 9 2 (bT wR 1) ++ [mU]=_;rw[agE]; rfl
theorem agF(g cap:Nat):rQ (SN g cap) (fun _=>9) (fun _=>wR) 1 3 = []:=(zu (.inr (.inl (by kernel_rfl)))).2
theorem aaU(g cap:Nat):(iC (SN g cap) 6).length=2:=by kernel_rfl
end Rt
theorem Rt.akM(j:Nat):dB (bB zK0 0 1 (fun _=>aD 9)) 2 (au 6) j=jW 9 0 wR j:=by
 unfold dB bB jW wR upd;by_cases a:j=0
 ·subst a; rfl
 by_cases b:j=1
 ·subst b; rfl
 by_cases c:j=2
 ·subst c; rfl
 rw[b_ c,b_ (by omega),b_ a,b_ b,b_ (by omega)];show(if j<2 then _ else _)=_;rw[b_ (by omega)]
set_option maxRecDepth 20000 in
set_option maxHeartbeats 1000000 in
theorem zw(w:World) :
 Calls Tryz.prog 32 #[] w fun e w'=>e = .returned (.bool true)/\Below w.heap.size w w':=by
 refine Kent Tryz.func32 60 ?_;refine ay<|av aF<|aC<|ay<|Lv (.agg (aA 6 (bB (bB (fun _ => .bool false) 0 1 (fun _ => .bool true)) 1 1 (fun _ => .bool true)))) (Fx.Fv (vs := [(0,.bool true),(1,.bool true)]) (s:=1) (m:=6) (x:=fun _ => .bool false) rfl rfl Tryz.underlying46 (by kernel_rfl) (by kernel_rfl) (by rw[aZ (off:=0) (s:=1) (y:=fun _ => .bool true) (by kernel_rfl) (cells_one (by rfl)) (by rfl)]; rw[aZ (off:=1) (s:=1) (y:=fun _ => .bool true) (by kernel_rfl) (cells_one (by rfl)) (by rfl)]; rfl))<|av (.agg (aA 20 (bB zP0 0 6 (bB (bB (fun _ => .bool false) 0 1 (fun _ => .bool true)) 1 1 (fun _ => .bool true)))))<|qR 20 zP0 fun r w1 kQ m1 s1 z1 => ?_;have L:=bf s1.old (Below.refl w.heap.size w);have rF:=gD kQ;have sQ:=m1.lt;refine dU m1 0 (h1:=(bJ (fun l _=>by show(zP0 l).oneCell'=true; simp only[zP0]; repeat (first|rfl|split)) (bJ (bJ (fun l _=>by show((fun _ => .bool false:Nat->Value) l).oneCell'=true; simp only[]; repeat (first|rfl|split)) (fun _ _=>rfl)) (fun _ _=>rfl)))) fun w2 m2 s2 z2 => ?_
 have m3:aP w2 r 20 (bB zP0 0 6 (bB (bB (fun _ => .bool false) 0 1 (fun _ => .bool true)) 1 1 (fun _ => .bool true))) 50:=aQ m2;have M:=s2.below L L.size (by omega);refine aC<|ay<|av (.agg (aA 56 (bB zK0 0 1 (fun _=>aD 9))))<|qR 56 zK0 fun o w3 S J s3 z3 => ?_;have⟨m5,N⟩:=eU s3.old m3 M;have pO:=iw S M.size;have IK:=cu S m3.lt;have yu:=J.lt;refine dU J 0 (h1:=(bJ (fun l _=>by show(zK0 l).oneCell'=true; simp only[zK0]; repeat (first|rfl|split)) (fun _ _=>rfl))) fun w4 m6 s4 z4 => ?_
 have m7:aP w4 o 56 (bB zK0 0 1 (fun _=>aD 9)) 84:=aQ m6;have fV:=gH s4 J.ty;have m8:=jo fV m5;have O:=s4.below N N.size (by omega);refine aC<|ay<|av (pf o 2)<|av (pf o 2)<|Lv (pf o 2) (jJ 6 1)<|ji m7 2 (au 6) fun w5 m9 s5 z5 => ?_;have jr:=gH s5 m7.ty;have I:=jo jr m8;have P:=s5.below O O.size (by omega);refine aC<|Ws ?_;have m11:aP w5 o 56 (jW 9 0 wR) 84:=m9.congr (fun j F=>akM j);refine Wl<|av (pf r 18)<|Lv (.slice none 0 0) (aL I.aH 18 (Fx.zy (by omega) rfl))<|Lv (.agg (aA 56 (jW 9 0 wR))) (eT m11.aH 0)<|wV (vs := [(0,.agg (aA 56 (jW 9 0 wR)))]) (s:=56) (zc:=fun a=>if a<2 then aD 0 else au 0) (y:=bB (fun j=>zK0 (j % 56)) (0*56) 56 (jW 9 0 wR)) (by rfl) rfl rfl Tryz.underlying47 (by kernel_rfl) (by rfl) (by rfl) (by kernel_rfl) (by rw[aZ (off:=0*56) (s:=56) (y:=jW 9 0 wR) rfl (bE _ _) (by rfl)]; rfl) rfl fun g3 p T m12 s6 z6 => ?_;have⟨m13,A⟩:=eU s6.old I P;have Bp:=iw T P.size;have⟨Xg,OM⟩:=sF T I.lt m11.lt;have Hg:=m12.lt;refine yc (B:=w.heap.size) (s:=56) (bytes:=448) (k:=0) (m:=1) (v := .slice none 0 0) (x:=fun _=>undef) (by rfl) rfl rfl rfl Tryz.underlying47 (by kernel_rfl) (by kernel_rfl) rfl rfl (tK p w.heap.size 84 56 (fun _=>undef)) m12.aH (uT (qE _ _ _)) (by omega) (by omega) (by omega) A.size fun c b K ho1 g tO hlt1 => ?_;have qc:=yC g (tK p w.heap.size 84 56 (fun _=>undef));have m16:=jo qc m13;have hq1:Below p.heap.size p K:=⟨g.os,g.tape,g.output,g.size,fun q H=>g.block q H (fun e=>by cases e)⟩
 have m15:Fx.Own K w.heap.size 84 56 (bK c 1 b) 1 (flat 56 (fun _=>jW 9 0 wR)):=(ho1.congr (fun j F=>agD j F));have Q:Below w.heap.size w K:=xZ A g A.size (fun q H=>((tK p w.heap.size 84 56 (fun _=>undef)).ge H).1);refine av (pf r 18)<|ji m16 18 (bK c 1 b) fun w8 m18 s7 z7 => ?_;have xu:=gH s7 m16.ty;have m20:=jo xu m15;have b8:=s7.below Q Q.size (by omega);refine aC<|Ws ?_;have m21:aP w8 r 20 (kI (SN c b)) 50:=m18.congr (fun j F=>by rcases j with _|_|_|_|_|_|_|_|_|_|_|_|_|_|_|_|_|_|_|_|j <;> first|rfl|omega)
 refine Wl<|Lv (.agg (aA 20 (kI (SN c b)))) (eT m21.aH 0)<|lD (Kw (SN c b) (fun _=>9) (fun _=>0) (fun _=>wR) 1 2 _ (by show 1<=900000; omega) (fun k G=>m20.arr.at G) (by omega)) ?_;rintro R w9 ⟨vq1,nq1,f,V,E,atb⟩;obtain⟨h,d,rfl⟩:=E.val;rw[(Ni c b).1]at f;rw[aaT]at V E;obtain rfl:nq1=2:=V;refine⟨_,f,?_⟩;clear f;have⟨m23,m24,b9⟩:=iy atb m20 m21 b8;refine av (.tuple #[.slice h (2) (d),au 0])<|av (.slice h (2) (d))<|av (au 0)<|av (.slice h (2) (d))<|av (au 0)<|aC<|ay<|Lv (.agg (aA 20 (kI (SN c b)))) (eT m24.aH 0)<|lD (Kw (SN c b) (fun _=>9) (fun _=>0) (fun _=>wR) 1 3 _ (by show 1<=900000; omega) (fun k G=>m23.arr.at G) (by omega)) ?_;rintro R pJ ⟨vq2,nq2,f,W,U,atc⟩;obtain⟨z,C,rfl⟩:=U.val;rw[(Ni c b).2]at f;rw[agF]at W U;obtain rfl:nq2=0:=W;refine⟨_,f,?_⟩;clear f;have⟨nH,og,b10⟩:=iy atc m24 E b9;refine av (.tuple #[.slice z (0) (C),au 10])<|av (.slice z (0) (C))<|av (au 10)<|av (.slice z (0) (C))<|av (au 10)<|aC<|ay<|av (au 0)<|Lv aG (eH rfl)<|av aG<|av (.slice h (2) (d))<|av (au 2)<|Lv aG (eH rfl)<|av aG<|av aG<|av (.slice h (2) (d)) ?_;obtain⟨t,D⟩:=og.addr (by omega);have oh:Fx.Own pJ w8.heap.size 25 6 (bK t 2 d) 2 (O5 [su 9 2 6,mU]):=og.eY (L_ (fun q=>Value.slice q 2 d) D);refine Lv (pt t) (dw 6 (hx:=(rfl.trans (L_ (fun q=>Value.slice q (2) (d)) D))))<|Lv (.agg (aA 6 (qN ([su 9 2 6,mU].getD 0 mY)))) (eT oh.aH 0 (fun l hjq=>Fx.iq (k:=0) (by omega) hjq))<|av (.agg (aA 6 (bB (bB (bB (bB zT0 0 1 (fun _ => .int .u8 (5))) 1 1 (fun _=>aD 9)) 2 1 (fun _=>au 2)) 3 1 (fun _=>au 6))))<|Lv aG (Fx.uV (n:=6) (ks := [(some .u8),(some .u64),(some .i64),(some .i64),(some .u64),(some .u64)]) (X:=qN ([su 9 2 6,mU].getD 0 mY)) (Y:=bB (bB (bB (bB zT0 0 1 (fun _ => .int .u8 (5))) 1 1 (fun _=>aD 9)) 2 1 (fun _=>au 2)) 3 1 (fun _=>au 6)) 12 true rfl rfl rfl (Fx.Ht (fun i u=>by rcases i with _|_|_|_|_|_|i <;> first|rfl|omega)) (Nh (XU ⟨by decide,⟨by decide,by decide⟩,⟨by decide,by decide⟩,⟨by decide,by decide⟩,⟨by decide,by decide⟩,⟨by decide,by decide⟩⟩:Fx.Kd _ (qN (su 9 2 6))) (fun i u=>by rcases i with _|_|_|_|_|_|i <;> first|rfl|exact M_ u (by simp))) (Nh (XU ⟨by decide,⟨by decide,by decide⟩,⟨by decide,by decide⟩,⟨by decide,by decide⟩,⟨by decide,by decide⟩,⟨by decide,by decide⟩⟩:Fx.Kd _ (qN (su 9 2 6))) (fun i u=>by rcases i with _|_|_|_|_|_|i <;> first|rfl|exact M_ u (by simp))) rfl (by kernel_rfl) (by kernel_rfl) (by kernel_rfl) (by kernel_rfl) (by kernel_rfl))<|av aG<|av aG<|av (.slice h (2) (d))<|Lv (pf t 6) (dw 6 (hx:=(rfl.trans (L_ (fun q=>Value.slice q (2) (d)) D))))<|av (pf t 6)<|Lv (.int .u8 (([su 9 2 6,mU].getD 1 mY).kind)) (aL oh.aH 6 (Fx.fU (k:=1) (j:=0) (by omega) (by omega) rfl))<|Lv aG (eH rfl)<|av aG<|av aG<|av (au 10)<|Lv aG (eH rfl)<|av aG<|av aG<|Lv (.agg (aA 20 (kI (SN c b)))) (eT nH.aH 0)<|lD (Kv (SN c b) _) ?_
 rintro R DV ⟨vq3,nq3,f,Z,atd,ate⟩;obtain⟨aq3,avm,rfl⟩:=atd.val;rw[aaU]at Z;subst Z;refine⟨_,f,?_⟩;clear f;have b11:=bf ate b10;refine av (au 2)<|Lv aG (eH rfl)<|av aG<|av aG<|aC<|Wr<|aJ aG ?_;exact⟨rfl,b11⟩
namespace Rt
end Rt
attribute [local irreducible] gF lvW jy eF iC pU Rt.L sw in
set_option maxRecDepth 20000 in
set_option maxHeartbeats 2000000 in
theorem Nj(rb:Nat)(X8:Option Addr)(na ca:Nat)(xa:Nat->ED)(W:Nat)(tj:Int)(w:World)(hrb:rb<=255)(hpb:W<=255)(htj : -9223372036854775808<=tj/\tj<=9223372036854775807)(hxa : ∀ k,k<na->GH (xa k))(X9:mP w X8 na 9 (flat 9 fun k=>GI (xa k)))(hK:iU w 0 0 8 Cj) :
 Calls Tryz.prog 7 #[.int .u8 (rb:Int),.slice X8 (na) (ca),.int .u8 (W:Int),au tj] w fun e w'=>e = .returned (.bool true)/\Below w.heap.size w w':=by
 have l0:=hK.lt (by omega);have hB:1<=w.heap.size:=by omega
 refine Kent Tryz.func7 167 ?_;refine ay<|av aF<|aC<|Ws<|ay<|av (.slice X8 (na) (ca)) ?_;by_cases c24:(decide ((na:Int)<=60))=true
 ·refine lH (abG _ _ _ _) (ax := #[.slice X8 (na) (ca)]) aG (by rw[c24])<|av aF<|aC<|aK<|Wk<|sN<|Ws ?_;have hna:=h_ c24;refine Wl<|av (.int .u8 (rb:Int))<|av (.slice X8 (na) (ca))<|av (.int .u8 (W:Int))<|lD (X7 rb X8 na ca xa W _ (by omega) hrb hpb hxa (X9.up (Below.refl w.heap.size w) rfl) (hK.below (Below.refl w.heap.size w) l0)) ?_;rintro e9 w1 ⟨D,mq,Q,g,N9,B,hwo,agr,atf,hWC,akr,atg,hN9,hlo1,hI9,hb1⟩;refine⟨_,B,?_⟩;clear B;have b1:=bf hb1 (Below.refl w.heap.size w);have hWs:=hWC.w;have hFd:=hWC.f g atf;have akN:=atg.weak (Below.refl w.heap.size w).size;obtain⟨l,hmd⟩ : ∃ q,(Q.ml g).core=q:=⟨_,rfl⟩;rw[hmd]at akN hI9 hFd;have akO:=hlo1.mono (Below.refl w.heap.size w).size;refine av (.tuple #[(pt D),(pt (Q.pl g)),.bool true])<|av (pt D)<|av (pt (Q.pl g))<|av aG<|av (pt D)<|av (pt (Q.pl g))<|av aG<|aC<|Ws<|ay<|av aG<|av aF<|aC<|aK<|Wk<|sN<|Ws ?_;obtain⟨rn,ern⟩ : ∃ r,r=rb % 6:=⟨_,rfl⟩;have hrn:rn<6:=by rw[ern]; exact J_ _ (by omega)
  have ewo:g=W % (rn+1):=by rw[hwo,ern]
  have Pj:g<6:=by have:=J_ W (show 0<rn+1 by omega); omega
  obtain⟨m,emd⟩ : ∃ q,q=Q.ml g:=⟨_,rfl⟩;obtain⟨C,epd⟩ : ∃ q,q=Q.pl g:=⟨_,rfl⟩;have hlo2:uh w1 w.heap.size C m:=by rw[emd,epd]; exact akO
  have O:m.core=l:=by rw[emd]; exact hmd
  have atl:m.s.nn=l.nn:=by rw[<- O]; rfl
  have hL32:l.nn<=32:=hI9.nn;have N:=hI9.toInv0;have hK9 : ∀ q,q<6->0<=l.known q/\l.known q<=1000:=fun q hq=>⟨(N.kn q hq).1,by have:=hFd.kc.le q hq; have:=QV Q.ev Q.an q; omega⟩;have azw:m.core.id=l.id:=by rw[O]
  refine Wl<|av (.int .u8 (W:Int))<|Lv (au W) (dA rfl rfl (by kernel_rfl) Tryz.underlying3 (iN (by omega) rfl))<|av (.int .u8 (rb:Int))<|Lv (au rb) (dA rfl rfl (by kernel_rfl) Tryz.underlying3 (iN (by omega) rfl))<|Lv (au rn) (Fx.xX rfl rfl rfl (by omega) (EF ern))<|Lv (au ((rn:Int)+1)) fA<|Lv (au g) (Fx.xX rfl rfl rfl (by omega) (akF ewo))<|Lv (au ((g:Int)+1)) fA<|av (au ((g:Int)+1))<|aC<|Ws ?_;have ZB:=hlo2.c;refine Wl<|aU (L_ (fun q=>Value.pointer (some ⟨q,0,none⟩)) epd.symm)<|av (pt C)<|av (pt C)<|Lv (.agg (aA 20 (fun j=>(mD m) (0+j)))) (eT ZB.aH 0 (fun _ _=>rfl))<|av (au ((g:Int)+1))<|av (au tj)<|lD (Kw m.s m.id m.par m.R ((g:Int)+1) tj _ (by omega) hlo2.ldg.n (by omega)) ?_;rintro e9 w2 ⟨v9,u,B,U,hO9,Yn⟩;obtain⟨la,I,rfl⟩:=hO9.val;refine⟨_,B,?_⟩;clear B;have⟨m1,m2,b2⟩:=iy Yn akN hlo2 b1;refine av (.tuple #[.slice la (u) (I),au (lZ m.s ((g:Int)+1) tj)])<|av (.slice la (u) (I))<|av (au (lZ m.s ((g:Int)+1) tj))<|av (.slice la (u) (I))<|av (au (lZ m.s ((g:Int)+1) tj))<|aC<|Ws<|ay<|av (au (lZ m.s ((g:Int)+1) tj)) ?_;by_cases c56:(lZ m.s ((g:Int)+1) tj)=0
  ·refine Lv aF (jG c56)<|aC<|aK<|Wk<|sN<|Ws<|Ws ?_;have e56:lZ m.s ((g:Int)+1) tj=0:=by first|exact c56|omega
   obtain⟨o,aaV,etj⟩:=akK e56;rw[etj]at e56 U;have agG:=hO9;rw[etj]at agG;obtain⟨T,hlv⟩:=agA (L:=m.core) (na:=m.s.na) (nc:=m.s.nc) (ga:=m.s.ga) (gc:=m.s.gc) (by rw[O]; exact hFd) hWs (by rw[O]; exact hK9) e56;rw[O]at T;have hlv2:rQ m.s m.id m.R ((g:Int)+1) ((o:Int)+1)=(gF l g o):=(by rw[<- O]; exact hlv);rw[hlv2]at U agG;have hle:=aaR T N;have hlw : ∀ q,q<u->Av ((gF l g o).getD q mY)/\(((gF l g o).getD q mY).kind=5\/((gF l g o).getD q mY).kind=7):=fun q hq=>⟨Yh N _ (ach (by rw[<- U]; exact hq)) aaV,Ph _ (ach (by rw[<- U]; exact hq))⟩;obtain⟨cc,hcc⟩ : ∃ q,q=(eF l.id l.R ((g:Int)+1) ((o:Int)+1) l.nn).length:=⟨_,rfl⟩;have azy:cc<=32:=(by rw[hcc]; exact m_ (uz _ _ _ _ _) hL32);have azz:u=cc+1:=(by rw[U,hcc]; exact SL);have atn:=T.ne;refine Wl<|av (au 0)<|aC<|Wb<|Wo (fun f y => ∃ t:Nat,∃ mz:dN,t<=u/\f 3=au ((o:Int)+1)/\f 9=(pt D)/\f 10=(pt C)/\f 12=au ((g:Int)+1)/\f 13 = .slice la (u) (I)/\f 15=au (t:Int)/\Fx.Own y w1.heap.size 25 6 (.slice la (u) (I)) u (O5 (gF l g o))/\vP y w.heap.size D mz (Nf l g (gF l g o) t) (N9+t)/\uh y w.heap.size C m/\Below w.heap.size w y) (fun f _=>(u-(intOf (f 15)).toNat)) ⟨0,mq,by omega,((L_ (Value.int .i64) etj).trans Fx.ic),(by rfl),(L_ (fun q=>Value.pointer (some ⟨q,0,none⟩)) epd.symm),Fx.ic,(by rfl),Fx.ic,agG,m1,m2,b2⟩ ?_;rintro f1 P ⟨t,mz,hqx,h1,J,h3,h4,h5,h6,m4,m5,m6,b3⟩;refine Ws<|ay<|aU h6<|aU h5<|av (au u) ?_;by_cases c66:(t:Int)<(u:Int)
   ·refine Lv aG (gM c66)<|aC<|aM<|Wk<|sN<|Ws<|Wb<|Ws ?_;obtain⟨H,hL7⟩ : ∃ q,q=(Nf l g (gF l g o) t):=⟨_,rfl⟩;have m7:vP P w.heap.size D mz H (N9+t):=(by rw[hL7]; exact m5);have hx7:=hlw t (by omega);have hE7:bD H (vQ H g ((gF l g o).getD t mY))=0:=(by rw[hL7]; exact hle.1 t (by rw[<- U]; omega));obtain⟨hd1,hd2,hd3⟩:=akL Pj hx7.2 hE7;have hv7:gL (vQ H g ((gF l g o).getD t mY)):=agB m7.i.kn Pj hx7.1;refine Wl<|aU J<|aU h4<|aU h5<|aU h6 ?_;obtain⟨Eu,eq1⟩:=m4.addr (by omega);have m8:Fx.Own P w1.heap.size 25 6 (bK Eu u I) u (O5 (gF l g o)):=m4.eY (L_ (fun q=>Value.slice q u I) eq1);refine Lv (pf Eu (6*t)) (dw 6 (hx:=(rfl.trans (L_ (fun q=>Value.slice q (u) (I)) eq1))))<|Lv (.agg (aA 6 (qN ((gF l g o).getD t mY)))) (eT m8.aH (6*t) (fun jq hjq=>Fx.iq (k:=t) (by omega) hjq))<|lD (asU D w.heap.size (N9+t) mz H _ m7 hB (hK.below b3 l0) (by omega) ((g:Int)+1) (by omega) ((gF l g o).getD t mY) hx7.1) ?_;rintro e9 w4 ⟨mnq,B,hq1,hc1⟩;rw[hd3]at hq1;refine⟨.tuple #[.agg (aA 14 (bM (vQ H g ((gF l g o).getD t mY)))),au 0],by rw[B,hd1,hd2],?_⟩;clear B;have SH:=m7.q.typed hc1;have agu:=m7.q.Kk hc1 b3.size;have b4:=ajC b3 agu (A_ _);have m9:=m6.Em SH (by decide);have m10:=m8.Em SH (by decide);refine av (.tuple #[.agg (aA 14 (bM (vQ H g ((gF l g o).getD t mY)))),au 0])<|av (.agg (aA 14 (bM (vQ H g ((gF l g o).getD t mY)))))<|av (au 0)<|qR 14 zQ0 fun g1 w5 kQ m11 s3 z1 => ?_;have⟨m12,m13,m14,b5⟩:=jN s3.old m9 m10 hq1 b4;have rF:=iw kQ b4.size;have ato:=cu kQ m10.lt;have sQ:=m11.lt;refine dU m11 0 (h1:=(gK _)) fun w6 m15 s4 z2 => ?_;have m16:aP w6 g1 14 (bM (vQ H g ((gF l g o).getD t mY))) 37:=aQ m15;have fV:=gH s4 m11.ty;have⟨m17,m18,m19⟩:=zZ fV m12 m13 m14;have b6:=s4.below b5 b5.size (by omega);refine av (au 0)<|aC<|ay<|av (au 0)<|Lv aF (jG rfl)<|av aF<|Lv (.agg (aA 14 (bM (vQ H g ((gF l g o).getD t mY))))) (eT m16.aH 0)<|av (.agg (aA 14 zQ0))<|Lv aF (Fx.uV (n:=14) (ks := [(some .i64),(some .u64),(some .u64),(some .u64),(some .u64),(some .u64),(some .u64),(some .u64),(some .u8),(some .u64),(some .i64),(some .i64),(some .u64),(some .u64)]) (X:=bM (vQ H g ((gF l g o).getD t mY))) (Y:=fun x=>if x<1 then au 0 else if x<8 then aD 0 else if x<9 then .int .u8 (0)else if x<10 then aD 0 else if x<12 then au 0 else aD 0) 12 false rfl rfl rfl (Fx.nob (agC Pj rfl)) (Ap hv7) (Kc (Ap GN) (fun j hj=>by rcases j with _|_|_|_|_|_|_|_|_|_|_|_|_|_|j <;> first|rfl|omega)) rfl (by kernel_rfl) (by kernel_rfl) (by kernel_rfl) (by kernel_rfl) (by kernel_rfl))<|av aF<|aC<|aK<|Wk<|bP<|sN<|Wl<|aU h6<|Lv (au ((t:Int)+1)) fA<|av (au ((t:Int)+1))<|Ln ?_
    have m20:Fx.Own w6 w1.heap.size 25 6 (.slice la (u) (I)) u (O5 (gF l g o)):=m18.eY (L_ (fun q=>Value.slice q u I) eq1.symm);have m21:vP w6 w.heap.size D mnq (Nf l g (gF l g o) (t+1)) (N9+(t+1)):=by have Z:=m19; rw[hL7]at Z; exact Z
    skip
    refine gW ⟨t+1,mnq,by omega,(h1.trans Fx.ic),J,h3,(h4.trans Fx.ic),h5,Fx.ic,m20,m21,m17,b6⟩ ?_;show(u-(intOf (au ((t:Int)+1))).toNat)<_;simp only[h6,intOf]; omega
   refine Lv aF (gN c66)<|aC<|aK<|Wx<|bX<|gP<|bY<|sN<|Ws ?_;have eqx:t=u:=(by omega);obtain⟨h,M⟩ : ∃ q,q=sw l g o cc:=⟨_,rfl⟩;have m22:vP P w.heap.size D mz h (N9+t):=(by have Z:=m5; rw[show(Nf l g (gF l g o) t)=h from by rw[eqx,U,M,hcc]; exact hle.2]at Z; exact Z);have eNN:h.nn=l.nn:=(by rw[M]; exact Yk);have eID:h.id=l.id:=(by rw[M]; exact Hf);have eLF:h.left g=true:=(by rw[M]; exact Pg);refine Wl<|aU J<|lD (Kl m22 (by omega)) ?_;rintro e9 w7 ⟨ss1,B,Ya,hb2⟩;obtain⟨z,v,E,F,eS9⟩ : ∃ a b c d,ss1=qM h a b c d:=⟨_,_,_,_,Ya.e⟩;subst eS9;refine⟨_,B,?_⟩;clear B;have⟨m23,m24,b7⟩:=iy hb2 m6 m22 b3;refine qR 20 zP0 fun K w8 yw mZ s6 z3 => ?_;have⟨nQ,nH,og,b8⟩:=jN s6.old m23 m24 Ya b7;have pO:=iw yw b7.size;have yu:=mZ.lt;refine dU mZ 0 (h1:=(fun j _=>P6 _ j)) fun w9 oh s7 z4 => ?_;have oD:aP w9 K 20 (kI (qM h z v E F)) 50:=aQ oh;have jr:=gH s7 mZ.ty;have⟨lI,m32,pE⟩:=zZ jr nQ nH og;have b9:=s7.below b8 b8.size (by omega);refine aC<|Ws<|Ws ?_;have aeB:=lI.c;refine vV<|aW (pf K 18)<|Qv (.slice z (h.nn) (v)) (fun v1 V=>aL (oD.aH.dr V) 18)<|aW (au h.nn)<|eG h3<|aW (pt C)<|aW (pt C)<|aW (pf C 18)<|Qv (.slice m.s.na (m.s.nn) (m.s.nc)) (fun v1 V=>aL (aeB.aH.dr V) 18)<|aW (au m.s.nn)<|Qv aF (fun v1 V=>Fx.Tn rfl rfl rfl (by rw[eNN,atl]))<|aW aF<|eG h4<|Qv (au g) (fun v1 V=>gQ)<|aW (pf K 6)<|Qv (pf K (g+6)) (fun v1 V=>jJ 6 1)<|Qv aG (fun v1 V=>aL (oD.aH.dr V) (g+6) ((ug _ Pj (by omega)).trans (L_ Value.bool eLF)))<|aW aF<|aW aF<|Qn ?_;rintro _ ⟨qd,rfl⟩;obtain⟨BM,nV⟩ : ∃ v1,v1=World.drewN w9 qd:=⟨_,rfl⟩;rw[<- nV];have s8:Stp w9.heap.size w9 BM:=(by rw[nV]; exact Sb (jA w9 qd));have⟨nR,pF,nS,qW,b10⟩:=nN s8.old lI m32 pE oD b9;clear nV;refine sN<|aK<|Wk<|sN<|Ws<|Ws ?_;have hyN:=nS.n;refine Wl<|av (au 0)<|aC<|Wb<|Wo (fun f y => ∃ p:Nat,p<=h.nn/\f 3=au ((o:Int)+1)/\f 9=(pt D)/\f 10=(pt C)/\f 12=au ((g:Int)+1)/\f 18=(pt K)/\f 19=au (p:Int)/\uh y w.heap.size C m/\vP y w.heap.size D mz h (N9+t)/\KP y P.heap.size (qM h z v E F) h/\aP y K 20 (kI (qM h z v E F)) 50/\Fx.Own y P.heap.size 84 56 (.slice z (h.nn) (v)) h.nn (flat 56 (OW h))/\Below w.heap.size w y) (fun f _=>(h.nn-(intOf (f 19)).toNat)) ⟨0,by omega,(h1.trans Fx.ic),J,h3,(h4.trans Fx.ic),(by rfl),Fx.ic,nR,pF,nS,qW,hyN,b10⟩ ?_;rintro f2 pJ ⟨p,hjx,h7,h8,h9,h10,h11,h12,pK,sS,mh,lM,mH,b11⟩;refine Ws<|ay<|aU h12<|Lv (pf K 18) (iL h11 18)<|Lv (.slice z (h.nn) (v)) (aL lM.aH 18)<|av (au h.nn) ?_;by_cases akP:(p:Int)<(h.nn:Int)
   ·refine Lv aG (gM akP)<|aC<|aM<|Wk<|sN<|Ws<|Wb<|Ws ?_;have hj9:p<l.nn:=(by omega);have hLw:=acj T N hj9 Pj;have SY:=acj T N hj9 aaV;have hl1:jy h (h.id p) ((g:Int)+1)=0:=(by rw[M,Hf,Yi T N hj9 Pj]; exact akI.symm);have hr1:jy l (h.id p) ((g:Int)+1)=Rt.L (l.R p) g:=(by rw[eID]; exact X4 N hj9 g Pj);have hr2:jy l (h.id p) ((o:Int)+1)=Rt.L (l.R p) o:=(by rw[eID]; exact X4 N hj9 o aaV);have hl2:jy h (h.id p) ((o:Int)+1)=jy l (h.id p) ((o:Int)+1)+jy l (h.id p) ((g:Int)+1):=(by rw[hr1,hr2,M,Hf,Yi T N hj9 aaV]; exact(akJ (fun e=>atn e.symm)).symm);refine Wl<|Lv (pf K 18) (iL h11 18)<|Lv (.slice z (h.nn) (v)) (aL lM.aH 18)<|aU h12 ?_;obtain⟨Oj,Ev⟩:=mH.addr (by omega);have qg:Fx.Own pJ P.heap.size 84 56 (bK Oj h.nn v) h.nn (flat 56 (OW h)):=mH.eY (L_ (fun q=>Value.slice q h.nn v) Ev);refine Lv (pf Oj (56*p)) (dw 56 (hx:=(rfl.trans (L_ (fun q=>Value.slice q (h.nn) (v)) Ev))))<|av (pf Oj (56*p))<|Lv (aD (h.id p)) (aL qg.aH (56*p) (Fx.fU (k:=p) (j:=0) (by omega) (by omega) rfl))<|av (aD (h.id p))<|aC<|ay<|aU h8<|aU h10<|av (aD (h.id p))<|dH (QN sS ((g:Int)+1) (h.id p) (by omega)) _ rfl ?_;intro DV hb3;have⟨qh,om,rW,wh,uD,b12⟩:=oJ hb3 pK sS mh lM qg b11;refine Lv aF (jG hl1)<|av aF<|aU h8<|aU h7<|av (aD (h.id p))<|dH (QN om ((o:Int)+1) (h.id p) (by omega)) _ rfl ?_;intro Ct hb4;have⟨qX,vJ,uZ,uE,wm,b13⟩:=oJ hb4 qh om rW wh uD b12;refine aU h9<|aU h7<|av (aD (h.id p))<|dH ((QS m C ((o:Int)+1) (h.id p) _ qX.ldg).mono (fun e w2 J=>(⟨J.1.trans (by rw[O]),J.2⟩:e = .returned (au (jy l (h.id p) ((o:Int)+1)))/\_))) _ rfl ?_;intro EM hb5;have⟨wo,tQ,tT,uF,yD,b14⟩:=oJ hb5 qX vJ uZ uE wm b13;refine aU h9<|aU h10<|av (aD (h.id p))<|dH ((QS m C ((g:Int)+1) (h.id p) _ wo.ldg).mono (fun e w2 J=>(⟨J.1.trans (by rw[O]),J.2⟩:e = .returned (au (jy l (h.id p) ((g:Int)+1)))/\_))) _ rfl ?_;intro KD hb6;have⟨rG,vK,pz,uI,m64,b15⟩:=oJ hb6 wo tQ tT uF yD b14;refine Lv (au ((jy l (h.id p) ((o:Int)+1))+(jy l (h.id p) ((g:Int)+1)))) fA<|Lv aF (jG hl2)<|av aF<|aC<|aK<|Wk<|bP<|sN<|Wl<|aU h12<|Lv (au ((p:Int)+1)) fA<|av (au ((p:Int)+1))<|Ln ?_;have xw:Fx.Own KD P.heap.size 84 56 (.slice z (h.nn) (v)) h.nn (flat 56 (OW h)):=m64.eY (L_ (fun q=>Value.slice q h.nn v) Ev.symm);refine gW ⟨p+1,by omega,(h7.trans Fx.ic),h8,h9,(h10.trans Fx.ic),h11,Fx.ic,rG,vK,pz,uI,xw,b15⟩ ?_;show(h.nn-(intOf (au ((p:Int)+1))).toNat)<_;simp only[h12,intOf]; omega
   refine Lv aF (gN akP)<|aC<|aK<|Wx<|bX<|gP<|bY<|sN<|ay<|Lv (.agg (aA 20 (kI (qM h z v E F)))) (eT lM.aH 0 (ha:=h11))<|lD (Kv (qM h z v E F) _) ?_;rintro e9 Lp ⟨vb,A,B,hnb,hOb,hbb⟩;obtain⟨ab,S,rfl⟩:=hOb.val;have azF:A<=6:=(by rw[hnb]; exact zo _ 6);refine⟨_,B,?_⟩;clear B;have⟨wN,vL,xA,tV,vM,b16⟩:=oJ hbb pK sS mh lM mH b11;refine av (.slice ab (A) (S))<|aC<|Ws<|ay<|av (au 0)<|aC<|Wb<|Wo (fun f y => ∃ G:Nat,G<=A/\f 9=(pt D)/\f 10=(pt C)/\f 12=au ((g:Int)+1)/\f 21 = .slice ab (A) (S)/\f 22=au (G:Int)/\uh y w.heap.size C m/\vP y w.heap.size D mz h (N9+t)/\KP y P.heap.size (qM h z v E F) h/\aP y K 20 (kI (qM h z v E F)) 50/\Fx.Own y P.heap.size 84 56 (.slice z (h.nn) (v)) h.nn (flat 56 (OW h))/\Fx.Own y pJ.heap.size 3 1 (.slice ab (A) (S)) A (O9 (iC (qM h z v E F) 6))/\Below w.heap.size w y) (fun f _=>(A-(intOf (f 22)).toNat)) ⟨0,by omega,h8,h9,(h10.trans Fx.ic),(by rfl),Fx.ic,wN,vL,xA,tV,vM,hOb,b16⟩ ?_;rintro f3 w16 ⟨G,hkq,Rl,SV,Ym,h16,PN,uP,vN,vO,zI,wO,yI,b17⟩;refine Ws<|ay<|aU PN<|aU h16<|av (au A) ?_;by_cases c145:(G:Int)<(A:Int)
   ·refine Lv aG (gM c145)<|aC<|aM<|Wk<|sN<|Ws<|Wb<|ay<|aU h16<|aU PN ?_;obtain⟨gq3,Qf⟩:=yI.addr (by omega);have yJ:Fx.Own w16 pJ.heap.size 3 1 (bK gq3 A S) A (O9 (iC (qM h z v E F) 6)):=yI.eY (L_ (fun q=>Value.slice q A S) Qf);refine Lv (pf gq3 G) (dw 1 (hx:=(rfl.trans (L_ (fun q=>Value.slice q (A) (S)) Qf))))<|Lv (au ((iC (qM h z v E F) 6).getD G 0)) (aL yJ.aH G)<|aU Ym<|Lv aF (iM rfl rfl rfl (fun e=>aaS (L:=l) (a:=g) (b:=o) (c:=cc) (q:=G) (na:=z) (nc:=v) (ga:=E) (gc:=F) (by rw[<- M,<- hnb]; omega) (by rw[<- M]; exact e)))<|aC<|aK<|Wk<|bP<|sN<|Wl<|aU PN<|Lv (au ((G:Int)+1)) fA<|av (au ((G:Int)+1))<|Ln ?_;have yK:Fx.Own w16 pJ.heap.size 3 1 (.slice ab (A) (S)) A (O9 (iC (qM h z v E F) 6)):=yJ.eY (L_ (fun q=>Value.slice q A S) Qf.symm);refine gW ⟨G+1,by omega,Rl,SV,(Ym.trans Fx.ic),h16,Fx.ic,uP,vN,vO,zI,wO,yK,b17⟩ ?_;show(A-(intOf (au ((G:Int)+1))).toNat)<_;simp only[PN,intOf]; omega
   refine Lv aF (gN c145)<|aC<|aK<|Wx<|bX<|gP<|bY<|sN<|Ws ?_;have atp:=uP.c;refine Wl<|aU h16<|av (au A)<|aU SV<|av (pt C)<|av (pt C)<|Lv (.agg (aA 20 (fun j=>(mD m) (0+j)))) (eT atp.aH 0 (fun _ _=>rfl))<|lD (Kv m.s _) ?_;rintro e9 Ur ⟨vd,nd,B,hnd,hOd,hbd⟩;obtain⟨ad,azH,rfl⟩:=hOd.val;have azI:nd<=6:=(by rw[hnd]; exact zo _ 6);refine⟨_,B,?_⟩;clear B;have b18:=bf hbd b17;refine av (au nd)<|Lv (au ((nd:Int)-1)) gQ<|Lv aG (iX rfl rfl rfl (by have Z:=Yj (c:=cc) T (na:=z) (nc:=v) (ga:=E) (gc:=F) (KJ:=m.s.na) (KM:=m.s.nc) (KL:=m.s.ga) (KN:=m.s.gc); rw[<- M,<- hnb,<- O]at Z; rw[hnd]; exact Z))<|av aG<|dH (zw _) _ rfl ?_;intro Ut hb7;have b19:=bf hb7 b18;refine av aG<|av aG<|aC<|Wr<|aJ aG ?_;exact⟨rfl,b19⟩
  refine Lv aG (mG c56)<|aC<|aM<|Ws ?_;obtain⟨azJ,akQ⟩:=(SK m.s m.id m.R ((g:Int)+1) tj).resolve_left c56;have hn0:u=0:=by rw[U,akQ]; rfl
  refine Wl<|av (.slice la (u) (I))<|av (au u)<|Lv aG abj<|av aG<|dH (zw _) _ rfl ?_;intro w19 hb8;have b20:=bf hb8 b2;refine av aG<|av aG<|aC<|Wr<|sR<|aJ aG ?_;exact⟨rfl,b20⟩
 rw[U_]at c24;refine lH (abG _ _ _ _) (ax := #[.slice X8 (na) (ca)]) aF (by rw[c24])<|av aG<|aC<|aM<|ay<|dH (zw _) _ rfl ?_;intro Uw Yn;have NU:=bf Yn (Below.refl w.heap.size w);refine av aG<|aC<|Wr<|sR<|aJ aG ?_;exact⟨rfl,NU⟩
end Go.Proofs.YtcbedgfikejkoaaGreatDoor
namespace Go.Proofs.YtcbedgfikejkoaaGreatDoor
open Go Go.RowKit Rt
set_option maxRecDepth 100000
theorem kG : Tryz.prog.globalNamed "leat/ledger.kinds" = some 0 := by kernel_rfl
theorem kT:(Tryz.prog.globals[0]?).map (·.type)=some 163:=by kernel_rfl
theorem kC:Tryz.prog.cellsOf 162=1:=by kernel_rfl
theorem kC8:Tryz.prog.cellsOf 163=8:=by kernel_rfl
theorem Nk{H:Type}{enc:TypeId × Value->H}{P:Program}{w:World}{base:Nat}{d:Nat->Bool}{a:Bool}{fuel:Nat}{t:TypeId}{c rs:Array TypeId}{e:Bool}{v:Value}{q:List MemPlace}(b:P.underlying t=some (.func c rs e))(h:DataW.trod enc P w base d a fuel t [v]=some (.nil,q)):v = .nilFunc:=by
 cases fuel with
 | zero=>simp[DataW.trod]at h
 | succ n=>cases v <;> simp[DataW.trod,b]at h <;> rfl
theorem Nl {W : World} (h : laidMetH Tryz.prog [("leat/ledger.kinds", Rows.laid_leat_ledger_kinds)] W) : Fx.iU W 0 0 8 Cj := by
 obtain⟨g,t,e,R,p,V,Z,hv,T⟩:=h.funcs (List.mem_singleton.2 rfl);obtain rfl:=C_ (kG.symm.trans V);obtain rfl:=C_ (kT.symm.trans Z);have U:DataW.trod (funcToken Tryz.prog) Tryz.prog W 0 (fun _=>true) true R 163 e.toList=some (.agg [.nil,.held [40,42,108,101,97,116,47,108,101,100,103,101,114,46,76,101,100,103,101,114,41,46,109,97,107,101,115],.held [40,42,108,101,97,116,47,108,101,100,103,101,114,46,76,101,100,103,101,114,41,46,114,97,105,115,101,115],.held [40,42,108,101,97,116,47,108,101,100,103,101,114,46,76,101,100,103,101,114,41,46,116,97,107,101,115],.held [40,42,108,101,97,116,47,108,101,100,103,101,114,46,76,101,100,103,101,114,41,46,102,114,101,101,115],.held [40,42,108,101,97,116,47,108,101,100,103,101,114,46,76,101,100,103,101,114,41,46,109,111,118,101,115],.held [40,42,108,101,97,116,47,108,101,100,103,101,114,46,76,101,100,103,101,114,41,46,106,111,105,110,115],.held [40,42,108,101,97,116,47,108,101,100,103,101,114,46,76,101,100,103,101,114,41,46,108,101,97,118,101,115]],p):=T;obtain⟨k,m,_,Q,Y,hl,l⟩:=DataW.trod_array Tryz.underlying163 U;have P:k.map (·.1) = [.nil,.held [40,42,108,101,97,116,47,108,101,100,103,101,114,46,76,101,100,103,101,114,41,46,109,97,107,101,115],.held [40,42,108,101,97,116,47,108,101,100,103,101,114,46,76,101,100,103,101,114,41,46,114,97,105,115,101,115],.held [40,42,108,101,97,116,47,108,101,100,103,101,114,46,76,101,100,103,101,114,41,46,116,97,107,101,115],.held [40,42,108,101,97,116,47,108,101,100,103,101,114,46,76,101,100,103,101,114,41,46,102,114,101,101,115],.held [40,42,108,101,97,116,47,108,101,100,103,101,114,46,76,101,100,103,101,114,41,46,109,111,118,101,115],.held [40,42,108,101,97,116,47,108,101,100,103,101,114,46,76,101,100,103,101,114,41,46,106,111,105,110,115],.held [40,42,108,101,97,116,47,108,101,100,103,101,114,46,76,101,100,103,101,114,41,46,108,101,97,118,101,115]]:=by
  have:=L_ Prod.fst Q;simp only[DataW.agg.injEq]at this;exact this.symm
 rw[kC8]at Y;rw[kC]at l;have a : ∀ i,i<8 -> ∀ d,(k.map (·.1))[i]? = some d -> ∃ c q,e[i]? = some c/\DataW.trod (funcToken Tryz.prog) Tryz.prog W 0 (fun _=>true) true m 162 [c]=some (d,q):=fun i X d b=>by
  have f:=l i X;rw[Nat.mul_one]at f;have S:(e.toList.drop i).take 1 = [e.toList[i]'(by omega)]:=by rw[List.drop_eq_getElem_cons (by omega)]; rfl
  rw[S]at f;rw[List.getElem?_map]at b
  cases hx:k[i]? with
  | none=>rw[hx]at b; cases b
  | some x =>
    rw[hx]at f b;simp only[Option.map_some,Option.some.injEq]at b;refine⟨e.toList[i]'(by omega),x.2,?_,by rw[f,<- b]⟩;rw[<- Array.getElem?_toList,o_ (by omega)]
 rw[P]at a;intro j hj;rw[G_,World.var?_cell kG hv j];obtain⟨c0,q0,n,z⟩:=a 0 (by decide) _ rfl;have H:=Nk Tryz.underlying162 z;obtain⟨c1,q1,o,A⟩:=a 1 (by decide) _ rfl;have I:=func_of_trod (f0:=207) Tryz.underlying162 (by kernel_rfl) A;obtain⟨c2,q2,r,B⟩:=a 2 (by decide) _ rfl;have J:=func_of_trod (f0:=208) Tryz.underlying162 (by kernel_rfl) B;obtain⟨c3,q3,s,C⟩:=a 3 (by decide) _ rfl;have K:=func_of_trod (f0:=209) Tryz.underlying162 (by kernel_rfl) C;obtain⟨c4,q4,u,D⟩:=a 4 (by decide) _ rfl;have L:=func_of_trod (f0:=210) Tryz.underlying162 (by kernel_rfl) D;obtain⟨c5,q5,v,E⟩:=a 5 (by decide) _ rfl;have M:=func_of_trod (f0:=211) Tryz.underlying162 (by kernel_rfl) E;obtain⟨c6,q6,w,F⟩:=a 6 (by decide) _ rfl;have N:=func_of_trod (f0:=212) Tryz.underlying162 (by kernel_rfl) F;obtain⟨c7,q7,y,G⟩:=a 7 (by decide) _ rfl;have O:=func_of_trod (f0:=213) Tryz.underlying162 (by kernel_rfl) G
 rcases j with _|_|_|_|_|_|_|_|j
 ·rw[n,H]; rfl
 ·rw[o,I]; rfl
 ·rw[r,J]; rfl
 ·rw[s,K]; rfl
 ·rw[u,L]; rfl
 ·rw[v,M]; rfl
 ·rw[w,N]; rfl
 ·rw[y,O]; rfl
 omega
theorem Yl (os : Os) (args : Array Value) : laidMetH Tryz.prog [("leat/ledger.kinds", Rows.laid_leat_ledger_kinds)] ((World.doorLaid Tryz.prog 600 os).forCall (fun _ _ => 0) ⟨#[], args, []⟩).memory :=
 laidMetH_of_parts3 (fuel:=8) (laidMet_of_run' 8 (by kernel_rfl) (by kernel_rfl)) (by kernel_rfl) (by kernel_rfl)
end Go.Proofs.YtcbedgfikejkoaaGreatDoor
