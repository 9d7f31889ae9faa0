/-
  What the proof of the law rests on, part 7: walks of functions, and plain laws; each says its conditions itself.
-/
import Derived.Test.YtcbedgfikejkoaaGreatDoorZB6
set_option maxRecDepth 20000
set_option linter.unusedVariables false
set_option maxHeartbeats 1600000
set_option linter.unusedSimpArgs false
namespace Go.Proofs.YtcbedgfikejkoaaGreatDoor
open Go.RowKit Rt
open Fx (Lv sN Ln Ws Qv Wl Wr Sb Wk Wb Wx Wo Qn xO zf gQ zh wW ze rv aA aR bC ev Stp flat dA aZ ny bJ cells_one iW iD bP bW bX gP iq)
namespace Rt
def Mx(L:fA)(c:Option Addr)(d:Nat)(a:Option Addr)(b:Nat):DI:=⟨L.inn,L.left,L.known,c,L.nn,d,a,L.gn,b⟩
def VK(L:fA):Nat->Nat->Value:=fun k=>mE (L.id k) (L.par k) (L.R k)
def VL(L:fA):Nat->Nat->Value:=fun k=>ji (L.g k)
structure LWf(L:fA):Prop where
 n : ∀ k,k<L.nn->iP (L.id k)/\iP (L.par k) /\ ∀ p,p<54->oZ (L.R k p)
 g : ∀ k,k<L.gn->oZ (L.g k 0)/\iP (L.g k 1)/\iP (L.g k 2)/\oZ (L.g k 3)/\iP (L.g k 4)
 k : ∀ i,i<6->iP (L.known i)
 bn:L.nn<=900000
 bg:L.gn<=900000
theorem aeg{n:Int}(h:iP n):(Lit.int .u64 n).wf=true:=Fx.tV h
theorem apU{n:Int}(h:oZ n):(Lit.int .i64 n).wf=true:=Fx.RB h
theorem LV{n:Int}(h:iP n):oK (some .u64) (.int .u64 n)=some (.int .u64 n):=by simp[oK,aeg h]
theorem VN{n:Int}(h:oZ n):oK (some .i64) (.int .i64 n)=some (.int .i64 n):=by simp[oK,apU h]
theorem En(b:Nat->Bool):Fx.Kd (List.replicate 6 none) (fun j => .bool (b j)):=fun i a=>⟨.bool (b i),by rw[List.getElem_replicate]; rfl⟩
theorem aas{id par:Int}{R:Nat->Int}(h:iP id/\iP par /\ ∀ p,p<54->oZ (R p)):Fx.Kd (some .u64::some .u64::List.replicate 54 (some .i64)) (mE id par R):=fun i a=>by
 match i,a with
 | 0,_=>exact⟨_,LV h.1⟩
 | 1,_=>exact⟨_,LV h.2.1⟩
 | i+2,a =>
   have b:i<54:=(by simp at a; omega);have e:(some IntKind.u64::some IntKind.u64::List.replicate 54 (some IntKind.i64))[i+2]=some .i64:=(by rw[List.getElem_cons_succ,List.getElem_cons_succ,List.getElem_replicate]);rw[e,M5 _ _ _ (p:=i) rfl];exact⟨_,VN (h.2.2 i b)⟩
theorem aat{x:Nat->Int}(h:oZ (x 0)/\iP (x 1)/\iP (x 2)/\oZ (x 3)/\iP (x 4)):Fx.Kd [some .i64,some .u64,some .u64,some .i64,some .u64] (ji x):=fun i a=>by
 match i,a with
 | 0,_=>exact⟨_,VN h.1⟩
 | 1,_=>exact⟨_,LV h.2.1⟩
 | 2,_=>exact⟨_,LV h.2.2.1⟩
 | 3,_=>exact⟨_,VN h.2.2.2.1⟩
 | 4,_=>exact⟨_,LV h.2.2.2.2⟩
theorem LWf.of{L:fA}{N:Nat}(a:Inv0 L N)(o:Ah L)(m:xH L)(A:N<=900000):LWf L where
 n:=fun k c=>by
  have y:=a.pos k c;have z:=a.top k c;have f:=kM (a.may k c);refine⟨⟨by omega,by omega⟩,?_,fun p r=>by have:=f p r; exact⟨by omega,by omega⟩⟩
  rcases a.up k c with e|⟨j,b,e⟩
  ·rw[e]; exact⟨by omega,by omega⟩
  ·have h:=a.pos j b;have l:=a.top j b;rw[<- e]; exact⟨by omega,by omega⟩
 g:=fun k c=>by
  obtain⟨d,u,v,w,x⟩:=o.gb k c;obtain⟨s,t⟩:=m.wf k c;obtain⟨j,b,e⟩:=iK.1 d;rw[a.Cn]at b;rw[(a.tid j b).1]at e;have h:=a.pos j b;have l:=a.top j b;exact⟨⟨by omega,by omega⟩,s,by rw[<- e]; exact⟨by omega,by omega⟩,⟨by omega,by omega⟩,t⟩
 k:=fun i q=>by have:=a.kn i q; exact⟨by omega,by omega⟩
 bn:=by have:=a.nn; omega
 bg:=by have:=a.gn; omega
end Rt
structure J2(w:World)(s:DI)(L:fA):Prop where
 e:s=Mx L s.na s.nc s.ga s.gc
 n:ny w s.na L.nn 56 (flat 56 (VK L))
 g:ny w s.ga L.gn 5 (flat 5 (VL L))
theorem J2.up{w w':World}{s:DI}{L:fA}(h:J2 w s L)(a:Below w.heap.size w w'):J2 w' s L:=⟨h.e,h.n.up a rfl,h.g.up a rfl⟩
instance {w w':World} {s:DI} {L:fA}:Rt.Tr w w' (J2 w s L) (J2 w' s L):=⟨fun b h=>h.up b⟩
theorem J2.Z9{w:World}{p:Nat}{m:kr}(h:BG w p m):J2 w m.s m.core:=⟨rfl,h.an,h.ag⟩
theorem J2.of{w:World}{B:Nat}{m:dN}{s:DI}{l:List Int}{p:List JH}{L:fA}{N:Nat}(h:StQ w B m s l p)(d:fT m L)(r:Inv0 L N)(q:xH L):J2 w s L:=by
 have e:=StC.of d r q h.ls h.gs;have f:s.nn=L.nn:=by rw[h.nn,e.nn]
 have i:s.gn=L.gn:=by rw[h.gn,e.gn]
 refine⟨?_,?_,?_⟩
 ·cases s
  unfold Mx;have a:=h.inn;have b:=h.left;have c:=h.known;simp only at a b c f i ⊢;rw[a,b,c,d.inn,d.left,d.known,f,i]
 ·have:=h.n.arr;rw[f]at this;refine ny.uT this<|bJ fun k o j _ => ?_;obtain⟨a,b,c⟩:=e.n k o;unfold VF VK;rw[b,c,a]
 have:=h.g.arr;rw[i]at this;refine ny.uT this<|bJ fun k o j _ => ?_;unfold Xa VL;rw[e.g k o]
theorem aeh(L:fA)(t A m x:Option Addr)(u B o y:Nat)(w:World)(l:LWf L)(hN1:ny w t L.nn 56 (flat 56 (VK L)))(hN2:ny w A L.nn 56 (flat 56 (VK L)))(hG1:ny w m L.gn 5 (flat 5 (VL L)))(hG2:ny w x L.gn 5 (flat 5 (VL L))) :
 Calls Tryz.prog 17 #[.agg (aA 20 (mY (Mx L t u m o))),.agg (aA 20 (mY (Mx L A B x y)))] w fun e w'=>e = .returned (.bool true)/\Below w.heap.size w w':=by
 have hbn:=l.bn;have hbg:=l.bg;refine Kent Tryz.func17 80 ?_;refine ay<|oL fun c w1 lY S s1 z1 => ?_;have V:=bB s1.old (Below.refl w.heap.size w);have su:=gH lY;have ug:=S.lt;refine oL fun d w2 ae s s2 z2 => ?_;have⟨z,b2⟩:=eO s2.old S V;have qK:=iI ae V.size;have KF:=bY ae S.lt;have yK:=s.lt;refine av aF<|aD<|Ws<|ay<|av (pt c)<|Lv (.agg (aA 6 (fun j => .bool (L.inn j)))) (fC z.aH 0 (fun j h=>by rw[G_]; exact zY _ h))<|av (pt d)<|Lv (.agg (aA 6 (fun j => .bool (L.inn j)))) (fC s.aH 0 (fun j h=>by rw[G_]; exact zY _ h))<|Lv aF (Fx.BI (n:=6) (ks:=List.replicate 6 none) (X:=fun j => .bool (L.inn j)) (Y:=fun j => .bool (L.inn j)) 12 true rfl rfl rfl (Fx.Gl (fun _ _=>rfl)) (En _) (En _) rfl (by kernel_rfl) (by kernel_rfl) (by kernel_rfl) (by kernel_rfl) (by kernel_rfl))<|av aF<|av (pf c 6)<|Lv (.agg (aA 6 (fun j => .bool (L.left j)))) (fC z.aH 6 (fun j h=>AZ (p:=j) _ h (by omega)))<|av (pf d 6)<|Lv (.agg (aA 6 (fun j => .bool (L.left j)))) (fC s.aH 6 (fun j h=>AZ (p:=j) _ h (by omega)))<|Lv aF (Fx.BI (n:=6) (ks:=List.replicate 6 none) (X:=fun j => .bool (L.left j)) (Y:=fun j => .bool (L.left j)) 12 true rfl rfl rfl (Fx.Gl (fun _ _=>rfl)) (En _) (En _) rfl (by kernel_rfl) (by kernel_rfl) (by kernel_rfl) (by kernel_rfl) (by kernel_rfl))<|av aF<|av aF<|av (pf c 12)<|Lv (.agg (aA 6 (rv .u64 L.known))) (fC z.aH 12 (fun j h=>iJ (p:=j) _ h (by omega)))<|av (pf d 12)<|Lv (.agg (aA 6 (rv .u64 L.known))) (fC s.aH 12 (fun j h=>iJ (p:=j) _ h (by omega)))<|Lv aF (Fx.BI (n:=6) (ks:=List.replicate 6 (some .u64)) (X:=rv .u64 L.known) (Y:=rv .u64 L.known) 12 true rfl rfl rfl (Fx.Gl (fun _ _=>rfl)) (Fx.J7 fun i Q=>aeg (l.k i Q)) (Fx.J7 fun i Q=>aeg (l.k i Q)) rfl (by kernel_rfl) (by kernel_rfl) (by kernel_rfl) (by kernel_rfl) (by kernel_rfl))<|av aF<|av aF<|av (pf c 18)<|Lv (.slice t (L.nn) (u)) (aL z.aH 18)<|av (au L.nn)<|av (pf d 18) ?_;refine Lv (.slice A (L.nn) (B)) (aL s.aH 18)<|av (au L.nn)<|Lv aF (jJ rfl)<|av aF<|av aF<|av (pf c 19)<|Lv (.slice m (L.gn) (o)) (aL z.aH 19)<|av (au L.gn)<|av (pf d 19)<|Lv (.slice x (L.gn) (y)) (aL s.aH 19)<|av (au L.gn)<|Lv aF (jJ rfl)<|av aF<|aD<|aK<|Wk<|sN<|Ws<|ay<|av (au 0)<|aD<|Wb<|Wo (fun f v => ∃ k:Nat,k<=L.nn/\f 2=(pt c)/\f 3=(pt d)/\f 5=au (k:Int)/\aR v c 20 (mY (Mx L t u m o)) 50/\aR v d 20 (mY (Mx L A B x y)) 50/\Below w.heap.size w v) (fun f _=>(L.nn-(intOf (f 5)).toNat)) ⟨0,by omega,(by rfl),(by rfl),Fx.ic,z,s,b2⟩ ?_;rintro f1 C ⟨k,hk,J,O,E,K,U,H⟩;refine Ws<|ay<|aX E<|Lv (pf c 18) (jA J 18)<|Lv (.slice t (L.nn) (u)) (aL K.aH 18)<|av (au L.nn) ?_;by_cases ac:(k:Int)<(L.nn:Int)
 ·refine Lv aG (gJ ac)<|aD<|aM<|Wk<|sN<|Ws<|Wb<|Ws ?_;refine uR<|Qv (pf c 18) (fun b a=>jA J 18)<|Qv (.slice t (L.nn) (u)) (fun b a=>aL (K.aH.dr a) 18)<|dO E ?_;obtain⟨W,oq1,eq1,m6⟩:=(hN1.up H rfl) (by omega);have agY:W<C.heap.size:=m6.lt (by omega);refine Qv (pf W (56*k+oq1)) (fun b a=>cO 56 (hx:=(rfl.trans (L_ (fun q=>Value.slice q (L.nn) (u)) eq1))))<|Qv (.agg (aA 56 (VK L k))) (fun b a=>fC (m6.dr a) (56*k) (fun R r=>Fx.iT (k:=k) (by omega) r))<|Qv (pf d 18) (fun b a=>jA O 18)<|Qv (.slice A (L.nn) (B)) (fun b a=>aL (U.aH.dr a) 18)<|dO E ?_;obtain⟨Z,oq2,Gv,m7⟩:=(hN2.up H rfl) (by omega);have apX:Z<C.heap.size:=m7.lt (by omega);refine Qv (pf Z (56*k+oq2)) (fun b a=>cO 56 (hx:=(rfl.trans (L_ (fun q=>Value.slice q (L.nn) (B)) Gv))))<|Qv (.agg (aA 56 (VK L k))) (fun b a=>fC (m7.dr a) (56*k) (fun R r=>Fx.iT (k:=k) (by omega) r))<|Qv aF (fun b a=>Fx.BI (n:=56) (ks:=((some .u64)::(some .u64)::List.replicate 54 (some .i64))) (X:=VK L k) (Y:=VK L k) 12 true rfl rfl rfl (Fx.Gl (fun _ _=>rfl)) (aas (l.n k (by omega))) (aas (l.n k (by omega))) rfl (by kernel_rfl) (by kernel_rfl) (by kernel_rfl) (by kernel_rfl) (by kernel_rfl))<|Qn ?_;rintro _ ⟨G,rfl⟩;obtain⟨BX,M⟩ : ∃ b,b=World.drewN C G:=⟨_,rfl⟩;rw[<- M];have s3:Stp C.heap.size C BX:=by rw[M]; exact Sb (je C G)
  have⟨m8,m9,b4⟩:=iy s3.old K U H;clear M;refine sN<|aK<|Wk<|bP<|sN<|Wl<|aX E<|Lv (au ((k:Int)+1)) fF<|av (au ((k:Int)+1))<|Ln<|iq ⟨k+1,by omega,J,O,Fx.ic,m8,m9,b4⟩ ?_;show(L.nn-(intOf (au ((k:Int)+1))).toNat)<_;simp only[E,intOf]; omega
 refine Lv aF (gK ac)<|aD<|aK<|Wx<|bW<|gP<|bX<|sN<|Ws<|ay<|av (au 0)<|aD<|Wb<|Wo (fun f v => ∃ k:Nat,k<=L.gn/\f 2=(pt c)/\f 3=(pt d)/\f 6=au (k:Int)/\aR v c 20 (mY (Mx L t u m o)) 50/\aR v d 20 (mY (Mx L A B x y)) 50/\Below w.heap.size w v) (fun f _=>(L.gn-(intOf (f 6)).toNat)) ⟨0,by omega,J,O,Fx.ic,K,U,H⟩ ?_;rintro f2 D ⟨k,hk,P,h5,F,T,m13,I⟩;refine Ws<|ay<|aX F<|Lv (pf c 19) (jA P 19)<|Lv (.slice m (L.gn) (o)) (aL T.aH 19)<|av (au L.gn) ?_;by_cases ad:(k:Int)<(L.gn:Int)
 ·refine Lv aG (gJ ad)<|aD<|aM<|Wk<|sN<|Ws<|Wb<|Ws ?_;refine uR<|Qv (pf c 19) (fun b a=>jA P 19)<|Qv (.slice m (L.gn) (o)) (fun b a=>aL (T.aH.dr a) 19)<|dO F ?_;obtain⟨aa,oq3,W9,m14⟩:=(hG1.up I rfl) (by omega);have apY:aa<D.heap.size:=m14.lt (by omega);refine Qv (pf aa (5*k+oq3)) (fun b a=>cO 5 (hx:=(rfl.trans (L_ (fun q=>Value.slice q (L.gn) (o)) W9))))<|Qv (.agg (aA 5 (VL L k))) (fun b a=>fC (m14.dr a) (5*k) (fun R r=>Fx.iT (k:=k) (by omega) r))<|Qv (pf d 19) (fun b a=>jA h5 19)<|Qv (.slice x (L.gn) (y)) (fun b a=>aL (m13.aH.dr a) 19)<|dO F ?_;obtain⟨ab,oq4,eq4,m15⟩:=(hG2.up I rfl) (by omega);have awz:ab<D.heap.size:=m15.lt (by omega);refine Qv (pf ab (5*k+oq4)) (fun b a=>cO 5 (hx:=(rfl.trans (L_ (fun q=>Value.slice q (L.gn) (y)) eq4))))<|Qv (.agg (aA 5 (VL L k))) (fun b a=>fC (m15.dr a) (5*k) (fun R r=>Fx.iT (k:=k) (by omega) r))<|Qv aF (fun b a=>Fx.BI (n:=5) (ks := [(some .i64),(some .u64),(some .u64),(some .i64),(some .u64)]) (X:=VL L k) (Y:=VL L k) 12 true rfl rfl rfl (Fx.Gl (fun _ _=>rfl)) (aat (l.g k (by omega))) (aat (l.g k (by omega))) rfl (by kernel_rfl) (by kernel_rfl) (by kernel_rfl) (by kernel_rfl) (by kernel_rfl))<|Qn ?_;rintro _ ⟨G,rfl⟩;obtain⟨wq2,N⟩ : ∃ b,b=World.drewN D G:=⟨_,rfl⟩;rw[<- N];have s4:Stp D.heap.size D wq2:=by rw[N]; exact Sb (je D G)
  have⟨m16,m17,b6⟩:=iy s4.old T m13 I;clear N;refine sN<|aK<|Wk<|bP<|sN<|Wl<|aX F<|Lv (au ((k:Int)+1)) fF<|av (au ((k:Int)+1))<|Ln<|iq ⟨k+1,by omega,P,h5,Fx.ic,m16,m17,b6⟩ ?_;show(L.gn-(intOf (au ((k:Int)+1))).toNat)<_;simp only[F,intOf]; omega
 refine Lv aF (gK ad)<|aD<|aK<|Wx<|bW<|gP<|bX<|sN<|ay<|av aG<|aD<|Wr<|aJ aG ?_;exact⟨rfl,I⟩
theorem Pk{w:World}{b c:DI}{L:fA}(h1:J2 w b L)(a:J2 w c L)(d:LWf L):Calls Tryz.prog 17 #[.agg (aA 20 (mY b)),.agg (aA 20 (mY c))] w fun e w'=>e = .returned (.bool true)/\Below w.heap.size w w':=by
 rw[h1.e,a.e];exact aeh L _ _ _ _ _ _ _ _ w d h1.n a.n h1.g a.g
namespace Rt
def MB(x y:Value):Nat->Value:=fun q=>if q=0 then x else y
theorem ahL(x y v:Value):dA (MB x y) 0 v=MB v y:=by funext q; unfold dA MB; split <;> rfl
theorem ahM(x y v:Value) : ∀ j,j<2->dA (MB x y) 1 v j=MB x v j:=fun j a=>by
 unfold dA MB
 rcases j with _|_|j
 ·rfl
 ·rfl
 ·omega
def Gy(a:Nat->Nat):Nat->Value:=fun i=>(pt (a i))
def Ir(w:World)(B n:Nat)(b:Nat->Nat)(a:Nat->kr):Prop := ∀ i,i<n->sM w B (b i) (a i)
theorem Ir.up{w w':World}{B n:Nat}{b:Nat->Nat}{a:Nat->kr}(h:Ir w B n b a)(c:Below w.heap.size w w'):Ir w' B n b a:=fun i d=>(h i d).up c
instance {w w':World} {B n:Nat} {c:Nat->Nat} {a:Nat->kr}:Rt.Tr w w' (Ir w B n c a) (Ir w' B n c a):=⟨fun b h=>h.up b⟩
theorem Ir.kL{w w':World}{B n:Nat}{c:Nat->Nat}{b:Nat->kr}{a:List TypeId}(h:Ir w B n c b)(e:iW a w w')(f:(KR.all fun T => !a.contains T)=true):Ir w' B n c b:=fun i d=>(h i d).kL e f
instance {w w':World} {B n:Nat} {d:Nat->Nat} {c:Nat->kr} {a:List TypeId}:Rt.Tc a w w' (Ir w B n d c) (Ir w' B n d c) (KR.all fun T => !a.contains T):=⟨fun b h e=>h.kL b (by simpa using e)⟩
theorem Ir.put{w:World}{B n o p:Nat}{b:Nat->Nat}{a:Nat->kr}{m:kr}(h:Ir w B n b a)(d:sM w B p m):Ir w B n (aI b o p) (aI a o m):=fun i c=>by
 unfold aI;by_cases e:i=o
 ·rw[d_ e,d_ e]; exact d
 ·rw[b_ e,b_ e]; exact h i c
theorem Ir.snoc{w:World}{B n p:Nat}{b:Nat->Nat}{a:Nat->kr}{m:kr}(h:Ir w B n b a)(c:sM w B p m):Ir w B (n+1) (aI b n p) (aI a n m):=fun i d=>by
 unfold aI;by_cases e:i=n
 ·rw[d_ e,d_ e]; exact c
 ·rw[b_ e,b_ e]; exact h i (by omega)
theorem aej{n p:Nat}{a:Nat->Nat}{z:Nat->Value} : ∀ j,j<(n+1)*1->iD (Gy a) (n*1) (bC z (0*1) 1 (fun _=>(pt p))) j=Gy (aI a n p) j:=by
 intro j b;unfold iD Gy aI;by_cases h:j<n*1
 ·rw[d_ h,b_ (by omega)]
 rw[b_ h,d_ (by omega)];unfold bC;rw[d_ (by omega)]
theorem VO{o p:Nat}{a:Nat->Nat}:dA (Gy a) o (pt p)=Gy (aI a o p):=by
 funext j; unfold dA Gy aI
 by_cases h:j=o
 ·rw[d_ h,d_ h]
 rw[b_ h,b_ h]
theorem aek{n:Nat}{e:Nat->EvM}{v:EvM}{z:Nat->Value} : ∀ j,j<(n+1)*14->iD (evX e) (n*14) (bC z (0*14) 14 (bM v)) j=evX (aI e n v) j:=fun j a =>
 (Fx.xP j a).trans (bJ (fun i _ q _=>by unfold Fx.rA aI; split <;> rfl) j a)
structure WM where
 n:Nat
 la:Option Addr
 lc:Nat
 pl:Nat->Nat
 ml:Nat->kr
 an:Nat
 aa:Option Addr
 ac:Nat
 ev:Nat->EvM
end Rt
structure ou(w:World)(B p:Nat)(M:WM)(T:Nat):Prop where
 c:aR w p 2 (MB (.slice M.la M.n M.lc) (.slice M.aa M.an M.ac)) 78
 l:Fx.Own w B 29 1 (.slice M.la M.n M.lc) M.n (Gy M.pl)
 a:Fx.Own w B 37 14 (.slice M.aa M.an M.ac) M.an (evX M.ev)
 g:Ir w B M.n M.pl M.ml
 inv : ∀ i,i<M.n->Inv (M.ml i).core T
 wf : ∀ k,k<M.an->gD (M.ev k)
 may : ∀ k,k<M.an->bR (M.ev k)=true
 sm : ∀ k,k<M.an->oI (M.ev k)
 cz:Cz M.n M.an M.ev fun o=>(M.ml o).s.known
 pB:B<=p
 n1:1<=M.n
 n6:M.n<=6
def ael:List Nat := [78,29,37]++KR
theorem ou.up{w w':World}{B p T:Nat}{M:WM}(h:ou w B p M T)(b:Below w.heap.size w w'):ou w' B p M T := { h with c:=h.c.cB (Sb b) (u_ h.c.lt),l:=h.l.up b,a:=h.a.up b,g:=h.g.up b }
instance {w w':World} {B p T:Nat} {M:WM}:Rt.Tr w w' (ou w B p M T) (ou w' B p M T):=⟨fun b h=>h.up b⟩
theorem ou.kL{w w':World}{B p T:Nat}{M:WM}{e:List TypeId}(h:ou w B p M T)(b:iW e w w')(j:(ael.all fun T => !e.contains T)=true):ou w' B p M T:=by
 have i : ∀ d∈ael,e.contains d=false:=fun d f=>by
  have:=List.all_eq_true.1 j d f
  simpa using this
 exact { h with c:=h.c.kL b (i _ (by decide)),l:=h.l.kL b (i _ (by decide)),a:=h.a.kL b (i _ (by decide)),g:=h.g.kL b (List.all_eq_true.2 fun T f=>List.all_eq_true.1 j T (List.mem_append_right _ f)) }
instance {w w':World} {B p T:Nat} {M:WM} {a:List TypeId}:Rt.Tc a w w' (ou w B p M T) (ou w' B p M T) (ael.all fun T => !a.contains T):=⟨fun b h e=>h.kL b (by simpa using e)⟩
theorem Y4{w:World}{B p k a:Nat}(d:aR w p 27 (kU (ku k a)) 56)(f:aR w a 1 (fun _ => .slice none 0 0) 156)(h1:B<=p)(b:B<=a):sM w B p (ku k a) where
 c:=d
 n:=wW _ _ _ _ _
 g:=wW _ _ _ _ _
 tc:=f
 t:=wW _ _ _ _ _
 r:=⟨fun _ _=>wW _ _ _ _ _,fun _ _ _ _ _ _ e=>by cases e⟩
 pB:=h1
 tB:=b
 bn:=K_ _
 bg:=K_ _
 bt:=K_ _
 br:=fun _ _=>K_ _
theorem Rt.Bu(k a:Nat):Inv (ku k a).core 0 where
 Cn:=rfl
 nn:=K_ _
 tid:=fun _ h=>M_ h (z_ _)
 rise:=fun _ _ _ h=>M_ h (z_ _)
 pos:=fun _ h=>M_ h (z_ _)
 top:=fun _ h=>M_ h (z_ _)
 up:=fun _ h=>M_ h (z_ _)
 dep:=fun _=>⟨0,K_ _,by show(-1:Int)<0; decide⟩
 gn:=A_ _
 rn:=fun _ _=>A_ _
 may:=fun _ h=>M_ h (z_ _)
 g47:=fun _ h=>M_ h (z_ _)
 kn:=fun _ _=>⟨N_ _,by show(0:Int)<_; decide⟩
 s:=⟨fun _ h=>M_ h (z_ _),fun _ h=>M_ h (z_ _)⟩
 b:=⟨fun _ _=>N_ _,fun _ h=>M_ h (z_ _),fun _ _ _ h=>M_ h (z_ _)⟩
set_option maxRecDepth 20000 in
theorem NK(n:Nat)(w:World)(V:1<=n)(W:n<=6) :
 Calls Tryz.prog 27 #[au (n:Int)] w fun e w' => ∃ p M,e = .returned (pt p)/\M.n=n/\M.an=0/\(∀ i,(M.ml i).core=(ku n 0).core)/\ou w' w.heap.size p M 0/\Below w.heap.size w w':=by
 refine Kent Tryz.func27 30 ?_;refine ay<|av (.pointer none)<|aD<|ay<|av (.agg (aA 2 (fun _ => .slice none 0 0)))<|oL fun b P lY X s1 z1 => ?_;have b1:=bB s1.old (Below.refl w.heap.size w);have su:=gH lY;have ug:=X.lt;refine av (pt b)<|aD<|Ws<|ay<|av (au 0)<|aD<|Wb ?_;have m2:aR P b 2 (MB (.slice none 0 0) (.slice none 0 0)) 78:=X.congr (fun j _=>by unfold MB; split <;> rfl)
 have m3:Fx.Own P w.heap.size 29 1 (.slice none 0 0) 0 (Gy (fun _=>0)):=wW _ _ _ _ _;have m4:Ir P w.heap.size 0 (fun _=>0) (fun _=>ku n 0):=fun _ h=>M_ h (z_ _);refine Wo (fun f G => ∃ k:Nat,∃ a:Option Addr,∃ u:Nat,∃ t:Nat->Nat,∃ r:Nat->kr,k<=n/\(∀ i,∃ z,r i=ku n z)/\f 0=au (n:Int)/\f 3=(pt b)/\f 4=au (k:Int)/\aR G b 2 (MB (.slice a k u) (.slice none 0 0)) 78/\Fx.Own G w.heap.size 29 1 (.slice a (k) (u)) k (Gy t)/\Ir G w.heap.size k t r/\Below w.heap.size w G) (fun f _=>(n-(intOf (f 4)).toNat)) ⟨0,none,0,(fun _=>0),(fun _=>ku n 0),by omega,(fun _=>⟨0,rfl⟩),Fx.ic,(by rfl),Fx.ic,m2,m3,m4,b1⟩ ?_;rintro f1 w2 ⟨k,a,u,t,r,hk,F,J,E,K,m5,m6,m7,A⟩;refine Ws<|ay<|aX K<|aX J ?_;by_cases S:(k:Int)<(n:Int)
 ·refine Lv aG (gJ S)<|aD<|aM<|Wk<|sN<|Ws<|Wb<|ay<|aX J<|kV (agq n _ V W) ?_;rintro e9 w3 ⟨d,O,T,hp3,_,hb3,hc3,ht3,apZ⟩;refine⟨.tuple #[(pt d),au 0],T,?_⟩;clear T;have⟨N,m9,m10,Q⟩:=jP hb3 m5 m6 m7 A;have hL1:sM w3 w.heap.size d (ku n O):=Y4 hc3 ht3 (m_ A.size hp3) (m_ A.size apZ);refine av (.tuple #[(pt d),au 0])<|av (pt d)<|av (au 0)<|av (pt d)<|av (au 0)<|aD<|Wl<|aX E<|aX E<|av (pt b)<|av (pt b)<|Lv (.slice a (k) (u)) (aL N.aH 0)<|av (pt d)<|xO (vs := [(0,(pt d))]) (s:=1) (zc:=fun _ => .pointer none) (y:=bC (fun j => .pointer none) (0*1) 1 (fun _=>(pt d))) (by rfl) rfl rfl Tryz.underlying75 (by kernel_rfl) (by rfl) (by rfl) (by kernel_rfl) (by rw[aZ (off:=0*1) (s:=1) (y:=fun _=>(pt d)) rfl (cells_one (by rfl)) (by rfl)]; rfl) rfl fun g2 w4 I Y s3 z2 => ?_;have⟨m12,L,m14,m15,H⟩:=oQ s3.old N m9 m10 hL1 Q;have qK:=iI I Q.size;have FI:=bY I N.lt;have Ai:(.slice a (k) (u):Value).ownBlock≠some g2:=by rw[I]; exact m9.kg (A_ _)
  have yK:=Y.lt;refine zf (B:=w.heap.size) (s:=1) (bytes:=8) (k:=k) (m:=1) (v := .slice a (k) (u)) (x:=Gy t) (by rfl) rfl rfl rfl Tryz.underlying75 (by kernel_rfl) (by kernel_rfl) rfl rfl L Y.aH (yO (fun _=>rfl)) (by omega) (by omega) (by omega) H.size fun D C w5 ho1 U wu hlt1 => ?_;have gY:=zh U L;have⟨Z,m18,m19⟩:=AB gY m12 m14 m15;have m16:Fx.Own w5 w.heap.size 29 1 (bL D (k+1) C) (k+1) (Gy (aI t k d)):=(ho1.congr (fun j hj=>aej j hj));have R:Below w.heap.size w w5:=ze H U H.size (fun q hq=>(L.ge hq).1);refine av (pt b)<|av (pt b)<|jd Z 0 (bL D (k+1) C) fun w6 m20 s4 z3 => ?_;have m21:aR w6 b 2 (MB (bL D (k+1) C) (.slice none 0 0)) 78:=m20.to (ahL _ _ _);have jQ:=gQ s4 Z.ty;have⟨m22,m23,m24⟩:=AB jQ m18 m19 m16;have b6:=s4.below R R.size (by omega);refine Ln<|bP<|sN<|Wl<|aX K<|Lv (au ((k:Int)+1)) fF<|av (au ((k:Int)+1))<|Ln ?_;have mV:Ir w6 w.heap.size (k+1) (aI t k d) (aI r k (ku n O)):=m22.snoc m23
  skip
  refine iq ⟨k+1,(some ⟨D,0,none⟩),C,(aI t k d),(aI r k (ku n O)),by omega,(fun i=>by unfold aI; split <;> first|exact⟨_,rfl⟩|exact F i),(J.trans Fx.ic),E,Fx.ic,m21,m24,mV,b6⟩ ?_
  show(n-(intOf (au ((k:Int)+1))).toNat)<_;simp only[K,intOf]; omega
 refine Lv aF (gK S)<|aD<|aK<|Wx<|bW<|gP<|bX<|sN<|ay<|aX E<|av (pt b)<|aD<|Wr<|aJ (pt b) ?_;obtain rfl:k=n:=by omega
 exact⟨b,⟨k,a,u,t,r,0,none,0,fun _=>⟨0,0,fun _=>0,0,0,0,0,0,0⟩⟩,rfl,rfl,rfl,(fun i=>by obtain⟨z,e⟩:=F i; show(r i).core=_; rw[e]; rfl),{ c:=m5,l:=m6,a:=wW _ _ _ _ _,g:=m7,inv:=fun i _=>by obtain⟨z,e⟩:=F i; show Inv (r i).core 0; rw[e]; exact Bu k z,wf:=fun _ h=>M_ h (z_ _),may:=fun _ h=>M_ h (z_ _),sm:=fun _ h=>M_ h (z_ _),cz:=Cz.zero k (fun o _=>by obtain⟨z,e⟩:=F o; show(r o).s.known=_; rw[e]; rfl),pB:=su,n1:=V,n6:=W },A⟩
end Go.Proofs.YtcbedgfikejkoaaGreatDoor
namespace Go.Proofs.YtcbedgfikejkoaaGreatDoor
open Go.RowKit Go Rt
namespace Rt
section
variable {L:fA} {N:Nat} {v:EvM}
theorem NM(b:Inv0 L N)(h:Ah L):Ah (dh L v):=by
 unfold dh;by_cases c:bG L v=0
 ·rw[d_ c];have a:=(DL (jh c)).1;have d:dZ L v=0:=by
   unfold bG at c;rw[b_ (by rw[a]; decide)]at c;split at c; · cases c
   split at c; · cases c
   split at c; · cases c
   exact c
  have:=H8 b h a d;exact⟨this.us,this.gb⟩
 rw[b_ c]; exact h
def eP(L:fA)(x i:Int):Int:=if L.node x<0 then 0 else eF (L.R (L.node x).toNat) i
theorem NP(i:Int):eF FQ i=0:=by
 unfold eF;by_cases c:(gI i&&may FQ)=true
 ·rw[d_ c];rw[S_]at c;obtain⟨a,d,e,b⟩:=og c.1;have:=vg (kM c.2) a d;rw[b,this]; rfl
 rw[b_ c]
theorem fT.local{m:dN}(h:fT m L)(a:Inv0 L N)(x i:Int):eF (bA m x) i=eP L x i:=by
 unfold bA eP;by_cases c:L.node x<0
 ·rw[b_ (by rw[(h.LM a x).2 c]; decide),d_ c]; exact NP i
 rw[d_ ((h.node a x).2 (by omega)),b_ c,h.rk a (by omega)]
structure Iu(m m':dN):Prop where
 et:m'.tp=m.tp
 em:m'.mb=m.mb
 ep:m'.pb=m.pb
 er:m'.rb=m.rb
 eg:m'.gb=m.gb
 ea:m'.ab=m.ab
theorem Iu.refl(m:dN):Iu m m:=⟨rfl,rfl,rfl,rfl,rfl,rfl⟩
theorem Iu.trans{a b c:dN}(h:Iu a b)(k:Iu b c):Iu a c:=⟨k.et.trans h.et,k.em.trans h.em,k.ep.trans h.ep,k.er.trans h.er,k.eg.trans h.eg,k.ea.trans h.ea⟩
end
end Rt
structure xA(w:World)(B lp:Nat)(m:dN)(L:fA)(N:Nat):Prop where
 q:lN w B lp m
 s:fT m L
 i:Inv0 L N
 u:Ah L
 g:xH L
section
variable {w w':World} {B lp:Nat} {m:dN} {L:fA} {N:Nat} {v:EvM}
theorem xA.up(h:xA w B lp m L N)(a:Below w.heap.size w w'):xA w' B lp m L N := { h with q:=h.q.up a }
instance:Rt.Tr w w' (xA w B lp m L N) (xA w' B lp m L N):=⟨fun b h=>h.up b⟩
theorem xA.kL{a:List TypeId}(h:xA w B lp m L N)(b:Fx.iW a w w')(c:(a.contains 114 || a.contains 165)=false):xA w' B lp m L N := { h with q:=h.q.kL b c }
instance {a:List TypeId}:Rt.Tc a w w' (xA w B lp m L N) (xA w' B lp m L N) (!(a.contains 114 || a.contains 165)):=⟨fun b h e=>h.kL b (by simpa using e)⟩
theorem xA.weak{a:Nat}(h:xA w B lp m L N)(b:a<=B):xA w a lp m L N := { h with q:=h.q.weak b }
theorem xA.mono{N':Nat}(h:xA w B lp m L N)(a:N<=N'):xA w B lp m L N' := { h with i:=h.i.mono a }
theorem xA.wf(h:xA w B lp m L N)(a:N<=900000):LWf L:=LWf.of h.i h.u h.g a
theorem lN.JI(h:lN w B lp m)(a:Fx.jV (UL m lp w.heap.size) w w')(c:B<=w.heap.size):Below B w w':=⟨a.os,a.tape,a.output,a.size,fun k d=>a.block k (by omega) fun b=>by
 rcases b with b|b
 ·have:=(h.ltS b).1; omega
 ·omega⟩
theorem lN.typed(h:lN w B lp m)(d:Fx.jV (UL m lp w.heap.size) w w'):Fx.Aq [114] w w':=⟨d.os,d.tape,d.output,d.size,fun k T b e=>d.block k b.ltw fun f=>by
 rcases f with (rfl|rfl|rfl|rfl|rfl|rfl)|f
 ·have:=Fx.Ty.only h.c.ty b;rw[this]at e; simp at e
 ·exact h.t.map.rZ b
 ·exact h.p.rZ b
 ·exact h.r.rZ b
 ·exact h.g.rZ b
 ·exact h.a.rZ b
 ·have:=b.ltw; omega⟩
theorem ahN{B:Nat}{a b c:World}(h:Below a.heap.size a b)(e:Below B b c)(d:a.heap.size<=B):Below a.heap.size a c:=h.trans (e.mono d)
theorem yU{P:Program}{g:Nat}{a b:Array Value}{w:World}{R:Ending->World->Prop}(h:Calls P g b w R)(e:a=b):Calls P g a w R:=e ▸ h
theorem Pm{x:Value}{y:Nat->Value}(hy : ∀ j,j<14->y j=bM v j):(#[x,.agg (Fx.aA 14 y)]:Array Value) = #[x,.agg (Fx.aA 14 (bM v))]:=L_ (fun z=>(#[x,.agg z]:Array Value)) (Fx.dW hy)
theorem aau(k:Nat)(d:1<=k/\k<=6)(w:World):Calls Tryz.prog 29 #[au (k:Int)] w fun e w' => ∃ lp m,e = .returned (.tuple #[(pt lp),au 0])/\xA w' w.heap.size lp m (ku k 0).core 0/\Below w.heap.size w w' :=
 (ahE k d w).mono fun e w' ⟨lp,m,c,⟨n,i,j,l,h,g,a⟩,f,b⟩=>⟨lp,m,c,⟨f,by rw[a]; exact fT.new ..,(Bu k 0).toInv0,(Bu k 0).s,LQ k 0⟩,b⟩
theorem Pn(h:xA w B lp m L N)(b:gD v)(c:1<=B)(d:Fx.iM w 0 0 8 Bt){y:Nat->Value}(hy : ∀ j,j<14->y j=bM v j) :
 Calls Tryz.prog 20 #[(pt lp),.agg (Fx.aA 14 y)] w fun e w'=>e = .returned (au (bG L v))/\xA w' B lp (jw m v) (dh L v) (N+1)/\Fx.jV (UL m lp w.heap.size) w w':=by
 have a:=h.s.apply h.q.t.inv h.i v;refine yU ((YM m lp B w h.q v b (h.s.sound h.q.t.inv h.i) c d).mono fun e w' ⟨k,l,f⟩=>⟨by rw[k,a.1],⟨l,a.2,Ag h.i,NM h.i h.u,FV h.g b⟩,f⟩) (Pm hy)
theorem Y5(h:xA w B lp m L N)(g:gD v)(a:1<=B)(b:Fx.iM w 0 0 8 Bt){y:Nat->Value}(hy : ∀ j,j<14->y j=bM v j) :
 Calls Tryz.prog 19 #[(pt lp),.agg (Fx.aA 14 y)] w fun e w'=>e = .returned (au (bG L v))/\Below w.heap.size w w':=by
 have f:=h.s.apply h.q.t.inv h.i v;refine yU ((apC m lp B w h.q v g (h.s.sound h.q.t.inv h.i) a b).mono fun e w' ⟨d,c⟩=>⟨by rw[d,f.1],c⟩) (Pm hy)
theorem Po(h:xA w B lp m L N):Calls Tryz.prog 21 #[(pt lp)] w fun e w'=>e = .returned (.agg (Fx.aA 6 (Fx.rv .u64 L.known)))/\Below w.heap.size w w':=by
 rw[<- h.s.known]; exact YN m lp B w h.q
theorem Y6(h:xA w B lp m L N)(i x:Int)(hi : -9223372036854775808<=i/\i<=9223372036854775807):Calls Tryz.prog 31 #[(pt lp),au i,aC x] w fun e w'=>e = .returned (au (eP L x i))/\Below w.heap.size w w':=by
 rw[<- h.s.local h.i]; exact YO m lp B w h.q i x hi
def lsP(L:fA)(x:Int):Nat->Value:=Fx.rv .u64 fun q=>aU L.t L.tn q x
theorem aem(h:xA w B lp m L N)(x:Int):Calls Tryz.prog 30 #[(pt lp),aC x] w fun e w' => ∃ a c,e = .returned (.slice a (dJ L.t L.tn x) c)/\Fx.Own w' w.heap.size 23 1 (.slice a (dJ L.t L.tn x) c) (dJ L.t L.tn x) (lsP L x)/\Below w.heap.size w w':=by
 obtain⟨d,l⟩:=h.s.T.path h.q.t.inv h.i x;refine(adT m lp B w h.q x).mono fun e w' ⟨a,c,g,b,f⟩=>⟨a,c,by rw[g,d],?_,f⟩;unfold WX at b;rw[d]at b;exact b.congr fun j k=>by
  rw[Nat.mul_one]at k;show Value.int .u64 ((m.T.path x).getD j 0)=aC (aU L.t L.tn j x);rw[l j (by omega)]
structure MC(w:World)(B:Nat)(s:DI)(L:fA):Prop where
 e:s=Mx L s.na s.nc s.ga s.gc
 n:Fx.Own w B 84 56 (.slice s.na L.nn s.nc) L.nn (Fx.flat 56 (VK L))
 g:Fx.Own w B 106 5 (.slice s.ga L.gn s.gc) L.gn (Fx.flat 5 (VL L))
theorem MC.r{s:DI}(h:MC w B s L):J2 w s L:=⟨h.e,h.n.arr,h.g.arr⟩
theorem MC.up{s:DI}(h:MC w B s L)(a:Below w.heap.size w w'):MC w' B s L:=⟨h.e,h.n.up a,h.g.up a⟩
instance {s:DI}:Rt.Tr w w' (MC w B s L) (MC w' B s L):=⟨fun b h=>h.up b⟩
theorem MC.kL{s:DI}{a:List TypeId}(h:MC w B s L)(c:Fx.iW a w w')(b:(a.contains 84 || a.contains 106)=false):MC w' B s L:=by
 rw[Bool.or_eq_false_iff]at b;exact⟨h.e,h.n.kL c b.1,h.g.kL c b.2⟩
instance {s:DI} {a:List TypeId}:Rt.Tc a w w' (MC w B s L) (MC w' B s L) (!(a.contains 84 || a.contains 106)):=⟨fun b h e=>h.kL b (by simpa using e)⟩
theorem MC.I9{s:DI}{a:List TypeId}(h:MC w B s L)(c:Fx.Aq a w w')(b:(a.contains 84 || a.contains 106)=false):MC w' B s L:=by
 rw[Bool.or_eq_false_iff]at b;exact⟨h.e,h.n.I9 c b.1,h.g.I9 c b.2⟩
theorem Pp(h:xA w B lp m L N)(z:N<=900000):Calls Tryz.prog 18 #[(pt lp)] w fun e w' => ∃ s,e = .returned (.agg (Fx.aA 20 (mY s)))/\MC w' w.heap.size s L/\Below w.heap.size w w':=by
 refine(Y1 m lp B w h.q (by rw[h.s.gn]; have:=h.i.gn; omega)).mono fun e w' ⟨s,l,y,x,a,v⟩=>⟨s,x,?_,v⟩;have b:=StC.of h.s h.i h.g a.ls a.gs;have o:s.nn=L.nn:=by rw[a.nn,b.nn]
 have p:s.gn=L.gn:=by rw[a.gn,b.gn]
 have f:=a.n;have d:=a.g;rw[o]at f;rw[p]at d;refine⟨(J2.of a h.s h.i h.g).e,f.congr (Fx.bJ fun k c j _ => ?_),d.congr (Fx.bJ fun k c j _ => ?_)⟩
 ·obtain⟨r,t,u⟩:=b.n k c;unfold VF VK;rw[t,u,r]
 unfold Xa VL;rw[b.g k c]
end
end Go.Proofs.YtcbedgfikejkoaaGreatDoor
namespace Go.Proofs.YtcbedgfikejkoaaGreatDoor
open Go.RowKit Rt
open Fx (bf dz gu dX fZ Lv sN Ln Ws Qv Wl Rp Wc Wr Sb Wk rV sR Rs Rd Wb qB Qn xO zf gQ zh tX uM vM CY zO rv aA aR bC ev Stp aP dA aT aZ jV iO bF cells_one iW bE wX jH bP)
namespace Rt
def J3:Int:=1099511627777
def ahO(n:Int)(i:Nat):Int:=if i=0 then n else 0
def vA:EvM:=⟨1,1,fun _=>0,1,0,0,10,0,0⟩
def vC:EvM:=⟨1,2,ahO 1,5,J3,2,4,0,0⟩
def vD:EvM:=⟨2,1,ahO 2,3,J3,0,4,1,0⟩
theorem VP{m:dN}(b:m.T.ok)(v:EvM):(jw m v).T.ok:=by
 unfold jw;by_cases c:bZ m v=0
 ·rw[d_ c];have f:=ql c;have a:=(qm c).2.1;have g:=oh f;show(iR m v).T.ok;unfold fJ at a;unfold iR;by_cases d:v.kind=1
  ·rw[d_ d]at a ⊢;have e:m.T.err (nP v) v.node=0:=by
    unfold jc at a;split at a
    ·cases a
    ·exact a
   exact BA.put b e (by unfold nP; omega)
  rw[b_ d]
  repeat' split
  all_goals exact b
 rw[b_ c]; exact b
structure Eo(m:dN)(L:fA)(N:Nat):Prop where
 s:fT m L
 t:m.T.ok
 i:Inv0 L N
theorem Eo.new(k:Nat):Eo (yB k 0 0 0 0 0 0) (ku k 0).core 0:=⟨fT.new ..,BA.zero _ _,(Bu k 0).toInv0⟩
theorem Eo.apply{m:dN}{L:fA}{N:Nat}(h:Eo m L N)(v:EvM):Eo (jw m v) (dh L v) (N+1):=⟨(h.s.apply h.t h.i v).2,VP h.t v,Ag h.i⟩
theorem Eo.err{m:dN}{L:fA}{N:Nat}(h:Eo m L N)(v:EvM){c:Int}(e:bZ m v=c):bG L v=c:=(h.s.apply h.t h.i v).1.symm.trans e
theorem Eo.loc{m:dN}{L:fA}{N:Nat}(h:Eo m L N)(x i:Int){c:Int}(e:eF (bA m x) i=c):eP L x i=c:=(h.s.local h.i x i).symm.trans e
noncomputable def wq0:dN:=yB 2 0 0 0 0 0 0
noncomputable def BX:dN:=jw wq0 vA
noncomputable def wq2:dN:=jw BX vC
noncomputable def WY:dN:=jw wq2 vD
theorem tw0:Eo wq0 (ku 2 0).core 0 := .new 2
end Rt
namespace Rt
structure DW where
 who:Nat
 meet:Bool
 other:Nat
 kind:Nat
 node:Nat
 dst:Nat
 aQ:Nat
 req:Nat
 of:Nat
structure FX(x:DW):Prop where
 who:x.who<=255
 other:x.other<=255
 kind:x.kind<=255
 node:x.node<=255
 dst:x.dst<=255
 aQ:x.aQ<=65535
 req:x.req<=255
 of:x.of<=255
def FY(x:DW):Nat->Value:=fun p=>if p=0 then .int .u8 (x.who:Int)else if p=1 then .bool x.meet else if p=2 then .int .u8 (x.other:Int)else if p=3 then .int .u8 (x.kind:Int)else if p=4 then .int .u8 (x.node:Int)else if p=5 then .int .u8 (x.dst:Int)else if p=6 then .int .u16 (x.aQ:Int)else if p=7 then .int .u8 (x.req:Int)else .int .u8 (x.of:Int)
theorem Gz{k n r:Nat}(e:r=k % n):Int.tmod (k:Int) (n:Int)=(r:Int):=by
 rw[Int.tmod_eq_emod_of_nonneg (by omega),e];exact(Int.natCast_emod k n).symm
theorem Ep(V:EvM)(x:Int) : ∀ j,j<14->dA (bM V) 9 (aC x) j=bM { V with node:=x } j:=fun j a=>by
 rcases j with _|_|_|_|_|_|_|_|_|_|_|_|_|_|j <;> first|rfl|omega
theorem VQ(V:EvM)(x:Int) : ∀ j,j<14->dA (bM V) 10 (au x) j=bM ⟨V.o,V.seq,V.deps,V.kind,V.node,x,V.aQ,V.req,V.of⟩ j:=fun j a=>by
 rcases j with _|_|_|_|_|_|_|_|_|_|_|_|_|_|j <;> first|rfl|omega
theorem FZ(V:EvM)(x:Int) : ∀ j,j<14->dA (bM V) 11 (au x) j=bM { V with aQ:=x } j:=fun j a=>by
 rcases j with _|_|_|_|_|_|_|_|_|_|_|_|_|_|j <;> first|rfl|omega
theorem VR(V:EvM)(x:Int) : ∀ j,j<14->dA (bM V) 12 (aC x) j=bM { V with req:=x } j:=fun j a=>by
 rcases j with _|_|_|_|_|_|_|_|_|_|_|_|_|_|j <;> first|rfl|omega
theorem ahP(V:EvM)(x:Int) : ∀ j,j<14->dA (bM V) 13 (aC x) j=bM { V with of:=x } j:=fun j a=>by
 rcases j with _|_|_|_|_|_|_|_|_|_|_|_|_|_|j <;> first|rfl|omega
end Rt
set_option maxRecDepth 20000 in
set_option maxHeartbeats 2000000 in
theorem Y7(M:WM)(B p T:Nat)(x:DW)(w:World)(Z:ou w B p M T)(hx:FX x) :
 Calls Tryz.prog 57 #[(pt p),.agg (aA 9 (FY x))] w fun e w' => ∃ V,gD V/\oI V/\(V.o=((x.who % M.n:Nat):Int)+1/\V.seq=(M.ml (x.who % M.n)).s.known (x.who % M.n)+1/\V.deps=(M.ml (x.who % M.n)).s.known)/\e = .returned (.agg (aA 14 (bM V)))/\Below w.heap.size w w':=by
 have hWc:=Z.c;have hWl:=Z.l;have hWa:=Z.a;have hWg:=Z.g;have hn1:=Z.n1;have hn6:=Z.n6;have hpB:=Z.pB;have XY:p<w.heap.size:=hWc.lt;have hxw:=hx.who;have hxo:=hx.other;have hxk:=hx.kind;have hxn:=hx.node;have hxt:=hx.dst;have hxa:=hx.aQ;have hxr:=hx.req;have hxf:=hx.of;refine Kent Tryz.func57 143 ?_;refine ay<|oL fun G w1 lY m1 s1 z1 => ?_;have⟨m2,m3,m4,m5,b1⟩:=oQ s1.old hWc hWl hWa hWg (Below.refl w.heap.size w);have su:=gH lY;have mJ:=bY lY hWc.lt;have ug:=m1.lt;refine rD 14 (fun h=>if h<1 then au 0 else if h<8 then aC 0 else if h<9 then .int .u8 (0)else if h<10 then aC 0 else if h<12 then au 0 else aC 0) fun U w2 zo m6 s2 z2 => ?_;have⟨m7,m8,m9,m10,m11,b2⟩:=qD s2.old m2 m3 m4 m5 m1 b1;have qK:=iI zo b1.size;have KU:=bY zo m2.lt;have Lj:(.slice M.aa (M.an) (M.ac):Value).ownBlock≠some U:=by rw[zo]; exact m4.kg (A_ _)
 have Cv:=bY zo m1.lt;have yK:=m6.lt;refine aD<|Ws ?_;obtain⟨o,eo⟩ : ∃ r,r=x.who % M.n:=⟨_,rfl⟩;have ho:o<M.n:=by rw[eo]; exact J_ _ (by omega)
 refine uR<|aW (pt G)<|Qv (.int .u8 (x.who:Int)) (fun E D=>aL (m11.aH.dr D) 0)<|Qv (au x.who) (fun E D=>dz rfl rfl (by kernel_rfl) Tryz.underlying3 (iO (by omega) rfl))<|aW (pt p)<|aW (pt p)<|aW (pt p)<|Qv (.slice M.la (M.n) (M.lc)) (fun E D=>aL (m7.aH.dr D) 0)<|aW (au M.n)<|Qv (au o) (fun E D=>Fx.xK rfl rfl rfl (by omega) (Gz eo))<|aW (au o)<|Qn ?_;rintro _ ⟨qd,rfl⟩;obtain⟨BX,pF⟩ : ∃ E,E=World.drewN w2 qd:=⟨_,rfl⟩;rw[<- pF];have s3:Stp w2.heap.size w2 BX:=by rw[pF]; exact Sb (je w2 qd)
 have⟨m12,m13,m14,m15,m16,m17,b3⟩:=jK s3.old m7 m8 m9 m10 m11 m6 b2;clear pF;refine sN<|ay<|av (pt p)<|av (pt p)<|av (pt p)<|Lv (.slice M.la (M.n) (M.lc)) (aL m12.aH 0)<|av (au o) ?_;obtain⟨Gg,eq1⟩:=m13.addr (by omega);have m18:Fx.Own BX B 29 1 (bL Gg M.n M.lc) M.n (Gy M.pl):=m13.fB (L_ (fun q=>Value.slice q M.n M.lc) eq1);refine Lv (pf Gg o) (cO 1 (hx:=(rfl.trans (L_ (fun q=>Value.slice q (M.n) (M.lc)) eq1))))<|Lv (pt (M.pl o)) (aL m18.aH o)<|av (pt (M.pl o))<|aD<|Ws ?_;obtain⟨H,ahQ⟩ : ∃ r,r=x.kind % 7:=⟨_,rfl⟩;have awE:H<7:=by rw[ahQ]; exact J_ _ (by omega)
 have Y8:=m15 o (by omega);have F3:=Y8.c;have ahR:=Y8.n;have hkn:=(Z.inv o (by omega)).kn;have hko:=hkn o (by omega);have hko:0<=(M.ml o).s.known o/\(M.ml o).s.known o<1099511627776:=hko;have hU : ∀ k,k<(M.ml o).s.nn->iP ((M.ml o).id k):=fun k hk=>by have Y:=(Z.inv o (by omega)).pos k hk; have I:=(Z.inv o (by omega)).top k hk; exact⟨by show(0:Int)<=(M.ml o).core.id k; omega,by show(M.ml o).core.id k<=_; omega⟩
 have hbn:=(Z.g o (by omega)).bn;refine qB (T:=37) (T':=37) (a := .tmp 7) (v := .tmp 44) (m:=14) (z:=fun h=>if h<1 then au 0 else if h<8 then aC 0 else if h<9 then .int .u8 (0)else if h<10 then aC 0 else if h<12 then au 0 else aC 0) (y:=bC (bC (bC (bC (fun h=>if h<1 then au 0 else if h<8 then aC 0 else if h<9 then .int .u8 (0)else if h<10 then aC 0 else if h<12 then au 0 else aC 0) 0 1 (fun _=>au ((o:Int)+1))) 1 1 (fun _=>aC ((M.ml o).s.known o+1))) 2 6 (rv .u64 ((M.ml o).s.known))) 8 1 (fun _ => .int .u8 ((H:Int)+1))) (u := .agg (aA 14 (bC (bC (bC (bC (fun h=>if h<1 then au 0 else if h<8 then aC 0 else if h<9 then .int .u8 (0)else if h<10 then aC 0 else if h<12 then au 0 else aC 0) 0 1 (fun _=>au ((o:Int)+1))) 1 1 (fun _=>aC ((M.ml o).s.known o+1))) 2 6 (rv .u64 ((M.ml o).s.known))) 8 1 (fun _ => .int .u8 ((H:Int)+1))))) 20 21 (List.replicate 22 (0,2,[],[])) #[au (o:Int),au ((o:Int)+1),(pt (M.pl o)),au (o:Int),(pt (M.pl o)),(pt (M.pl o)),(pf (M.pl o) 12),(pf (M.pl o) (o+12)),aC ((M.ml o).s.known o),aC ((M.ml o).s.known o+1),(pt (M.pl o)),(pt (M.pl o)),(pt (M.pl o)),(pf (M.pl o) 12),.agg (aA 6 (rv .u64 ((M.ml o).s.known))),(pf G 3),.int .u8 (x.kind:Int),.int .u8 (H:Int),.int .u8 ((H:Int)+1),.agg (aA 14 (bC (bC (bC (bC (fun h=>if h<1 then au 0 else if h<8 then aC 0 else if h<9 then .int .u8 (0)else if h<10 then aC 0 else if h<12 then au 0 else aC 0) 0 1 (fun _=>au ((o:Int)+1))) 1 1 (fun _=>aC ((M.ml o).s.known o+1))) 2 6 (rv .u64 ((M.ml o).s.known))) 8 1 (fun _ => .int .u8 ((H:Int)+1)))),undef,undef] (by kernel_rfl) (by kernel_rfl) (by kernel_rfl) (by kernel_rfl) (by kernel_rfl) (by kernel_rfl) rfl (by kernel_rfl) rfl rfl (by kernel_rfl) (fun A=>(show ev _ (.tmp 7)=(pt A)from by kernel_rfl)) (fun A=>(show ev _ (.tmp 44) = .agg (aA 14 (bC (bC (bC (bC (fun h=>if h<1 then au 0 else if h<8 then aC 0 else if h<9 then .int .u8 (0)else if h<10 then aC 0 else if h<12 then au 0 else aC 0) 0 1 (fun _=>au ((o:Int)+1))) 1 1 (fun _=>aC ((M.ml o).s.known o+1))) 2 6 (rv .u64 ((M.ml o).s.known))) 8 1 (fun _ => .int .u8 ((H:Int)+1))))from by kernel_rfl)) (bF _ _) (bE (bE (bE (bE (fun jq _=>by show((fun h=>if h<1 then au 0 else if h<8 then aC 0 else if h<9 then .int .u8 (0)else if h<10 then aC 0 else if h<12 then au 0 else aC 0:Nat->Value) jq).oneCell'=true; simp only[]; repeat (first|rfl|split)) (fun _ _=>rfl)) (fun _ _=>rfl)) (fun _ _=>rfl)) (fun _ _=>rfl)) (by kernel_rfl) (fun A => ?_) ?_
 ·refine⟨?_,?_,?_,?_,?_,?_,?_,?_,?_,?_,?_,?_,?_,?_,?_,?_,?_,?_,?_,?_,?_,?_,trivial⟩
  ·exact .inr (.inr lV)
  ·exact .inr (.inr (oC (au ((o:Int)+1)) fun E D=>Fx.GD rfl (show ev _ (.tmp 25)=au (o:Int)from by kernel_rfl) (show ev _ (.const (au 1))=au 1 from by kernel_rfl) Fx.io))
  ·exact .inr (.inr lV)
  ·exact .inr (.inr lV)
  ·exact .inr (.inr lV)
  ·exact .inr (.inr lV)
  ·exact .inr (.inr lV)
  ·exact .inr (.inr (oC (pf (M.pl o) (o+12)) fun E D=>gu rfl (show ev _ (.tmp 31)=(pf (M.pl o) 12)from by kernel_rfl) (show ev _ (.tmp 28)=au (o:Int)from by kernel_rfl) Tryz.underlying35 (s:=1) (by kernel_rfl) (by omega) (by omega) (by omega)))
  ·exact .inr (.inr (oC (aC ((M.ml o).s.known o)) fun E D=>bf (x:=kU (M.ml o)) rfl (show ev _ (.tmp 32)=(pf (M.pl o) (o+12))from by kernel_rfl) (by kernel_rfl) (F3.aH.below D (by have:=F3.lt; omega)) (i:=o+12) (by omega) (by omega) (jr _ (by omega) (iJ _ (by omega) (by omega)))))
  ·exact .inr (.inr (oC (aC ((M.ml o).s.known o+1)) fun E D=>Fx.GD rfl (show ev _ (.tmp 33)=aC ((M.ml o).s.known o)from by kernel_rfl) (show ev _ (.const (aC 1))=aC 1 from by kernel_rfl) (jH (by omega) (by omega))))
  ·exact .inr (.inr lV)
  ·exact .inr (.inr lV)
  ·exact .inr (.inr lV)
  ·exact .inr (.inr lV)
  ·exact .inr (.inr (oC (.agg (aA 6 (rv .u64 ((M.ml o).s.known)))) fun E D=>dX (x:=kU (M.ml o)) (y:=rv .u64 ((M.ml o).s.known)) rfl (show ev _ (.tmp 38)=(pf (M.pl o) 12)from by kernel_rfl) (by kernel_rfl) (by kernel_rfl) (F3.aH.below D (by have:=F3.lt; omega)) (i:=12) (by omega) (by omega) (fun j C=>jr _ (by omega) (iJ _ C (by omega)))))
  ·exact .inr (.inr lV)
  ·exact .inr (.inr (oC (.int .u8 (x.kind:Int)) fun E D=>bf (x:=FY x) rfl (show ev _ (.tmp 40)=(pf G 3)from by kernel_rfl) (by kernel_rfl) (m16.aH.below D (by have:=m16.lt; omega)) (i:=3) (by omega) (by omega) rfl))
  ·exact .inr (.inr (oC (.int .u8 (H:Int)) fun E D=>Fx.xK rfl (show ev _ (.tmp 41) = .int .u8 (x.kind:Int)from by kernel_rfl) (show ev _ (.const (.int .u8 (7))) = .int .u8 (7)from by kernel_rfl) (by omega) (Gz ahQ)))
  ·exact .inr (.inr (oC (.int .u8 ((H:Int)+1)) fun E D=>Fx.GD rfl (show ev _ (.const (.int .u8 (1))) = .int .u8 (1)from by kernel_rfl) (show ev _ (.tmp 42) = .int .u8 (H:Int)from by kernel_rfl) (Fx.u8e (by omega) (by omega))))
  ·exact .inr (.inr (oC (.agg (aA 14 (bC (bC (bC (bC (fun h=>if h<1 then au 0 else if h<8 then aC 0 else if h<9 then .int .u8 (0)else if h<10 then aC 0 else if h<12 then au 0 else aC 0) 0 1 (fun _=>au ((o:Int)+1))) 1 1 (fun _=>aC ((M.ml o).s.known o+1))) 2 6 (rv .u64 ((M.ml o).s.known))) 8 1 (fun _ => .int .u8 ((H:Int)+1))))) fun E D=>fZ (vs := [(0,au ((o:Int)+1)),(1,aC ((M.ml o).s.known o+1)),(2,.agg (aA 6 (rv .u64 ((M.ml o).s.known)))),(3,.int .u8 ((H:Int)+1))]) (places := #[(0,1),(1,1),(2,6),(8,1),(9,1),(10,1),(11,1),(12,1),(13,1)]) (m:=14) (x:=fun h=>if h<1 then au 0 else if h<8 then aC 0 else if h<9 then .int .u8 (0)else if h<10 then aC 0 else if h<12 then au 0 else aC 0) rfl (Fx.RI (show ev _ (.tmp 26)=au ((o:Int)+1)from by kernel_rfl) (show ev _ (.tmp 34)=aC ((M.ml o).s.known o+1)from by kernel_rfl) (show ev _ (.tmp 39) = .agg (aA 6 (rv .u64 ((M.ml o).s.known)))from by kernel_rfl) (show ev _ (.tmp 43) = .int .u8 ((H:Int)+1)from by kernel_rfl)) Tryz.underlying37 (by kernel_rfl) (by kernel_rfl) (by rw[aZ (off:=0) (s:=1) (y:=fun _=>au ((o:Int)+1)) (by kernel_rfl) (cells_one (by rfl)) (by rfl)]; rw[aZ (off:=1) (s:=1) (y:=fun _=>aC ((M.ml o).s.known o+1)) (by kernel_rfl) (cells_one (by rfl)) (by rfl)]; rw[aZ (off:=2) (s:=6) (y:=rv .u64 ((M.ml o).s.known)) (by kernel_rfl) (bF _ _) (by rfl)]; rw[aZ (off:=8) (s:=1) (y:=fun _ => .int .u8 ((H:Int)+1)) (by kernel_rfl) (cells_one (by rfl)) (by rfl)]; rfl)))
  ·exact .inl rfl
  exact .inr (.inl rfl)
 rintro A w3 f1 hf1 BQ m19 hb1;have Vz:p≠A:=u_ (n_ (m12.lt) BQ);have aqe:G≠A:=u_ (n_ (m16.lt) BQ);have adO:U≠A:=u_ (n_ (m17.lt) BQ);have aqf:Gg≠A:=u_ (n_ (m18.lt) BQ);have ahS:(M.pl o)≠A:=u_ (n_ (F3.lt) BQ);have VA:(.slice M.aa (M.an) (M.ac):Value).ownBlock≠some A:=fun e=>by have:=(m14.ge e).2; omega
 have⟨m22,m23,m24,mV,ow,b4⟩:=qD hb1 m15 m16 m17 m18 ahR b3;have BQ:w.heap.size<=A:=m_ b3.size BQ;have G9:=m19.lt;have q1:f1 3=(pt G):=by rw[hf1]; kernel_rfl
 have q2:f1 4=(pt U):=by rw[hf1]; kernel_rfl
 have q3:f1 6=(pt (M.pl o)):=by rw[hf1]; kernel_rfl
 have q4:f1 7=(pt A):=by rw[hf1]; kernel_rfl
 clear hf1;refine sN<|Ws ?_;obtain⟨d,eV0⟩ : ∃ V:EvM,V=(⟨(o:Int)+1,(M.ml o).s.known o+1,(M.ml o).s.known,(H:Int)+1,0,0,0,0,0⟩:EvM):=⟨_,rfl⟩;have hz1:iP 0:=⟨by decide,by decide⟩;have hz2:oZ 0:=⟨by decide,by decide⟩;have t:gD d:=by rw[eV0]; exact⟨⟨by show(_:Int)<=(o:Int)+1; omega,by show(o:Int)+1<=_; omega⟩,⟨by show(0:Int)<=(M.ml o).s.known o+1; omega,by show(M.ml o).s.known o+1<=_; omega⟩,fun i hi=>⟨(hkn i hi).1,by have q:(M.ml o).s.known i<1099511627776:=(hkn i hi).2; show(M.ml o).s.known i<=_; omega⟩,⟨by show(0:Int)<=(H:Int)+1; omega,by show(H:Int)+1<=255; omega⟩,hz1,hz2,hz2,hz1,hz1⟩
 have oD:aR w3 A 14 (bM d) 37:=m19.congr (fun j C=>by rw[eV0]; rcases j with _|_|_|_|_|_|_|_|_|_|_|_|_|_|j <;> first|rfl|omega|exact L_ (Value.int .u8) (by omega))
 have X:oI d:=by rw[eV0]; exact⟨by show(0:Int)<=_; decide,by show(0:Int)<=_; decide⟩
 have hd0:d.o=(o:Int)+1/\d.seq=(M.ml o).s.known o+1/\d.deps=(M.ml o).s.known:=by rw[eV0]; exact⟨rfl,rfl,rfl⟩
 have ek0:d.kind=(H:Int)+1:=by rw[eV0]
 refine Wl<|av (aC 0)<|aD ?_;have nU:Fx.Own w3 B 29 1 (.slice M.la (M.n) (M.lc)) M.n (Gy M.pl):=mV.fB (L_ (fun q=>Value.slice q M.n M.lc) eq1.symm);refine CY (fun f w_ => ∃ nd:Int,iP nd/\f 3=(pt G)/\f 4=(pt U)/\f 7=(pt A)/\f 8=aC nd/\aR w_ G 9 (FY x) 72/\aR w_ U 14 (fun h=>if h<1 then au 0 else if h<8 then aC 0 else if h<9 then .int .u8 (0)else if h<10 then aC 0 else if h<12 then au 0 else aC 0) 37/\aR w_ A 14 (bM d) 37/\Below w.heap.size w w_) ?_ ?_
 ·refine Ws ?_;have Y9:=m22 o (by omega);have VT:=Y9.c;have asT:=Y9.n;refine Wl<|aX q3<|av (pt (M.pl o))<|av (pt (M.pl o))<|av (pf (M.pl o) 18)<|Lv (.slice (M.ml o).s.na ((M.ml o).s.nn) ((M.ml o).s.nc)) (aL VT.aH 18)<|av (au (((M.ml o).s.nn:Nat):Int))<|Lv (.bool (decide (0<(((M.ml o).s.nn:Nat):Int)))) (Fx.Rv rfl rfl rfl)<|aD<|Wc (b:=decide (0<(((M.ml o).s.nn:Nat):Int))) rfl (fun c51 => ?_)<|fun c51 => ?_
  ·have c51:=h_ c51;obtain⟨Xb,ahU⟩ : ∃ r,r=x.node % (M.ml o).s.nn:=⟨_,rfl⟩;have aqg:Xb<(M.ml o).s.nn:=(by rw[ahU]; exact J_ _ (by omega));refine uR<|dO q3<|aW (pt (M.pl o))<|aW (pt (M.pl o))<|aW (pf (M.pl o) 18)<|Qv (.slice (M.ml o).s.na ((M.ml o).s.nn) ((M.ml o).s.nc)) (fun E D=>aL (VT.aH.dr D) 18)<|Qv (pf G 4) (fun E D=>jA q1 4)<|Qv (.int .u8 (x.node:Int)) (fun E D=>aL (m23.aH.dr D) 4)<|Qv (au x.node) (fun E D=>dz rfl rfl (by kernel_rfl) Tryz.underlying3 (iO (by omega) rfl))<|dO q3<|aW (pt (M.pl o))<|aW (pt (M.pl o))<|aW (pf (M.pl o) 18)<|Qv (.slice (M.ml o).s.na ((M.ml o).s.nn) ((M.ml o).s.nc)) (fun E D=>aL (VT.aH.dr D) 18)<|aW (au (((M.ml o).s.nn:Nat):Int))<|Qv (au Xb) (fun E D=>Fx.xK rfl rfl rfl (by omega) (Gz ahU)) ?_;obtain⟨Ut,Gv⟩:=ow.addr (by omega);have oz:Fx.Own w3 B 84 56 (.slice (some ⟨Ut,0,none⟩) ((M.ml o).s.nn) ((M.ml o).s.nc)) ((M.ml o).s.nn) (JW (M.ml o)):=ow.fB (L_ (fun q=>Value.slice q ((M.ml o).s.nn) ((M.ml o).s.nc)) Gv);refine Qv (pf Ut (56*Xb)) (fun E D=>cO 56 (hx:=(rfl.trans (L_ (fun q=>Value.slice q ((M.ml o).s.nn) ((M.ml o).s.nc)) Gv))))<|aW (pf Ut (56*Xb))<|Qv (aC ((M.ml o).id Xb)) (fun E D=>aL (oz.aH.dr D) (56*Xb) (Fx.fq (k:=Xb) (j:=0) (by omega) (by omega) rfl))<|aW (aC ((M.ml o).id Xb))<|Qn ?_;rintro _ ⟨qd,rfl⟩;obtain⟨wq2,sP⟩ : ∃ E,E=World.drewN w3 qd:=⟨_,rfl⟩;rw[<- sP];have s5:Stp w3.heap.size w3 wq2:=(by rw[sP]; exact Sb (je w3 qd));have⟨nG,oF,rQ,tN,b5⟩:=oQ s5.old m23 m24 oD oz b4;clear sP;have mW:Fx.Own wq2 B 84 56 (.slice (M.ml o).s.na ((M.ml o).s.nn) ((M.ml o).s.nc)) ((M.ml o).s.nn) (JW (M.ml o)):=tN.fB (L_ (fun q=>Value.slice q ((M.ml o).s.nn) ((M.ml o).s.nc)) Gv.symm);exact wX ⟨((M.ml o).id Xb),(hU Xb aqg),q1,q2,q4,Fx.ic,nG,oF,rQ,b5⟩
  have c51:=j_ c51;refine Wk ?_;exact wX ⟨0,⟨by decide,by decide⟩,q1,q2,q4,Fx.ic,m23,m24,oD,b4⟩
 rintro f2 w4 ⟨nd,Pq,Y,I,F,h4,mK,mX,K,J⟩;refine Ws<|ay<|Lv (pf A 8) (jA F 8)<|Lv (.int .u8 (d.kind)) (aL K.aH 8)<|aD<|Wb<|ay ?_;by_cases c73:d.kind=1
 ·refine Lv aG (fI c73)<|av aG<|aD<|aM<|Ws<|Ws ?_;obtain⟨r76,ahV⟩ : ∃ r,r=x.node % 2:=⟨_,rfl⟩;have awF:r76<2:=by rw[ahV]; exact J_ _ (by omega)
  refine Wl<|Lv (pf G 4) (jA Y 4)<|Lv (.int .u8 (x.node:Int)) (aL mK.aH 4)<|Lv (.int .u8 (r76:Int)) (Fx.xK rfl rfl rfl (by omega) (Gz ahV)) ?_;by_cases c77:(r76:Int)=1
  ·refine Lv aG (fI c77)<|aD<|aM<|Wl<|aX h4<|Lv (pf A 9) (jA F 9)<|jd K 9 (aC nd) fun w5 qy s6 z3 => ?_;obtain⟨L,eV1⟩ : ∃ V:EvM,V=⟨d.o,d.seq,d.deps,d.kind,nd,d.dst,d.aQ,d.req,d.of⟩:=⟨_,rfl⟩;have LW:gD L:=(by rw[eV1]; exact⟨t.o,t.seq,t.deps,t.kind,Pq,t.dst,t.aQ,t.req,t.of⟩);have aqi:L.o=(o:Int)+1/\L.seq=(M.ml o).s.known o+1/\L.deps=(M.ml o).s.known:=(by rw[eV1]; exact hd0);have aqj:oI L:=(by rw[eV1]; exact⟨X.aQ,X.req⟩);have oG:aR w5 A 14 (bM L) 37:=qy.congr (fun j C=>by rw[eV1]; exact Ep _ _ j C);have gY:=gQ s6 K.ty;have rG:=kR gY mK;have uW:=mX.cB s6 (by omega);have b7:=s6.below J J.size (by omega);refine aD<|Wl<|Lv (pf G 6) (jA Y 6)<|Lv (.int .u16 (x.aQ:Int)) (aL rG.aH 6)<|Lv (au x.aQ) (dz rfl rfl (by kernel_rfl) Tryz.underlying2 (iO (by omega) rfl))<|Lv (pf A 11) (jA F 11)<|jd oG 11 (au x.aQ) fun w6 tO s7 z4 => ?_;obtain⟨V2,eV2⟩ : ∃ V:EvM,V=⟨L.o,L.seq,L.deps,L.kind,L.node,L.dst,(x.aQ:Int),L.req,L.of⟩:=⟨_,rfl⟩;have aqk:gD V2:=(by rw[eV2]; exact⟨LW.o,LW.seq,LW.deps,LW.kind,LW.node,LW.dst,(show oZ (x.aQ:Int)from⟨by omega,by omega⟩),LW.req,LW.of⟩);have aql:V2.o=(o:Int)+1/\V2.seq=(M.ml o).s.known o+1/\V2.deps=(M.ml o).s.known:=(by rw[eV2]; exact aqi);have aqm:oI V2:=(by rw[eV2]; exact⟨by show(x.aQ:Int)<=65536; omega,aqj.req⟩);have tJ:aR w6 A 14 (bM V2) 37:=tO.congr (fun j C=>by rw[eV2]; exact FZ _ _ j C);have uN:=uW.cB s7 (by omega);have b8:=s7.below b7 b7.size (by omega);refine Ln<|bP<|sN<|ay<|Lv (.agg (aA 14 (bM V2))) (fC tJ.aH 0 (ha:=F))<|eB uN 0 (ha:=I) (h1:=(fK _)) fun w7 uj s8 z5 => ?_;have uX:aR w7 U 14 (bM V2) 37:=aP uj;have sw:=tJ.cB s8 (by omega);have b9:=s8.below b8 b8.size (by omega);refine aD (Wr (⟨.agg (aA 14 (bM V2)),rV Tryz.results57 ⟨_,I,aT uX.aH (by kernel_rfl) (by kernel_rfl)⟩,?_⟩));exact⟨V2,aqk,aqm,by rw[<- eo]; exact aql,rfl,b9⟩
  refine Lv aF (gG c77)<|aD<|aK<|Wk<|sN<|Wl<|Lv (pf G 6) (jA Y 6)<|Lv (.int .u16 (x.aQ:Int)) (aL mK.aH 6)<|Lv (au x.aQ) (dz rfl rfl (by kernel_rfl) Tryz.underlying2 (iO (by omega) rfl))<|Lv (pf A 11) (jA F 11)<|jd K 11 (au x.aQ) fun w8 sD s9 z6 => ?_;obtain⟨V3,eV3⟩ : ∃ V:EvM,V=⟨d.o,d.seq,d.deps,d.kind,d.node,d.dst,(x.aQ:Int),d.req,d.of⟩:=⟨_,rfl⟩;have aqn:gD V3:=by rw[eV3]; exact⟨t.o,t.seq,t.deps,t.kind,t.node,t.dst,(show oZ (x.aQ:Int)from⟨by omega,by omega⟩),t.req,t.of⟩
  have aqo:V3.o=(o:Int)+1/\V3.seq=(M.ml o).s.known o+1/\V3.deps=(M.ml o).s.known:=by rw[eV3]; exact hd0
  have aqp:oI V3:=by rw[eV3]; exact⟨by show(x.aQ:Int)<=65536; omega,X.req⟩
  have tK:aR w8 A 14 (bM V3) 37:=sD.congr (fun j C=>by rw[eV3]; exact FZ _ _ j C);have qJ:=mX.cB s9 (by omega);have b10:=s9.below J J.size (by omega);refine Ln<|bP<|sN<|ay<|Lv (.agg (aA 14 (bM V3))) (fC tK.aH 0 (ha:=F))<|eB qJ 0 (ha:=I) (h1:=(fK _)) fun w9 uz s10 z7 => ?_;have nW:aR w9 U 14 (bM V3) 37:=aP uz;have m64:=tK.cB s10 (by omega);have b11:=s10.below b10 b10.size (by omega);refine aD (Wr (⟨.agg (aA 14 (bM V3)),rV Tryz.results57 ⟨_,I,aT nW.aH (by kernel_rfl) (by kernel_rfl)⟩,?_⟩));exact⟨V3,aqn,aqp,by rw[<- eo]; exact aqo,rfl,b11⟩
 refine Lv aF (gG c73)<|av aF<|aD<|aK<|ay ?_;by_cases c85:d.kind=2
 ·refine Lv aG (fI c85)<|av aG<|aD<|aM<|ay<|aX h4<|Lv (pf A 9) (jA F 9)<|jd K 9 (aC nd) fun tH xE s11 z8 => ?_;obtain⟨P,eV4⟩ : ∃ V:EvM,V=⟨d.o,d.seq,d.deps,d.kind,nd,d.dst,d.aQ,d.req,d.of⟩:=⟨_,rfl⟩;have LX:gD P:=by rw[eV4]; exact⟨t.o,t.seq,t.deps,t.kind,Pq,t.dst,t.aQ,t.req,t.of⟩
  have aqr:P.o=(o:Int)+1/\P.seq=(M.ml o).s.known o+1/\P.deps=(M.ml o).s.known:=by rw[eV4]; exact hd0
  have aqs:oI P:=by rw[eV4]; exact⟨X.aQ,X.req⟩
  have xg:aR tH A 14 (bM P) 37:=xE.congr (fun j C=>by rw[eV4]; exact Ep _ _ j C);have zl:=gQ s11 K.ty;have vO:=kR zl mK;have wz:=mX.cB s11 (by omega);have b12:=s11.below J J.size (by omega);refine aD<|Wl<|Lv (pf G 6) (jA Y 6)<|Lv (.int .u16 (x.aQ:Int)) (aL vO.aH 6)<|Lv (au x.aQ) (dz rfl rfl (by kernel_rfl) Tryz.underlying2 (iO (by omega) rfl))<|Lv (au ((x.aQ:Int)+1)) fF<|Lv (pf A 11) (jA F 11)<|jd xg 11 (au ((x.aQ:Int)+1)) fun Gc sF s12 z9 => ?_;obtain⟨V5,eV5⟩ : ∃ V:EvM,V=⟨P.o,P.seq,P.deps,P.kind,P.node,P.dst,(x.aQ:Int)+1,P.req,P.of⟩:=⟨_,rfl⟩;have aqt:gD V5:=by rw[eV5]; exact⟨LX.o,LX.seq,LX.deps,LX.kind,LX.node,LX.dst,(show oZ ((x.aQ:Int)+1)from⟨by omega,by omega⟩),LX.req,LX.of⟩
  have aqu:V5.o=(o:Int)+1/\V5.seq=(M.ml o).s.known o+1/\V5.deps=(M.ml o).s.known:=by rw[eV5]; exact aqr
  have aqv:oI V5:=by rw[eV5]; exact⟨by show(x.aQ:Int)+1<=65536; omega,aqs.req⟩
  have uO:aR Gc A 14 (bM V5) 37:=sF.congr (fun j C=>by rw[eV5]; exact FZ _ _ j C);have vP:=wz.cB s12 (by omega);have b13:=s12.below b12 b12.size (by omega);refine Ln<|bP<|sN<|ay<|Lv (.agg (aA 14 (bM V5))) (fC uO.aH 0 (ha:=F))<|eB vP 0 (ha:=I) (h1:=(fK _)) fun BF vQ s13 z10 => ?_;have zG:aR BF U 14 (bM V5) 37:=aP vQ;have zm:=uO.cB s13 (by omega);have b14:=s13.below b13 b13.size (by omega);refine aD (Wr (⟨.agg (aA 14 (bM V5)),rV Tryz.results57 ⟨_,I,aT zG.aH (by kernel_rfl) (by kernel_rfl)⟩,?_⟩));exact⟨V5,aqt,aqv,by rw[<- eo]; exact aqu,rfl,b14⟩
 refine Lv aF (gG c85)<|av aF<|aD<|aK<|ay ?_;by_cases c94:d.kind=3
 ·refine Lv aG (fI c94)<|av aG<|aD<|aM<|ay<|aX h4<|Lv (pf A 9) (jA F 9)<|jd K 9 (aC nd) fun Gq zn BD z11 => ?_;obtain⟨Q,eV6⟩ : ∃ V:EvM,V=⟨d.o,d.seq,d.deps,d.kind,nd,d.dst,d.aQ,d.req,d.of⟩:=⟨_,rfl⟩;have LY:gD Q:=by rw[eV6]; exact⟨t.o,t.seq,t.deps,t.kind,Pq,t.dst,t.aQ,t.req,t.of⟩
  have aqw:Q.o=(o:Int)+1/\Q.seq=(M.ml o).s.known o+1/\Q.deps=(M.ml o).s.known:=by rw[eV6]; exact hd0
  have aqx:oI Q:=by rw[eV6]; exact⟨X.aQ,X.req⟩
  have yJ:aR Gq A 14 (bM Q) 37:=zn.congr (fun j C=>by rw[eV6]; exact Ep _ _ j C);have acH:=gQ BD K.ty;have xq:=kR acH mK;have wB:=mX.cB BD (by omega);have b15:=BD.below J J.size (by omega);refine aD<|ay<|Lv (pf G 6) (jA Y 6)<|Lv (.int .u16 (x.aQ:Int)) (aL xq.aH 6)<|Lv (au x.aQ) (dz rfl rfl (by kernel_rfl) Tryz.underlying2 (iO (by omega) rfl))<|Lv (au ((x.aQ:Int)+1)) fF<|Lv (pf A 11) (jA F 11)<|jd yJ 11 (au ((x.aQ:Int)+1)) fun Mr wC s15 z12 => ?_;obtain⟨R,eV7⟩ : ∃ V:EvM,V=⟨Q.o,Q.seq,Q.deps,Q.kind,Q.node,Q.dst,(x.aQ:Int)+1,Q.req,Q.of⟩:=⟨_,rfl⟩;have LZ:gD R:=by rw[eV7]; exact⟨LY.o,LY.seq,LY.deps,LY.kind,LY.node,LY.dst,(show oZ ((x.aQ:Int)+1)from⟨by omega,by omega⟩),LY.req,LY.of⟩
  have aqy:R.o=(o:Int)+1/\R.seq=(M.ml o).s.known o+1/\R.deps=(M.ml o).s.known:=by rw[eV7]; exact aqw
  have aqz:oI R:=by rw[eV7]; exact⟨by show(x.aQ:Int)+1<=65536; omega,aqx.req⟩
  have xW:aR Mr A 14 (bM R) 37:=wC.congr (fun j C=>by rw[eV7]; exact FZ _ _ j C);have ahW:=gQ s15 yJ.ty;have zT:=kR ahW xq;have xX:=wB.cB s15 (by omega);have b16:=s15.below b15 b15.size (by omega);refine aD<|Wl<|Lv (pf G 7) (jA Y 7)<|Lv (.int .u8 (x.req:Int)) (aL zT.aH 7)<|Lv (aC x.req) (dz rfl rfl (by kernel_rfl) Tryz.underlying23 (jH (by omega) rfl))<|Lv (aC ((x.req:Int)+1)) fF<|Lv (pf A 12) (jA F 12)<|jd xW 12 (aC ((x.req:Int)+1)) fun Ms AU s16 z13 => ?_;obtain⟨V8,eV8⟩ : ∃ V:EvM,V=⟨R.o,R.seq,R.deps,R.kind,R.node,R.dst,R.aQ,(x.req:Int)+1,R.of⟩:=⟨_,rfl⟩;have aqA:gD V8:=by rw[eV8]; exact⟨LZ.o,LZ.seq,LZ.deps,LZ.kind,LZ.node,LZ.dst,LZ.aQ,(show iP ((x.req:Int)+1)from⟨by omega,by omega⟩),LZ.of⟩
  have aqB:V8.o=(o:Int)+1/\V8.seq=(M.ml o).s.known o+1/\V8.deps=(M.ml o).s.known:=by rw[eV8]; exact aqy
  have aqC:oI V8:=by rw[eV8]; exact⟨aqz.aQ,by show(x.req:Int)+1<=256; omega⟩
  have Au:aR Ms A 14 (bM V8) 37:=AU.congr (fun j C=>by rw[eV8]; exact VR _ _ j C);have zU:=xX.cB s16 (by omega);have b17:=s16.below b16 b16.size (by omega);refine Ln<|bP<|sN<|ay<|Lv (.agg (aA 14 (bM V8))) (fC Au.aH 0 (ha:=F))<|eB zU 0 (ha:=I) (h1:=(fK _)) fun w16 zV JV z14 => ?_;have AV:aR w16 U 14 (bM V8) 37:=aP zV;have DJ:=Au.cB JV (by omega);have b18:=JV.below b17 b17.size (by omega);refine aD (Wr (⟨.agg (aA 14 (bM V8)),rV Tryz.results57 ⟨_,I,aT AV.aH (by kernel_rfl) (by kernel_rfl)⟩,?_⟩));exact⟨V8,aqA,aqC,by rw[<- eo]; exact aqB,rfl,b18⟩
 refine Lv aF (gG c94)<|av aF<|aD<|aK<|ay ?_;by_cases ahX:d.kind=4
 ·refine Lv aG (fI ahX)<|av aG<|aD<|aM<|ay<|Lv (pf G 7) (jA Y 7)<|Lv (.int .u8 (x.req:Int)) (aL mK.aH 7)<|Lv (aC x.req) (dz rfl rfl (by kernel_rfl) Tryz.underlying23 (jH (by omega) rfl))<|Lv (aC ((x.req:Int)+1)) fF<|Lv (pf A 12) (jA F 12)<|jd K 12 (aC ((x.req:Int)+1)) fun WU Cb Mv z15 => ?_;obtain⟨S,eV9⟩ : ∃ V:EvM,V=⟨d.o,d.seq,d.deps,d.kind,d.node,d.dst,d.aQ,(x.req:Int)+1,d.of⟩:=⟨_,rfl⟩;have L6:gD S:=by rw[eV9]; exact⟨t.o,t.seq,t.deps,t.kind,t.node,t.dst,t.aQ,(show iP ((x.req:Int)+1)from⟨by omega,by omega⟩),t.of⟩
  have aqD:S.o=(o:Int)+1/\S.seq=(M.ml o).s.known o+1/\S.deps=(M.ml o).s.known:=by rw[eV9]; exact hd0
  have ahY:oI S:=by rw[eV9]; exact⟨X.aQ,by show(x.req:Int)+1<=256; omega⟩
  have C9:aR WU A 14 (bM S) 37:=Cb.congr (fun j C=>by rw[eV9]; exact VR _ _ j C);have ahZ:=gQ Mv K.ty;have zZ:=kR ahZ mK;have Gd:=mX.cB Mv (by omega);have b19:=Mv.below J J.size (by omega);refine aD<|Wl<|Lv (pf G 8) (jA Y 8)<|Lv (.int .u8 (x.of:Int)) (aL zZ.aH 8)<|Lv (aC x.of) (dz rfl rfl (by kernel_rfl) Tryz.underlying23 (jH (by omega) rfl))<|Lv (aC ((x.of:Int)+1)) fF<|Lv (pf A 13) (jA F 13)<|jd C9 13 (aC ((x.of:Int)+1)) fun WV Ec s19 z16 => ?_;obtain⟨Xc,Za⟩ : ∃ V:EvM,V=⟨S.o,S.seq,S.deps,S.kind,S.node,S.dst,S.aQ,S.req,(x.of:Int)+1⟩:=⟨_,rfl⟩;have aia:gD Xc:=by rw[Za]; exact⟨L6.o,L6.seq,L6.deps,L6.kind,L6.node,L6.dst,L6.aQ,L6.req,(show iP ((x.of:Int)+1)from⟨by omega,by omega⟩)⟩
  have aib:Xc.o=(o:Int)+1/\Xc.seq=(M.ml o).s.known o+1/\Xc.deps=(M.ml o).s.known:=by rw[Za]; exact aqD
  have aic:oI Xc:=by rw[Za]; exact⟨ahY.aQ,ahY.req⟩
  have Gf:aR WV A 14 (bM Xc) 37:=Ec.congr (fun j C=>by rw[Za]; exact ahP _ _ j C);have wK:=Gd.cB s19 (by omega);have b20:=s19.below b19 b19.size (by omega);refine Ln<|bP<|sN<|ay<|Lv (.agg (aA 14 (bM Xc))) (fC Gf.aH 0 (ha:=F))<|eB wK 0 (ha:=I) (h1:=(fK _)) fun w19 xZ s20 z17 => ?_;have wM:aR w19 U 14 (bM Xc) 37:=aP xZ;have qb:=Gf.cB s20 (by omega);have PY:=s20.below b20 b20.size (by omega);refine aD (Wr (⟨.agg (aA 14 (bM Xc)),rV Tryz.results57 ⟨_,I,aT wM.aH (by kernel_rfl) (by kernel_rfl)⟩,?_⟩));exact⟨Xc,aia,aic,by rw[<- eo]; exact aib,rfl,PY⟩
 refine Lv aF (gG ahX)<|av aF<|aD<|aK<|ay ?_;by_cases aie:d.kind=5
 ·refine Lv aG (fI aie)<|av aG<|aD<|aM<|ay<|aX h4<|Lv (pf A 9) (jA F 9)<|jd K 9 (aC nd) fun WW pG s21 z18 => ?_;obtain⟨N,Zb⟩ : ∃ V:EvM,V=⟨d.o,d.seq,d.deps,d.kind,nd,d.dst,d.aQ,d.req,d.of⟩:=⟨_,rfl⟩;have Dp:gD N:=by rw[Zb]; exact⟨t.o,t.seq,t.deps,t.kind,Pq,t.dst,t.aQ,t.req,t.of⟩
  have aif:N.o=(o:Int)+1/\N.seq=(M.ml o).s.known o+1/\N.deps=(M.ml o).s.known:=by rw[Zb]; exact hd0
  have aii:oI N:=by rw[Zb]; exact⟨X.aQ,X.req⟩
  have qM:aR WW A 14 (bM N) 37:=pG.congr (fun j C=>by rw[Zb]; exact Ep _ _ j C);have aij:=gQ s21 K.ty;have qc:=kR aij mK;have rJ:=mX.cB s21 (by omega);have Om:=s21.below J J.size (by omega);refine aD<|ay<|Lv (pf G 6) (jA Y 6)<|Lv (.int .u16 (x.aQ:Int)) (aL qc.aH 6)<|Lv (au x.aQ) (dz rfl rfl (by kernel_rfl) Tryz.underlying2 (iO (by omega) rfl))<|Lv (au ((x.aQ:Int)+1)) fF<|Lv (pf A 11) (jA F 11)<|jd qM 11 (au ((x.aQ:Int)+1)) fun w21 sQ s22 z19 => ?_;obtain⟨O,Zc⟩ : ∃ V:EvM,V=⟨N.o,N.seq,N.deps,N.kind,N.node,N.dst,(x.aQ:Int)+1,N.req,N.of⟩:=⟨_,rfl⟩;have Dq:gD O:=by rw[Zc]; exact⟨Dp.o,Dp.seq,Dp.deps,Dp.kind,Dp.node,Dp.dst,(show oZ ((x.aQ:Int)+1)from⟨by omega,by omega⟩),Dp.req,Dp.of⟩
  have aik:O.o=(o:Int)+1/\O.seq=(M.ml o).s.known o+1/\O.deps=(M.ml o).s.known:=by rw[Zc]; exact aif
  have aav:oI O:=by rw[Zc]; exact⟨by show(x.aQ:Int)+1<=65536; omega,aii.req⟩
  have vB:aR w21 A 14 (bM O) 37:=sQ.congr (fun j C=>by rw[Zc]; exact FZ _ _ j C);have ail:=gQ s22 qM.ty;have rM:=kR ail qc;have uE:=rJ.cB s22 (by omega);have Xx:=s22.below Om Om.size (by omega);refine aD ?_;obtain⟨W,er6⟩ : ∃ r,r=x.dst % 6:=⟨_,rfl⟩;have hr6:W<6:=by rw[er6]; exact J_ _ (by omega)
  refine Wl<|Lv (pf G 5) (jA Y 5)<|Lv (.int .u8 (x.dst:Int)) (aL rM.aH 5)<|Lv (au x.dst) (dz rfl rfl (by kernel_rfl) Tryz.underlying3 (iO (by omega) rfl))<|Lv (au W) (Fx.xK rfl rfl rfl (by omega) (Gz er6))<|Lv (au ((W:Int)+1)) fF<|Lv (pf A 10) (jA F 10)<|jd vB 10 (au ((W:Int)+1)) fun w22 zq s23 z20 => ?_;obtain⟨Xd,Zd⟩ : ∃ V:EvM,V=⟨O.o,O.seq,O.deps,O.kind,O.node,(W:Int)+1,O.aQ,O.req,O.of⟩:=⟨_,rfl⟩;have aio:gD Xd:=by rw[Zd]; exact⟨Dq.o,Dq.seq,Dq.deps,Dq.kind,Dq.node,(show oZ ((W:Int)+1)from⟨by omega,by omega⟩),Dq.aQ,Dq.req,Dq.of⟩
  have aip:Xd.o=(o:Int)+1/\Xd.seq=(M.ml o).s.known o+1/\Xd.deps=(M.ml o).s.known:=by rw[Zd]; exact aik
  have aiq:oI Xd:=by rw[Zd]; exact⟨aav.aQ,aav.req⟩
  have vE:aR w22 A 14 (bM Xd) 37:=zq.congr (fun j C=>by rw[Zd]; exact VQ _ _ j C);have Cc:=uE.cB s23 (by omega);have Xy:=s23.below Xx Xx.size (by omega);refine Ln<|bP<|sN<|ay<|Lv (.agg (aA 14 (bM Xd))) (fC vE.aH 0 (ha:=F))<|eB Cc 0 (ha:=I) (h1:=(fK _)) fun w23 xG s24 z21 => ?_;have uF:aR w23 U 14 (bM Xd) 37:=aP xG;have yc:=vE.cB s24 (by omega);have b25:=s24.below Xy Xy.size (by omega);refine aD (Wr (⟨.agg (aA 14 (bM Xd)),rV Tryz.results57 ⟨_,I,aT uF.aH (by kernel_rfl) (by kernel_rfl)⟩,?_⟩));exact⟨Xd,aio,aiq,by rw[<- eo]; exact aip,rfl,b25⟩
 refine Lv aF (gG aie)<|av aF<|aD<|aK<|ay ?_;by_cases air:d.kind=6
 ·refine Lv aG (fI air)<|av aG<|aD<|aM ?_;obtain⟨W,er6⟩ : ∃ r,r=x.dst % 6:=⟨_,rfl⟩;have hr6:W<6:=by rw[er6]; exact J_ _ (by omega)
  refine Wl<|Lv (pf G 5) (jA Y 5)<|Lv (.int .u8 (x.dst:Int)) (aL mK.aH 5)<|Lv (au x.dst) (dz rfl rfl (by kernel_rfl) Tryz.underlying3 (iO (by omega) rfl))<|Lv (au W) (Fx.xK rfl rfl rfl (by omega) (Gz er6))<|Lv (au ((W:Int)+1)) fF<|Lv (pf A 10) (jA F 10)<|jd K 10 (au ((W:Int)+1)) fun w24 yg ZV z22 => ?_;obtain⟨Xe,Ze⟩ : ∃ V:EvM,V=⟨d.o,d.seq,d.deps,d.kind,d.node,(W:Int)+1,d.aQ,d.req,d.of⟩:=⟨_,rfl⟩;have ais:gD Xe:=by rw[Ze]; exact⟨t.o,t.seq,t.deps,t.kind,t.node,(show oZ ((W:Int)+1)from⟨by omega,by omega⟩),t.aQ,t.req,t.of⟩
  have ait:Xe.o=(o:Int)+1/\Xe.seq=(M.ml o).s.known o+1/\Xe.deps=(M.ml o).s.known:=by rw[Ze]; exact hd0
  have aiu:oI Xe:=by rw[Ze]; exact⟨X.aQ,X.req⟩
  have uG:aR w24 A 14 (bM Xe) 37:=yg.congr (fun j C=>by rw[Ze]; exact VQ _ _ j C);have Jj:=mX.cB ZV (by omega);have b26:=ZV.below J J.size (by omega);refine Ln<|bP<|sN<|ay<|Lv (.agg (aA 14 (bM Xe))) (fC uG.aH 0 (ha:=F))<|eB Jj 0 (ha:=I) (h1:=(fK _)) fun w25 E5 s26 z23 => ?_;have A9:aR w25 U 14 (bM Xe) 37:=aP E5;have Gs:=uG.cB s26 (by omega);have b27:=s26.below b26 b26.size (by omega);refine aD (Wr (⟨.agg (aA 14 (bM Xe)),rV Tryz.results57 ⟨_,I,aT A9.aH (by kernel_rfl) (by kernel_rfl)⟩,?_⟩));exact⟨Xe,ais,aiu,by rw[<- eo]; exact ait,rfl,b27⟩
 refine Lv aF (gG air)<|av aF<|aD<|aK<|Wk<|bP<|sN<|ay<|Lv (.agg (aA 14 (bM d))) (fC K.aH 0 (ha:=F))<|eB mX 0 (ha:=I) (h1:=(fK _)) fun w26 Cg s27 z24 => ?_;have Aa:aR w26 U 14 (bM d) 37:=aP Cg;have KW:=K.cB s27 (by omega);have b28:=s27.below J J.size (by omega);refine aD (Wr (⟨.agg (aA 14 (bM d)),rV Tryz.results57 ⟨_,I,aT Aa.aH (by kernel_rfl) (by kernel_rfl)⟩,?_⟩));exact⟨d,t,X,by rw[<- eo]; exact hd0,rfl,b28⟩
theorem Rt.QW{L:fA}{v:EvM}(h:bG L v=0):bR v=true:=by
 unfold bG at h;split at h; · cases h
 rename_i h1; simpa using h1
structure Rt.DoR(o:Nat)(x:DW)(M M':WM)(v:EvM):Prop where
 n:M'.n=M.n
 oth : ∀ q,q≠o->M'.ml q=M.ml q
 c:(v=zeroE/\M'.an=M.an/\M'.ev=M.ev/\((M'.ml o).core=(M.ml o).core\/x.meet=true/\(M'.ml o).core=FD M.ev M.an (M.ml (x.other % M.n)).s.known (M.ml o).core))\/(x.meet=false/\M'.an=M.an+1/\M'.ev=aI M.ev M.an v/\bG (M.ml o).core v=0/\(M'.ml o).core=dh (M.ml o).core v/\v.o=(o:Int)+1/\v.seq=(M.ml o).s.known o+1/\v.deps=(M.ml o).s.known)
theorem Rt.yV{L:fA}{v:EvM}(h:bG L v=0):(dh L v).known=aI L.known (aN v) (L.known (aN v)+1):=by
 rcases om L v with ⟨_,a⟩|⟨h1,_⟩
 ·exact a
 exact M_ h h1
theorem Rt.F4:gD zeroE:=by
 have z:iP 0:=⟨by decide,by decide⟩;have y:oZ 0:=⟨by decide,by decide⟩;exact⟨y,z,fun _ _=>z,⟨by decide,by decide⟩,z,y,y,z,z⟩
def Xf(p:Nat)(M:WM)(k:Nat):Prop:=k=p\/(Value.slice M.la M.n M.lc).ownBlock=some k\/(Value.slice M.aa M.an M.ac).ownBlock=some k
def Zf(w:World)(p:Nat)(M a:WM):Prop := ∀ k,Xf p a k->Xf p M k\/w.heap.size<=k
theorem ou.ge{w:World}{B p T:Nat}{M:WM}(h:ou w B p M T) : ∀ k,Xf p M k->B<=k/\k<w.heap.size:=fun k b=>by
 rcases b with rfl|e|e
 ·exact⟨h.pB,h.c.lt⟩
 ·exact h.l.ge e
 ·exact h.a.ge e
theorem ou.JI{w w':World}{B p T:Nat}{M:WM}(h:ou w B p M T)(a:B<=w.heap.size)(c:jV (Xf p M) w w'):Below B w w':=Fx.jV.below (Below.refl B w) c (fun k b=>(h.ge k b).1) a
theorem ou.BN{w w':World}{B p T:Nat}{M:WM}(h:ou w B p M T)(d:jV (Xf p M) w w'):iW [78,29,37] w w':=Fx.iW.RN d fun k b=>by
 rcases b with rfl|e|e
 ·exact⟨_,h.c.ty,by decide⟩
 ·exact⟨_,h.l.ty e,by decide⟩
 ·exact⟨_,h.a.ty e,by decide⟩
theorem Zf.app{w b:World}{p g:Nat}{M a:WM}(i:(Value.slice M.aa M.an M.ac).ownBlock=some g\/g=b.heap.size)(l:w.heap.size<=b.heap.size)(h1:a.la=M.la:=by rfl)(c:a.n=M.n:=by rfl)(d:a.lc=M.lc:=by rfl)(f:(Value.slice a.aa a.an a.ac).ownBlock=some g:=by rfl):Zf w p M a:=fun k j=>by
 rcases j with h|h|h
 ·exact .inl (.inl h)
 ·rw[h1,c,d]at h; exact .inl (.inr (.inl h))
 ·have e:g=k:=C_ (f.symm.trans h)
  rcases i with h5|h5
  ·exact .inl (.inr (.inr (e ▸ h5)))
  ·exact .inr (by omega)
theorem ou.mono{w:World}{B p T T':Nat}{M:WM}(h:ou w B p M T)(a:T<=T'):ou w B p M T' := { h with inv:=fun i b=>(h.inv i b).mono a }
set_option maxRecDepth 20000 in
set_option maxHeartbeats 2000000 in
theorem aiv(M:WM)(B p T:Nat)(x:DW)(w:World)(d:ou w B p M T)(hB:B<=w.heap.size)(hx:FX x)(han:M.an<=60)(hT:T<=890000) :
 Calls Tryz.prog 28 #[(pt p),.agg (aA 9 (FY x))] w fun e w' => ∃ v,e = .returned (.agg (aA 14 (bM v)))/\gD v /\ ∃ O,ou w' B p O (T+3660)/\DoR (x.who % M.n) x M O v/\O.an<=M.an+1/\(x.meet=true->O.an=M.an)/\jV (Xf p M) w w'/\Zf w p M O:=by
 have hWc:=d.c;have hWl:=d.l;have hWa:=d.a;have hWg:=d.g;have hn1:=d.n1;have hn6:=d.n6;have hpB:=d.pB;have XY:p<w.heap.size:=hWc.lt;have hxw:=hx.who;have hxo:=hx.other;have hxk:=hx.kind;have hxn:=hx.node;have hxt:=hx.dst;have hxa:=hx.aQ;have hxr:=hx.req;have hxf:=hx.of;refine Kent Tryz.func28 94 ?_;refine ay<|oL fun g1 w1 lY m1 s1 z1 => ?_;have⟨m2,f,m4,m5,m6⟩:=oQ s1.old hWc hWl hWa hWg d;have b1:=(uM (Xf p M) w).then s1 (.inr (uM (Xf p M) w).size);have su:w.heap.size<=g1:=by rw[lY]; exact(uM (Xf p M) w).size
 have mJ:=bY lY hWc.lt;have ug:=m1.lt;refine rD 14 (fun b=>if b<1 then au 0 else if b<8 then aC 0 else if b<9 then .int .u8 (0)else if b<10 then aC 0 else if b<12 then au 0 else aC 0) fun R w2 ad m7 s2 z2 => ?_;have⟨m8,m9,m10,m11,m12,m13⟩:=qD s2.old m2 f m4 m5 m6 m1;have b2:=b1.then s2 (.inr b1.size);have qK:=iI ad b1.size;have aag:=bY ad m2.lt;have FP:(.slice M.aa (M.an) (M.ac):Value).ownBlock≠some R:=by rw[ad]; exact m4.kg (A_ _)
 have Ai:=bY ad m1.lt;have yK:=m7.lt;refine aD<|Ws ?_;obtain⟨o,Q⟩ : ∃ r,r=x.who % M.n:=⟨_,rfl⟩;have ho:o<M.n:=by rw[Q]; exact J_ _ (by omega)
 refine uR<|aW (pt g1)<|Qv (.int .u8 (x.who:Int)) (fun D C=>aL (m13.aH.dr C) 0)<|Qv (au x.who) (fun D C=>dz rfl rfl (by kernel_rfl) Tryz.underlying3 (iO (by omega) rfl))<|aW (pt p)<|aW (pt p)<|aW (pt p)<|Qv (.slice M.la (M.n) (M.lc)) (fun D C=>aL (m8.aH.dr C) 0)<|aW (au M.n)<|Qv (au o) (fun D C=>Fx.xK rfl rfl rfl (by omega) (Gz Q))<|aW (au o)<|Qn ?_;rintro _ ⟨qd,rfl⟩;obtain⟨BX,pF⟩ : ∃ D,D=World.drewN w2 qd:=⟨_,rfl⟩;rw[<- pF];have s3:Stp w2.heap.size w2 BX:=by rw[pF]; exact Sb (je w2 qd)
 have⟨m14,m15,m16,m17,m18,Y,m20⟩:=jK s3.old m8 m9 m10 m11 m12 m13 m7;have Z:=b2.then s3 (.inr b2.size);clear pF;refine sN<|Ws<|ay<|av (pf g1 1) ?_;by_cases H:x.meet=true
 ·refine Lv aG (aL Y.aH 1 ((show _=Value.bool x.meet from rfl).trans (L_ Value.bool H)))<|aD<|aM<|Ws ?_;obtain⟨A,aen⟩ : ∃ r,r=x.other % M.n:=⟨_,rfl⟩;have awH:A<M.n:=by rw[aen]; exact J_ _ (by omega)
  have Y8:=m17 A (by omega);have F3:=Y8.c;have Y9:=m17 o (by omega);refine jW [0,1,2,4,5,6,7,9,12,13,14,16,17,18,20,23,24,25,3,8,10,11,15,19,21,22,26,27,28,29,30,31,32,33,34,35,36,37] [0,0,0,1,0,0,0,0,4,0,0,4,0,0,0,4,0,0,0,4,0,4,0,0,0,0,4,0,0,0,4,0,0,0,4,2,0,3] [(37,3,[3]),(35,8,[11,10,8]),(37,8,[8]),(35,11,[11]),(37,11,[11]),(35,15,[15]),(37,15,[15]),(35,19,[34,33,32,31,30,29,19]),(37,19,[19]),(35,21,[34,33,32,31,30,29,28,22,21]),(37,21,[21]),(35,26,[34,33,32,31,30,29,28,27,26]),(37,26,[26]),(35,30,[34,33,32,31,30]),(37,30,[30]),(35,34,[34]),(37,34,[34]),(36,35,[35]),(37,35,[35])] fun qE dP iC => ?_;have s4:Stp BX.heap.size BX qE:=Sb dP;have⟨G,m22,m23,m24,mV,nO,ow,oD⟩:=nD dP m14 m15 m16 m17 Y m20 F3 Y9;have b4:=Z.then s4 (.inr Z.size);refine aY (pt p)<|aY (pt p)<|aY (pt p)<|aY (au o)<|aY (pt p)<|aY (pt p)<|aY (pt p)<|aY (au o)<|aY (pt p)<|aY (pt p)<|aY (pf p 1)<|aY (pt p)<|aY (pt p)<|aY (pt p)<|aY (pf g1 2)<|aY (pt p)<|aY (pt p)<|aY (pt p)<|Rd (v := .slice M.la (M.n) (M.lc)) (by rfl) (by rfl) (tX _) (fun D C=>bf (x:=MB (.slice M.la (M.n) (M.lc)) (.slice M.aa (M.an) (M.ac))) rfl rfl (by kernel_rfl) (G.aH.below C (by have:=G.lt; omega)) (i:=0) (by omega) (by omega) rfl) ?_;refine Rs (.slice M.la (M.n) (M.lc)) (aL G.aH 0) ?_;obtain⟨S,J⟩:=m22.addr (by omega);have nU:Fx.Own qE B 29 1 (bL S M.n M.lc) M.n (Gy M.pl):=m22.fB (L_ (fun q=>Value.slice q M.n M.lc) J);refine Rp (pf S o) (fun _=>cO 1 (hx:=(rfl.trans (L_ (fun q=>Value.slice q (M.n) (M.lc)) J))))<|Rs (pt (M.pl o)) (aL nU.aH o) ?_;refine Rs (.slice M.aa (M.an) (M.ac)) (aL G.aH 1) ?_;refine Rs (.slice M.la (M.n) (M.lc)) (aL G.aH 0) ?_;refine Rs (.int .u8 (x.other:Int)) (aL mV.aH 2) ?_;refine Rp (au x.other) (fun D=>dz rfl rfl (by kernel_rfl) Tryz.underlying3 (iO (by omega) rfl))<|Rs (.slice M.la (M.n) (M.lc)) (aL G.aH 0) ?_;refine aY (au M.n)<|Rp (au A) (fun D=>Fx.xK rfl rfl rfl (by omega) (Gz aen))<|Rp (pf S A) (fun _=>cO 1 (hx:=(rfl.trans (L_ (fun q=>Value.slice q (M.n) (M.lc)) J))))<|Rs (pt (M.pl A)) (aL nU.aH A) ?_;refine aY (pt (M.pl A))<|aY (pt (M.pl A))<|aY (pf (M.pl A) 12)<|Rs (.agg (aA 6 (rv .u64 ((M.ml A).s.known)))) (fC ow.aH 12 (fun j W=>jr _ (by omega) (iJ _ W (by omega)))) ?_;refine zi<|kV (Yp (M.ml o) B (M.pl o) T M.aa M.an M.ac M.ev ((M.ml A).s.known) _ oD (d.inv o (by omega)) m23.arr d.wf d.may d.sm han hT) ?_;rintro e9 w3 ⟨t,f,E,hlc,hI3,hL1,hb1⟩;refine⟨(pt t),E,?_⟩;clear E;have s5:=Sb hb1;have⟨oz,lZ,m32,nG,nV⟩:=oQ hb1 G m23 m24 nO nU;have b5:=b4.then s5 (.inr b4.size);refine Ln ⟨s5.old,?_⟩;refine Rp (pf S o) (fun _=>cO 1 (hx:=(rfl.trans (L_ (fun q=>Value.slice q (M.n) (M.lc)) J))))<|gW<|qx nV o (pt t) fun w4 rQ s6 z3 => ?_;have gY:=gQ s6 nV.Ke;have⟨qG,qH,tN,mK,qI⟩:=rE gY oz lZ m32 nG hL1;have b6:=b5.then s6 (.inl (.inr (.inl (by rw[J]; rfl))));have qy:Fx.Own w4 B 29 1 (bL S M.n M.lc) M.n (Gy (aI M.pl o t)):=rQ.congr (fun F _=>congrFun VO F);refine Ln<|bQ<|ay<|av (.agg (aA 14 (fun b=>if b<1 then au 0 else if b<8 then aC 0 else if b<9 then .int .u8 (0)else if b<10 then aC 0 else if b<12 then au 0 else aC 0)))<|eB mK 0 (h1:=(fun F _=>by show((fun b=>if b<1 then au 0 else if b<8 then aC 0 else if b<9 then .int .u8 (0)else if b<10 then aC 0 else if b<12 then au 0 else aC 0:Nat->Value) F).oneCell'=true; simp only[]; repeat (first|rfl|split))) fun w5 oG s7 z4 => ?_
  have rG:aR w5 R 14 (fun b=>if b<1 then au 0 else if b<8 then aC 0 else if b<9 then .int .u8 (0)else if b<10 then aC 0 else if b<12 then au 0 else aC 0) 37:=aP oG;have jQ:=gQ s7 mK.ty;have uW:=kR jQ qG;have tO:=qH.cB s7 FP;have⟨tJ,uj,uX⟩:=AB jQ tN qI qy;have b7:=b6.then s7 (.inr qK);refine aD (Wr (sR (⟨.agg (aA 14 (fun b=>if b<1 then au 0 else if b<8 then aC 0 else if b<9 then .int .u8 (0)else if b<10 then aC 0 else if b<12 then au 0 else aC 0)),rV Tryz.results28 ⟨_,rfl,aT rG.aH (by kernel_rfl) (by kernel_rfl)⟩,?_⟩)));have xC:Fx.Own w5 B 29 1 (.slice M.la (M.n) (M.lc)) M.n (Gy (aI M.pl o t)):=uX.fB (L_ (fun q=>Value.slice q M.n M.lc) J.symm);exact⟨zeroE,L_ (fun z=>Ending.returned (Value.agg z)) (Fx.dW (y:=bM zeroE) fun j W=>by rcases j with _|_|_|_|_|_|_|_|_|_|_|_|_|_|j <;> first|rfl|omega),F4,{ M with pl:=aI M.pl o t,ml:=aI M.ml o f },{ c:=uW,l:=xC,a:=tO,g:=tJ.put uj,inv:=(fun i U=>by show Inv (aI M.ml o f i).core _; unfold aI; split; exact hI3; exact(d.inv i U).mono (by omega)),wf:=d.wf,may:=d.may,sm:=d.sm,cz:=d.cz.learn (o:=o) (by omega) (L:=(M.ml o).core) rfl (fun q u=>by show(aI M.ml o f q).s.known=_; unfold aI; rw[b_ u]) (by show(aI M.ml o f o).s.known=_; unfold aI; rw[d_ rfl]; exact L_ fA.known hlc),pB:=hpB,n1:=hn1,n6:=hn6 },(by rw[<- Q]; exact⟨rfl,fun q u=>by show aI M.ml o f q=_; unfold aI; rw[b_ u],.inl ⟨rfl,rfl,rfl,.inr ⟨H,by rw[<- aen]; show(aI M.ml o f o).core=_; unfold aI; rw[d_ rfl]; exact hlc⟩⟩⟩),(by show M.an<=M.an+1; omega),(fun _=>rfl),b7,fun _ h => .inl h⟩
 rw[T_]at H;refine Lv aF (aL Y.aH 1 ((show _=Value.bool x.meet from rfl).trans (L_ Value.bool H)))<|aD<|aK<|Wk<|sN<|ay<|av (pt p)<|Lv (.agg (aA 9 (FY x))) (fC Y.aH 0)<|kV (Y7 M B p T x _ m18 hx) ?_;rintro e9 w6 ⟨V,hV,hVs,hVd,E,hb2⟩;refine⟨_,E,?_⟩;clear E;rw[<- Q]at hVd;have s8:=Sb hb2;have⟨sw,sD,tK,xD,uz,nW⟩:=qD hb2 m14 m15 m16 m17 Y m20;have b8:=Z.then s8 (.inr Z.size);refine rD 14 (fun b=>if b<1 then au 0 else if b<8 then aC 0 else if b<9 then .int .u8 (0)else if b<10 then aC 0 else if b<12 then au 0 else aC 0) fun g3 w7 ae tL s9 z5 => ?_;have⟨m64,xE,xg,vO,wz,sF⟩:=qD s9.old sw sD tK xD uz nW;have b9:=b8.then s9 (.inr b8.size);have BQ:=iI ae b8.size;have aqF:=bY ae sw.lt;have NQ:(.slice M.aa (M.an) (M.ac):Value).ownBlock≠some g3:=by rw[ae]; exact tK.kg (A_ _)
 have⟨aqG,aqH⟩:=uw ae uz.lt nW.lt;have G9:=tL.lt;refine eB tL 0 (h1:=(fK _)) fun w8 uO s10 z6 => ?_;have uY:aR w8 g3 14 (bM V) 37:=aP uO;have qF:=gQ s10 tL.ty;have⟨vP,vQ⟩:=BM qF m64 xE;have zG:=xg.cB s10 NQ;have⟨xk,zm⟩:=BM qF vO wz;have zn:=sF.cB s10 (by omega);have b10:=b9.then s10 (.inr BQ);refine aD<|Ws ?_;have aqI:=xk o (by omega);refine jW [0,1,2,4,3,5,6,7,8,9,10,11,12,13] [0,0,0,4,0,0,4,4,3,0,0,0,0,0] [(8,3,[6,5,3]),(8,6,[6]),(8,7,[7]),(9,8,[8]),(10,8,[9,8]),(11,8,[9,8]),(12,8,[8]),(13,8,[8])] fun CZ gL nT => ?_;have s11:Stp w8.heap.size w8 CZ:=Sb gL;have⟨yJ,xq,wB,wC,xW,zT,xX,AU⟩:=nD gL vP vQ zG xk zm zn uY aqI;have b11:=b10.then s11 (.inr b10.size);refine aY (pt p)<|aY (pt p)<|aY (pt p)<|aY (au o)<|Rs (.slice M.la (M.n) (M.lc)) (aL yJ.aH 0) ?_;obtain⟨Ut,K⟩:=xq.addr (by omega);have Au:Fx.Own CZ B 29 1 (bL Ut M.n M.lc) M.n (Gy M.pl):=xq.fB (L_ (fun q=>Value.slice q M.n M.lc) K);refine Rp (pf Ut o) (fun _=>cO 1 (hx:=(rfl.trans (L_ (fun q=>Value.slice q (M.n) (M.lc)) K))))<|Rs (pt (M.pl o)) (aL Au.aH o) ?_;refine Rs (.agg (aA 14 (bM V))) (fC xX.aH 0) ?_;refine gW<|kV (Jr (M.ml o) B (M.pl o) T V _ AU hV (d.inv o (by omega)).w (by omega)) ?_;rintro e9 w9 ⟨t,f,E,hc3,hL2,hb3⟩;refine⟨.tuple #[(pt t),au (bG (M.ml o).core V)],E,?_⟩;clear E;have s12:=Sb hb3;have⟨Av,zU,zV,AV,EN,DJ,Cb⟩:=jK hb3 yJ wB wC xW zT xX Au;have b12:=b11.then s12 (.inr b11.size);refine Ln<|aY (.tuple #[(pt t),au (bG (M.ml o).core V)])<|aY (pt t)<|aY (au (bG (M.ml o).core V))<|aY (pt t)<|aY (au (bG (M.ml o).core V))<|bQ<|Ws<|ay<|av (au (bG (M.ml o).core V)) ?_;by_cases I:(bG (M.ml o).core V)=0
 ·refine Lv aF (jJ I)<|aD<|aK<|Wk<|sN<|ay<|av (pt p)<|av (pt p)<|av (pt p)<|Lv (.slice M.la (M.n) (M.lc)) (aL Av.aH 0)<|av (au o)<|av (pt t)<|Lv (pf Ut o) (cO 1 (hx:=(rfl.trans (L_ (fun q=>Value.slice q (M.n) (M.lc)) K))))<|qx Cb o (pt t) fun tH C9 s13 z7 => ?_;have zS:=gQ s13 Cb.Ke;have⟨zZ,Gd,Ec,Gf,Gr,wK,xZ⟩:=RS zS Av zU zV AV EN DJ hL2;have b13:=b12.then s13 (.inl (.inr (.inl (by rw[K]; rfl))));have wM:Fx.Own tH B 29 1 (bL Ut M.n M.lc) M.n (Gy (aI M.pl o t)):=C9.congr (fun F _=>congrFun VO F);refine aD<|Ws ?_;have uD:Fx.Own tH B 29 1 (.slice M.la (M.n) (M.lc)) M.n (Gy (aI M.pl o t)):=wM.fB (L_ (fun q=>Value.slice q M.n M.lc) K.symm);refine zO [0,1,2,3,4,5,6,7,8,9,10] [0,0,0,0,1,4,2,2,0,0,3] (iW [37]) vM Fx.iW.trans (fP := [(10,4,[4]),(6,5,[5]),(7,5,[6,5]),(10,5,[5]),(7,6,[6]),(8,6,[6]),(9,6,[6]),(10,6,[6]),(8,7,[7]),(9,7,[7]),(10,7,[7])]) (by kernel_rfl) (by kernel_rfl) (by kernel_rfl) (by kernel_rfl) (by kernel_rfl) fun Rb lW AP => ?_;have BD:Stp tH.heap.size tH Rb:=Sb lW;have⟨qb,pG,qM,qc,rJ,sQ,vB,rM⟩:=nD lW zZ Gd Ec Gf Gr wK xZ uD;have b14:=b13.then BD (.inr b13.size);refine aY (pt p)<|aY (pt p)<|aY (pt p)<|aY (pf p 1)<|Rd (v := .slice M.aa (M.an) (M.ac)) (by rfl) (by rfl) (vM _) (fun D C=>bf (x:=MB (.slice M.la (M.n) (M.lc)) (.slice M.aa (M.an) (M.ac))) rfl rfl (by kernel_rfl) (qb.kL C (by decide)).aH (i:=1) (by omega) (by omega) rfl) ?_;refine Rs (.agg (aA 14 (bM V))) (fC sQ.aH 0) ?_;refine zi<|xO (vs := [(0,.agg (aA 14 (bM V)))]) (s:=14) (zc:=fun b=>if b<1 then au 0 else if b<8 then aC 0 else if b<9 then .int .u8 (0)else if b<10 then aC 0 else if b<12 then au 0 else aC 0) (y:=bC (fun j=>(fun b=>if b<1 then au 0 else if b<8 then aC 0 else if b<9 then .int .u8 (0)else if b<10 then aC 0 else if b<12 then au 0 else aC 0) (j % 14)) (0*14) 14 (bM V)) (by rfl) rfl rfl Tryz.underlying76 (by kernel_rfl) (by rfl) (by rfl) (by kernel_rfl) (by rw[aZ (off:=0*14) (s:=14) (y:=bM V) rfl (bF _ _) (by rfl)]; rfl) rfl fun g4 Gc af uE s15 z8 => ?_;have⟨zq,vE,zu,xG,uF,qN,yc⟩:=jK s15.old qb pG qM rJ sQ vB rM;have b15:=b14.then s15 (.inr b14.size);have Qw:=iI af b14.size;have X8:=bY af qb.lt;have X9:(.slice M.aa (M.an) (M.ac):Value).ownBlock≠some g4:=by rw[af]; exact pG.kg (A_ _)
  have⟨akq,akr,Ya⟩:=EF af qc.lt rJ.lt sQ.lt;have OI:=uE.lt;refine Ln ⟨Fx.iW.of_below s15.old,?_⟩;refine zi<|zf (B:=B) (s:=14) (bytes:=112) (k:=M.an) (m:=1) (v := .slice M.aa (M.an) (M.ac)) (x:=evX M.ev) (by rfl) rfl rfl rfl Tryz.underlying76 (by kernel_rfl) (by kernel_rfl) rfl rfl vE uE.aH (yO (fun j=>(show(bM V j).oneCell'=true by unfold bM; repeat (first|rfl|split)))) (by omega) (by omega) (by omega) (m_ hB b15.size) fun N ab BF ho1 hg1 wu hlt1 => ?_
  have zk:=zh hg1 vE;have⟨uG,Ce⟩:=BM zk zq zu;have E5:=xG.grown hg1 FP;have aks:R≠N:=fun e=>wu.elim (fun P=>FP (by rw[e]; exact P)) (fun P=>by have:=xG.lt; omega);have A9:=uF.grown hg1 NQ;have akt:g3≠N:=fun e=>wu.elim (fun P=>NQ (by rw[e]; exact P)) (fun P=>by have:=uF.lt; omega);have⟨E8,Gs⟩:=BM zk qN yc;have yg:Fx.Own BF B 37 14 (bL N (M.an+1) ab) (M.an+1) (evX (aI M.ev M.an V)):=(ho1.congr (fun j W=>aek j W));have b16:jV (Xf p M) w BF:=Fx.jV.grow b15 hg1 (fun q u => .inl (.inr (.inr u)));refine Ln ⟨zk,?_⟩;refine aY (pt p)<|aY (pf p 1)<|gW<|jd uG 1 (bL N (M.an+1) ab) fun Gq Cg s16 z9 => ?_;have Aa:aR Gq p 2 (MB (.slice M.la (M.n) (M.lc)) (bL N (M.an+1) ab)) 78:=Cg.congr (ahM _ _ _);have zl:=gQ s16 uG.ty;have⟨Jq,E9,Fa,Gt,Gu,Ch⟩:=RQ zl Ce E5 A9 E8 Gs yg;have b17:=b16.then s16 (.inl (.inl rfl));refine Ln<|bQ<|ay<|Lv (.agg (aA 14 (bM V))) (fC Fa.aH 0)<|eB E9 0 (h1:=(fK _)) fun Mr Fb JV z10 => ?_;have Ci:aR Mr R 14 (bM V) 37:=aP Fb;have A8:=gQ JV E9.ty;have Fu:=kR A8 Jq;have Ac:=Fa.cB JV (by omega);have⟨Cj,Ba⟩:=BM A8 Gt Gu;have Jk:=Ch.aaV JV (by omega);have Uc:=kR A8 Aa;have b18:=b17.then JV (.inr qK);refine aD (Wr (⟨.agg (aA 14 (bM V)),rV Tryz.results28 ⟨_,rfl,aT Ci.aH (by kernel_rfl) (by kernel_rfl)⟩,?_⟩));have hinv:Inv f.core (T+3660):=by rw[hc3]; exact(H9 hVs (d.inv o (by omega))).mono (by omega)
  have eRo:aN V=o:=by unfold aN; omega
  have hk3:f.s.known=aI (M.ml o).s.known o ((M.ml o).s.known o+1):=(L_ fA.known hc3).trans (by rw[yV I,eRo]; rfl);exact⟨V,rfl,hV,{ M with pl:=aI M.pl o t,ml:=aI M.ml o f,an:=M.an+1,aa:=some ⟨N,0,none⟩,ac:=ab,ev:=aI M.ev M.an V },{ c:=Uc,l:=Ba,a:=Jk,g:=Fu.put Cj,inv:=(fun i U=>by show Inv (aI M.ml o f i).core _; unfold aI; split; exact hinv; exact(d.inv i U).mono (by omega)),wf:=(fun k X=>by have hk2:k<M.an+1:=X; show gD (aI M.ev M.an V k); unfold aI; split; exact hV; exact d.wf k (by omega)),may:=(fun k X=>by have hk2:k<M.an+1:=X; show bR (aI M.ev M.an V k)=true; unfold aI; split; exact QW I; exact d.may k (by omega)),sm:=(fun k X=>by have hk2:k<M.an+1:=X; show oI (aI M.ev M.an V k); unfold aI; split; exact hVs; exact d.sm k (by omega)),cz:=d.cz.event (o:=o) (by omega) (jh I) eRo hVd.2.2 (fun q u=>by show(aI M.ml o f q).s.known=_; unfold aI; rw[b_ u]) (by show(aI M.ml o f o).s.known=_; unfold aI; rw[d_ rfl]; exact hk3),pB:=hpB,n1:=hn1,n6:=hn6 },(by rw[<- Q]; exact⟨rfl,fun q u=>by show aI M.ml o f q=_; unfold aI; rw[b_ u],.inr ⟨H,rfl,rfl,I,by show(aI M.ml o f o).core=_; unfold aI; rw[d_ rfl]; exact hc3,hVd⟩⟩),A_ _,(fun u=>by rw[H]at u; cases u),b18,Zf.app wu b15.size⟩
 refine Lv aG (nC I)<|aD<|aM<|ay<|av (.agg (aA 14 (fun b=>if b<1 then au 0 else if b<8 then aC 0 else if b<9 then .int .u8 (0)else if b<10 then aC 0 else if b<12 then au 0 else aC 0)))<|eB EN 0 (h1:=(fun F _=>by show((fun b=>if b<1 then au 0 else if b<8 then aC 0 else if b<9 then .int .u8 (0)else if b<10 then aC 0 else if b<12 then au 0 else aC 0:Nat->Value) F).oneCell'=true; simp only[]; repeat (first|rfl|split))) fun Ms Uq Mv z11 => ?_
 have Ud:aR Ms R 14 (fun b=>if b<1 then au 0 else if b<8 then aC 0 else if b<9 then .int .u8 (0)else if b<10 then aC 0 else if b<12 then au 0 else aC 0) 37:=aP Uq;have EY:=gQ Mv EN.ty;have Ue:=kR EY Av;have acA:=zU.cB Mv FP;have Uf:=kR EY zV;have Ug:=DJ.cB Mv (by omega);have Qi:=kR EY Cb;have b19:=b12.then Mv (.inr qK);refine aD (Wr (sR (⟨.agg (aA 14 (fun b=>if b<1 then au 0 else if b<8 then aC 0 else if b<9 then .int .u8 (0)else if b<10 then aC 0 else if b<12 then au 0 else aC 0)),rV Tryz.results28 ⟨_,rfl,aT Ud.aH (by kernel_rfl) (by kernel_rfl)⟩,?_⟩)));have Ui:Fx.Own Ms B 29 1 (.slice M.la (M.n) (M.lc)) M.n (Gy M.pl):=Qi.fB (L_ (fun q=>Value.slice q M.n M.lc) K.symm);exact⟨zeroE,L_ (fun z=>Ending.returned (Value.agg z)) (Fx.dW (y:=bM zeroE) fun j W=>by rcases j with _|_|_|_|_|_|_|_|_|_|_|_|_|_|j <;> first|rfl|omega),F4,M,{ c:=Ue,l:=Ui,a:=acA,g:=Uf,inv:=fun i U=>(d.inv i U).mono (by omega),wf:=d.wf,may:=d.may,sm:=d.sm,cz:=d.cz,pB:=hpB,n1:=hn1,n6:=hn6 },⟨rfl,fun _ _=>rfl,.inl ⟨rfl,rfl,rfl,.inl rfl⟩⟩,by omega,(fun _=>rfl),b19,fun _ h => .inl h⟩
theorem aiw(M:WM)(B p T:Nat)(x:DW)(w:World)(c:ou w B p M T)(b:B<=w.heap.size)(hx:FX x)(m:M.an<=60)(l:T<=890000) :
 Calls Tryz.prog 28 #[(pt p),.agg (aA 9 (FY x))] w fun e w' => ∃ v,e = .returned (.agg (aA 14 (bM v)))/\gD v /\ ∃ a,ou w' B p a (T+3660)/\DoR (x.who % M.n) x M a v/\a.an<=M.an+1/\(x.meet=true->a.an=M.an)/\Below B w w' :=
 (aiv M B p T x w c b hx m l).mono fun _ _ ⟨v,d,f,a,g,h,i,j,k,_⟩=>⟨v,d,f,a,g,h,i,j,c.JI b k⟩
end Go.Proofs.YtcbedgfikejkoaaGreatDoor
namespace Go.Proofs.YtcbedgfikejkoaaGreatDoor
open Go.RowKit Go.WideShapes Go.ChangeShapes Go.Deep Rt
def VU:Value->Bool | .bool b=>b|_=>false
theorem LU.int{k:IntKind}{v:Value}(h:LU (some k) v):v = .int k (intOf v)/\(Lit.int k (intOf v)).wf=true:=by
 obtain⟨n,rfl,a⟩:=h; exact⟨rfl,a⟩
theorem LU.bool{v:Value}(h:LU none v):v = .bool (VU v):=by
 obtain⟨b,rfl⟩:=h; rfl
theorem wf_u8{n:Int}(h:(Lit.int .u8 n).wf=true):0<=n/\n<=255:=by simp[Lit.wf,IntKind.min,IntKind.max,IntKind.bits,IntKind.signed]at h; omega
theorem wf_u16{n:Int}(h:(Lit.int .u16 n).wf=true):0<=n/\n<=65535:=by simp[Lit.wf,IntKind.min,IntKind.max,IntKind.bits,IntKind.signed]at h; omega
theorem NR{n:Int}(h:(Lit.int .u8 n).wf=true) : ∃ m:Nat,n=(m:Int)/\m<=255:=by
 have:=wf_u8 h; exact⟨n.toNat,by omega,by omega⟩
theorem Fx.ny.congr{w:World}{a:Option Addr}{n s:Nat}{x y:Nat->Value}(h:Fx.ny w a n s x)(e : ∀ p,p<n*s->x p=y p):Fx.ny w a n s y:=fun f=>by
 obtain⟨b,j,d,g⟩:=h f;exact⟨b,j,d,fun i c=>by rw[<- e i c]; exact g i c⟩
def VW:List (Option IntKind) := [some .u8,none,some .u8,some .u8,some .u8,some .u8,some .u16,some .u8,some .u8]
def VX(X:Nat->Value):DW:=⟨(intOf (X 0)).toNat,VU (X 1),(intOf (X 2)).toNat,(intOf (X 3)).toNat,(intOf (X 4)).toNat,(intOf (X 5)).toNat,(intOf (X 6)).toNat,(intOf (X 7)).toNat,(intOf (X 8)).toNat⟩
theorem L8{X:Nat->Value}(h : ∀(j:Nat) (k:Option IntKind),VW[j]? = some k->LU k (X j)):FX (VX X) /\ ∀ j,j<9->X j=FY (VX X) j:=by
 have a : ∀ j,VW[j]? = some (some .u8)->X j = .int .u8 ((intOf (X j)).toNat:Int)/\(intOf (X j)).toNat<=255:=fun j d=>by
  obtain⟨e,b⟩:=(h j _ d).int;have:=wf_u8 b;exact⟨by rw[Int.toNat_of_nonneg this.1]; exact e,by omega⟩
 have c:X 6 = .int .u16 ((intOf (X 6)).toNat:Int)/\(intOf (X 6)).toNat<=65535:=by
  obtain⟨e,b⟩:=(h 6 (some .u16) rfl).int;have:=wf_u16 b;exact⟨by rw[Int.toNat_of_nonneg this.1]; exact e,by omega⟩
 refine⟨⟨(a 0 rfl).2,(a 2 rfl).2,(a 3 rfl).2,(a 4 rfl).2,(a 5 rfl).2,c.2,(a 7 rfl).2,(a 8 rfl).2⟩,fun j d => ?_⟩
 rcases j with _|_|_|_|_|_|_|_|_|j
 ·exact(a 0 rfl).1
 ·exact(h 1 none rfl).bool
 ·exact(a 2 rfl).1
 ·exact(a 3 rfl).1
 ·exact(a 4 rfl).1
 ·exact(a 5 rfl).1
 ·exact c.1
 ·exact(a 7 rfl).1
 ·exact(a 8 rfl).1
 omega
section
variable {H:Type} {enc:TypeId × Value->H} {P:Program} {w:World}
theorem QX{t e:TypeId}{a:Option Addr}{len cap D:Nat}{d:DataW H}{r:List MemPlace}(q:P.underlying t=some (.slice e))(b:wT P D e=some VW)(l:P.cellsOf e=9)
 (h:DataW.Trod enc P w 0 (fun _=>true) true t (.slice a len cap) d r) : ∃ g:Nat->DW,(∀ i,i<len->FX (g i))/\Fx.ny w a len 9 (Fx.flat 9 fun k=>FY (g k)):=by
 obtain⟨v,n⟩:=h;obtain⟨s,x,u,f,_,_,X,c,m⟩:=QV q b l (by decide) n;simp[Value.cells]at f;obtain⟨rfl,rfl,rfl⟩:=f;exact⟨fun i=>VX (X i),fun i o=>(L8 (c i o)).1,m.congr (Fx.bJ fun k b j p=>(L8 (c k b)).2 j p)⟩
end
theorem bdU{n:Int}(h:(Lit.int .u64 n).wf=true):iP n:=by have:=aee h; unfold iP; omega
theorem bdI{n:Int}(h:(Lit.int .i64 n).wf=true):oZ n:=by have:=VJ h; unfold oZ; omega
end Go.Proofs.YtcbedgfikejkoaaGreatDoor
namespace Go.Proofs.YtcbedgfikejkoaaGreatDoor
open Go.RowKit Rt
open Fx (bf dX iX Lv sN Ln Ws Wl Wr Sb Wk rV sR Rs Rn Rd Wb Wx Wo Ao gQ nk zO rv aA aR bC aO ev Stp aP flat aT iM iN bE dD bK bP bW bX gP iq pK fO)
theorem aix{B:Nat}{a b c:World}(h:Below a.heap.size a b)(e:Below B b c)(d:a.heap.size<=B):Below a.heap.size a c:=h.trans (e.mono d)
theorem sM.I9{w w':World}{B p:Nat}{m:kr}{e:List TypeId}(h:sM w B p m)(b:Fx.Aq e w w')(k:(KR.all fun T => !e.contains T)=true):sM w' B p m:=by
 have a : ∀ d∈KR,e.contains d=false:=fun d f=>by
  have:=List.all_eq_true.1 k d f
  simpa using this
 exact { h with
  c:=h.c.I9 b (a _ (by decide)),n:=h.n.I9 b (a _ (by decide)),g:=h.g.I9 b (a _ (by decide)),tc:=h.tc.I9 b (a _ (by decide)),t:=h.t.I9 b (a _ (by decide)),r:=⟨fun i j=>(h.r.1 i j).I9 b (a _ (by decide)),h.r.2⟩ }
theorem Zg(m:kr)(p:Nat)(i x:Int)(w:World)(h:BG w p m) :
 Calls Tryz.prog 34 #[(pt p),au i,aC x] w fun e w'=>e = .returned (au (eP m.core x i))/\Below w.heap.size w w':=by
 have j:=h.c;have lp:p<w.heap.size:=j.lt (by omega);have C:=h.bn;have B:=h.bg;have D:=h.bt;refine Kent Tryz.func34 24 ?_;refine ay<|av (au 0)<|aD<|ay<|av (pt p)<|av (aC x)<|dK (EU m p x _ h) _ rfl ?_;intro F t;have⟨z,d⟩:=eO t j (Below.refl w.heap.size w);refine av (au (m.node x))<|aD<|Ws<|ay<|av (au (m.node x)) ?_;by_cases a:(m.node x)<0
 ·refine Lv aG (gJ a)<|aD<|aM<|ay<|av (au 0)<|aD<|Wr<|sR<|aJ (au 0) ?_;exact⟨oV (by unfold eP; rw[d_ (show m.core.node x<0 from a)]),d⟩
 refine Lv aF (gK a)<|aD<|aK<|Wk<|sN<|Ws ?_;obtain⟨q,v,r,E⟩:=Bd (m:=m) (x:=x) (by omega);have f:m.node x=(q:Int):=r;obtain⟨b,k,o,g⟩:=h.n q v;have y:b<w.heap.size:=g.lt (by omega);have A:=g.below d y;refine Wl<|av (pt p)<|av (pt p)<|av (pt p)<|av (pf p 18)<|Lv (.slice m.s.na (m.s.nn) (m.s.nc)) (aL z 18)<|aX (L_ (Value.int .i64) f)<|Lv (pf b (k+56*q)) (cO 56 (hx:=(rfl.trans (L_ (fun q=>Value.slice q (m.s.nn) (m.s.nc)) o))))<|av (pf b (k+56*q+2))<|Lv (.agg (aA 54 (rv .i64 (m.R q)))) (fC A 2 (fun q _=>Ea _ _ _ q))<|av (au i)<|dK (Qq (m.R q) i _) _ rfl ?_;intro G u;have l:=bB u d;refine av (au (eF (m.R q) i))<|aD<|Wr<|aJ (au (eF (m.R q) i)) ?_;exact⟨oV (by unfold eP; rw[b_ (show ¬ m.core.node x<0 from a),show(m.core.node x).toNat=q by show(m.node x).toNat=q; rw[f]; rfl]; rfl),l⟩
section
namespace Rt
structure Ab where
 inn:Nat->Bool
 left:Nat->Bool
 own:Nat->Int
 has:Int->Bool
 par:Int->Int
 R:Int->Nat->Int
 gh:Int->Int->Bool
 g:Int->Int->Nat->Int
 ask:Int->Int->Bool
def Ab.up(A:Ab)(x:Int):Nat->Int
 | 0=>x
 | i+1=>A.par (A.up x i)
def Ab.on(A:Ab)(x y:Int):Bool:=A.has y&&(List.range 6).any fun i=>decide (A.up x i=y)
def qY(v:EvM):Int:=jk v.o v.seq
def aV(v:EvM):Nat:=(v.o-1).toNat
def dV(v:EvM):Nat:=(v.dst-1).toNat
def Ab.dl(A:Ab)(v:EvM)(y:Int)(p:Nat):Int :=
 if v.kind=1 then(if y=qY v/\p=aV v then v.aQ else 0)
 else if v.kind=2 then(if y=v.node/\p=aV v then v.aQ else 0)
 else if v.kind=3 then(if A.on v.node y=true/\p=6+aV v then v.aQ else 0)
 else if v.kind=4 then(if A.on (A.g v.o v.of 2) y=true/\p=12+aV v then A.g v.o v.of 3 else 0)
 else if v.kind=5 then(if y=v.node/\p=18+(6*aV v+dV v)then v.aQ else 0)
 else 0
def Ab.qR(A:Ab)(v:EvM):Ab where
 inn:=fun j=>A.inn j || (decide (v.kind=6)&&decide (j=dV v))
 left:=fun j=>A.left j || (decide (v.kind=7)&&decide (j=aV v))
 own:=fun j=>A.own j+if v.kind=1/\j=aV v then 1 else 0
 has:=fun y=>A.has y || (decide (v.kind=1)&&decide (y=qY v))
 par:=fun y=>if v.kind=1/\y=qY v then v.node else A.par y
 R:=fun y p=>A.R y p+A.dl v y p
 gh:=fun o r=>A.gh o r || (decide (v.kind=3)&&(decide (o=v.o)&&decide (r=v.req)))
 g:=fun o r j=>if v.kind=3/\o=v.o/\r=v.req then(if j=2 then v.node else if j=3 then v.aQ else 0)else if v.kind=4/\o=v.o/\r=v.of/\j=4 then v.req else A.g o r j
 ask:=fun o r=>A.ask o r || ((decide (v.kind=3) || decide (v.kind=4))&&(decide (o=v.o)&&decide (r=v.req)))
structure Ab.Ok(A:Ab):Prop where
 z:A.has 0=false
 p : ∀ y,A.has y=true->A.par y=0\/A.has (A.par y)=true
 p0 : ∀ y,A.has y=false->A.par y=0
 g : ∀ o r,A.gh o r=true->A.has (A.g o r 2)=true
 r0 : ∀ y p,A.has y=false->A.R y p=0
structure Ab.Pre(A:Ab)(v:EvM):Prop where
 n1:v.kind=1->A.has (qY v)=false/\qY v≠0/\(v.node=0\/A.has v.node=true)
 n2:v.kind=2->A.has v.node=true
 n3:v.kind=3->A.has v.node=true/\A.gh v.o v.req=false
 n4:v.kind=4->A.gh v.o v.of=true
 n5:v.kind=5->A.has v.node=true
section
variable {A B:Ab} {u v:EvM} {y:Int}
theorem Ab.Iw(h:A.Ok){x:Int}(hx:A.has x=true) : ∀ i,A.up x i=0\/A.has (A.up x i)=true
 | 0 => .inr hx
 | i+1=>by
   show A.par (A.up x i)=0\/A.has (A.par (A.up x i))=true
   rcases Ab.Iw h hx i with e|e
   ·left; rw[e]; exact h.p0 0 h.z
   ·exact h.p _ e
theorem Ab.Bv(hy:A.has y=true):(A.qR v).has y=true:=by show(A.has y || _)=true; rw[hy]; rfl
theorem Ab.Pt(c:A.Pre v)(hy:A.has y=true):(A.qR v).par y=A.par y:=by
 show(if v.kind=1/\y=qY v then v.node else A.par y)=A.par y;rw[b_];rintro ⟨a,b⟩;have:=(c.n1 a).1;rw[<- b,hy]at this; cases this
theorem Ab.VY(c:A.Pre v):(A.qR v).par 0=A.par 0:=by
 show(if v.kind=1/\(0:Int)=qY v then v.node else A.par 0)=A.par 0;rw[b_];rintro ⟨a,b⟩;exact(c.n1 a).2.1 b.symm
theorem Ab.VZ(h:A.Ok)(a:A.Pre v){x:Int}(hx:A.has x=true) : ∀ i,(A.qR v).up x i=A.up x i
 | 0=>rfl
 | i+1=>by
   show(A.qR v).par ((A.qR v).up x i)=A.par (A.up x i);rw[Ab.VZ h a hx i]
   rcases Ab.Iw h hx i with e|e
   ·rw[e]; exact Ab.VY a
   ·exact Ab.Pt a e
theorem Ab.V4(h:A.Ok)(b:A.Pre v){x:Int}(hx:A.has x=true)(y:Int):(A.qR v).on x y=A.on x y:=by
 unfold Ab.on;have e:((List.range 6).any fun i=>decide ((A.qR v).up x i=y))=((List.range 6).any fun i=>decide (A.up x i=y)):=by
  congr 1; funext i; rw[Ab.VZ h b hx i]
 rw[e]
 cases hc:(List.range 6).any fun i=>decide (A.up x i=y)
 ·rw[I_,I_]
 rw[Bool.and_true,Bool.and_true];obtain⟨i,_,a⟩:=List.any_eq_true.1 hc;have a:=h_ a;show(A.has y || (decide (v.kind=1)&&decide (y=qY v)))=A.has y
 cases hy:A.has y
 ·rcases Ab.Iw h hx i with e0|e0
  ·rw[a]at e0
   cases c1:decide (v.kind=1)
   ·rfl
   have:=(b.n1 (h_ c1)).2.1;rw[g_ (show ¬ y=qY v by rw[e0]; exact fun q=>this q.symm)]; rfl
  rw[a,hy]at e0; cases e0
 rfl
theorem Ab.L9(f:A.Pre v){o r:Int}(d:A.gh o r=true)(j:Nat)(e:j≠4):(A.qR v).g o r j=A.g o r j:=by
 show(if v.kind=3/\o=v.o/\r=v.req then(if j=2 then v.node else if j=3 then v.aQ else 0)else if v.kind=4/\o=v.o/\r=v.of/\j=4 then v.req else A.g o r j)=A.g o r j;rw[b_,b_]
 ·exact fun q=>e q.2.2.2
 rintro ⟨a,b,c⟩;have:=(f.n3 a).2;rw[<- b,<- c,d]at this; cases this
theorem Ab.aeo{o r:Int}(a:A.gh o r=true):(A.qR v).gh o r=true:=by show(A.gh o r || _)=true; rw[a]; rfl
theorem Ab.aep(h:A.Ok)(b:A.Pre v):(A.qR v).Ok where
 z:=by
  show(A.has 0 || (decide (v.kind=1)&&decide ((0:Int)=qY v)))=false;rw[h.z,Bool.false_or]
  cases c1:decide (v.kind=1)
  ·rfl
  ·rw[g_ (fun q=>(b.n1 (h_ c1)).2.1 q.symm)]; rfl
 p:=fun y a=>by
  have a:(A.has y || (decide (v.kind=1)&&decide (y=qY v)))=true:=a;show(if v.kind=1/\y=qY v then v.node else A.par y)=0\/(A.qR v).has (if v.kind=1/\y=qY v then v.node else A.par y)=true;by_cases c:v.kind=1/\y=qY v
  ·rw[d_ c];exact(b.n1 c.1).2.2.imp id Ab.Bv
  ·rw[b_ c];have u:A.has y=true:=by
    rcases Bool.or_eq_true_iff.1 a with q|q
    ·exact q
    ·rw[S_]at q; exact M_ ⟨h_ q.1,h_ q.2⟩ c
   exact(h.p y u).imp id Ab.Bv
 p0:=fun y a=>by
  have a:(A.has y || (decide (v.kind=1)&&decide (y=qY v)))=false:=a;rw[Bool.or_eq_false_iff]at a;show(if v.kind=1/\y=qY v then v.node else A.par y)=0;rw[b_]
  ·exact h.p0 y a.1
  ·rintro ⟨s,t⟩;rw[f_ s,f_ t]at a; cases a.2
 g:=fun o r d=>by
  have d:(A.gh o r || (decide (v.kind=3)&&(decide (o=v.o)&&decide (r=v.req))))=true:=d;by_cases c:v.kind=3/\o=v.o/\r=v.req
  ·have:(A.qR v).g o r 2=v.node:=(by show(if v.kind=3/\o=v.o/\r=v.req then _ else _)=v.node; rw[d_ c]; rfl);rw[this]; exact Ab.Bv (b.n3 c.1).1
  ·have k:A.gh o r=true:=by
    rcases Bool.or_eq_true_iff.1 d with q|q
    ·exact q
    ·rw[S_,S_]at q; exact M_ ⟨h_ q.1,h_ q.2.1,h_ q.2.2⟩ c
   rw[Ab.L9 b k 2 (by decide)];exact Ab.Bv (h.g o r k)
 r0:=fun y p a=>by
  have a:(A.has y || (decide (v.kind=1)&&decide (y=qY v)))=false:=a;rw[Bool.or_eq_false_iff]at a;show A.R y p+A.dl v y p=0;rw[h.r0 y p a.1,Int.zero_add];have l : ∀ x,A.on x y=false:=fun x=>by unfold Ab.on; rw[a.1]; rfl
  unfold Ab.dl;by_cases f:v.kind=1
  ·rw[d_ f,b_];rintro ⟨e,_⟩; rw[f_ f,f_ e]at a; cases a.2
  rw[b_ f];by_cases i:v.kind=2
  ·rw[d_ i,b_];rintro ⟨e,_⟩; rw[e,b.n2 i]at a; cases a.1
  rw[b_ i];by_cases m:v.kind=3
  ·rw[d_ m,b_]; rw[l]; exact fun q=>by cases q.1
  rw[b_ m];by_cases n:v.kind=4
  ·rw[d_ n,b_]; rw[l]; exact fun q=>by cases q.1
  rw[b_ n];by_cases j:v.kind=5
  ·rw[d_ j,b_];rintro ⟨e,_⟩; rw[e,b.n5 j]at a; cases a.1
  rw[b_ j]
theorem Ab.V6(h:A.Ok)(c:A.Pre u)(i:A.Pre v)(y:Int)(p:Nat):(A.qR u).dl v y p=A.dl v y p:=by
 unfold Ab.dl;by_cases d:v.kind=1
 ·rw[d_ d,d_ d]
 rw[b_ d,b_ d];by_cases e:v.kind=2
 ·rw[d_ e,d_ e]
 rw[b_ e,b_ e];by_cases a:v.kind=3
 ·rw[d_ a,d_ a,Ab.V4 h c (i.n3 a).1]
 rw[b_ a,b_ a];by_cases b:v.kind=4
 ·have f:=i.n4 b;rw[d_ b,d_ b,Ab.L9 c f 2 (by decide),Ab.L9 c f 3 (by decide),Ab.V4 h c (h.g _ _ f)]
 rw[b_ b,b_ b]
theorem Ab.QY(h1:A.inn=B.inn)(a:A.left=B.left)(b:A.own=B.own)(c:A.has=B.has)(d:A.par=B.par)(e:A.R=B.R)(f:A.gh=B.gh)(h:A.g=B.g)(i:A.ask=B.ask):A=B:=by
 cases A; cases B; simp only at h1 a b c d e f h i; subst h1 a b c d e f h i; rfl
theorem Ab.V7(h:A.Ok)(b:A.Pre u)(d:A.Pre v)(k:u.o≠v.o)(i:u.kind=1->v.kind=1->qY u≠qY v):(A.qR u).qR v=(A.qR v).qR u:=by
 apply Ab.QY
 ·funext j; exact Bool.or_right_comm _ _ _
 ·funext j; exact Bool.or_right_comm _ _ _
 ·funext j; exact Int.add_right_comm _ _ _
 ·funext y; exact Bool.or_right_comm _ _ _
 ·funext y
  show(if v.kind=1/\y=qY v then v.node else if u.kind=1/\y=qY u then u.node else A.par y)=(if u.kind=1/\y=qY u then u.node else if v.kind=1/\y=qY v then v.node else A.par y);by_cases c:v.kind=1/\y=qY v
  ·rw[d_ c,d_ c,b_];rintro ⟨e,f⟩;exact i e c.1 (f.symm.trans c.2)
  rw[b_ c,b_ c]
 ·funext y p
  show A.R y p+A.dl u y p+(A.qR u).dl v y p=A.R y p+A.dl v y p+(A.qR v).dl u y p;rw[Ab.V6 h b d,Ab.V6 h d b,Int.add_right_comm]
 ·funext o r; exact Bool.or_right_comm _ _ _
 ·funext o r j
  show(if v.kind=3/\o=v.o/\r=v.req then _ else if v.kind=4/\o=v.o/\r=v.of/\j=4 then v.req else if u.kind=3/\o=u.o/\r=u.req then _ else if u.kind=4/\o=u.o/\r=u.of/\j=4 then u.req else A.g o r j) =
   (if u.kind=3/\o=u.o/\r=u.req then _ else if u.kind=4/\o=u.o/\r=u.of/\j=4 then u.req else if v.kind=3/\o=v.o/\r=v.req then _ else if v.kind=4/\o=v.o/\r=v.of/\j=4 then v.req else A.g o r j)
  by_cases c:o=v.o
  ·have a : ¬ o=u.o:=fun q=>k (q.symm.trans c);rw[b_ (show ¬ (u.kind=3/\o=u.o/\r=u.req)from fun q=>a q.2.1),b_ (show ¬ (u.kind=4/\o=u.o/\r=u.of/\j=4)from fun q=>a q.2.1),b_ (show ¬ (u.kind=3/\o=u.o/\r=u.req)from fun q=>a q.2.1),b_ (show ¬ (u.kind=4/\o=u.o/\r=u.of/\j=4)from fun q=>a q.2.1)]
  rw[b_ (show ¬ (v.kind=3/\o=v.o/\r=v.req)from fun q=>c q.2.1),b_ (show ¬ (v.kind=4/\o=v.o/\r=v.of/\j=4)from fun q=>c q.2.1),b_ (show ¬ (v.kind=3/\o=v.o/\r=v.req)from fun q=>c q.2.1),b_ (show ¬ (v.kind=4/\o=v.o/\r=v.of/\j=4)from fun q=>c q.2.1)]
 funext o r; exact Bool.or_right_comm _ _ _
end
end Rt
end
section
namespace Rt
def CO(x:Nat->Int)(a:Nat):Int:=x a-x (6+a)+x (12+a)+(x (18+(6*0+a))+x (18+(6*1+a))+x (18+(6*2+a))+x (18+(6*3+a))+x (18+(6*4+a))+x (18+(6*5+a)))-(x (18+(6*a+0))+x (18+(6*a+1))+x (18+(6*a+2))+x (18+(6*a+3))+x (18+(6*a+4))+x (18+(6*a+5)))
structure Ab.QZ(A:Ab)(v:EvM):Prop where
 inn:A.inn (aV v)=true
 left:A.left (aV v)=false
 pre:A.Pre v
 k1:v.kind=1->A.own (aV v)<5/\v.aQ<=140737488355328 /\ ¬ ∀ i,i<4->A.has (A.up v.node i)=true
 k2:v.kind=2->A.R v.node (aV v)+v.aQ<=140737488355328
 k3:v.kind=3->A.ask v.o v.req=false /\ ∀ y,A.on v.node y=true->v.aQ<=CO (A.R y) (aV v)
 k4:v.kind=4->A.ask v.o v.req=false/\A.g v.o v.of 4=0 /\ ∀ y,A.on (A.g v.o v.of 2) y=true->A.g v.o v.of 3<=A.R y (6+aV v)-A.R y (12+aV v)
 k5:v.kind=5->A.inn (dV v)=true/\v.aQ<=CO (A.R v.node) (aV v)
def aiy(a p:Nat):Prop:=p=a\/p=6+a\/p=12+a \/ ∃ k,k<6/\p=18+(6*a+k)
structure Ab.Le(A B:Ab)(a:Nat):Prop where
 inn : ∀ j,A.inn j=true->B.inn j=true
 left:B.left a=A.left a
 own:B.own a=A.own a
 has : ∀ y,A.has y=true->B.has y=true
 hid : ∀ s,1<=s/\s<1099511627776->B.has (jk ((a:Int)+1) s)=A.has (jk ((a:Int)+1) s)
 par : ∀ y,A.has y=true->B.par y=A.par y
 R1 : ∀ y p,A.has y=true->aiy a p->B.R y p=A.R y p
 R2 : ∀ y k,A.has y=true->k<6->A.R y (18+(6*k+a))<=B.R y (18+(6*k+a))
 gh : ∀ o r,A.gh o r=true->B.gh o r=true /\ ∀ j,j≠4->B.g o r j=A.g o r j
 gho : ∀ r,B.gh ((a:Int)+1) r=A.gh ((a:Int)+1) r
 go : ∀ r,B.g ((a:Int)+1) r 4=A.g ((a:Int)+1) r 4
 ask : ∀ r,B.ask ((a:Int)+1) r=A.ask ((a:Int)+1) r
structure ME(v:EvM):Prop where
 o:1<=v.o/\v.o<=6
 seq:1<=v.seq/\v.seq<1099511627776
 aQ:0<=v.aQ
 dst:v.kind=5->1<=v.dst/\v.dst<=6
section
variable {A B:Ab} {u v:EvM} {a:Nat} {x y:Int}
theorem ME.reg(h:ME v):v.o=(aV v:Int)+1/\aV v<6:=by have:=h.o; unfold aV; omega
theorem ME.id(h:ME v):qY v=1099511627776*v.o+v.seq:=by
 unfold qY jk; rw[d_ ⟨h.o.1,h.o.2,h.seq.1,h.seq.2⟩]
theorem ME.ne(a:ME u)(b:ME v)(h:u.o≠v.o):qY u≠qY v:=by
 rw[a.id,b.id]; have:=a.seq; have:=b.seq; have:=a.o; have:=b.o; omega
theorem Ab.Le.refl(A:Ab)(a:Nat):A.Le A a:=⟨fun _ h=>h,rfl,rfl,fun _ h=>h,fun _ _=>rfl,fun _ _=>rfl,fun _ _ _ _=>rfl,fun _ _ _ _=>N_ _,fun _ _ h=>⟨h,fun _ _=>rfl⟩,fun _=>rfl,fun _=>rfl,fun _=>rfl⟩
theorem Ab.Le.up(h:A.Le B a)(b:A.Ok)(c:B.Ok)(hx:A.has x=true) : ∀ i,B.up x i=A.up x i
 | 0=>rfl
 | i+1=>by
   show B.par (B.up x i)=A.par (A.up x i);rw[h.up b c hx i]
   rcases Ab.Iw b hx i with e|e
   ·rw[e,b.p0 0 b.z,c.p0 0 c.z]
   ·exact h.par _ e
theorem Ab.Le.on(h:A.Le B a)(c:A.Ok)(d:B.Ok)(hx:A.has x=true)(y:Int):B.on x y=A.on x y:=by
 unfold Ab.on;have e:((List.range 6).any fun i=>decide (B.up x i=y))=((List.range 6).any fun i=>decide (A.up x i=y)):=by
  congr 1; funext i; rw[h.up c d hx i]
 rw[e]
 cases hc:(List.range 6).any fun i=>decide (A.up x i=y)
 ·rw[I_,I_]
 rw[Bool.and_true,Bool.and_true];obtain⟨i,_,b⟩:=List.any_eq_true.1 hc;have b:=h_ b
 rcases Ab.Iw c hx i with e0|e0
 ·rw[b]at e0; rw[e0,c.z,d.z]
 rw[b]at e0; rw[e0,h.has _ e0]
theorem Ab.NS(h:A.on x y=true):A.has y=true:=by unfold Ab.on at h; rw[S_]at h; exact h.1
theorem Ab.Le.loc(h:A.Le B a)(ha:a<6)(hy:A.has y=true):CO (A.R y) a<=CO (B.R y) a:=by
 have o : ∀ k,k<6->B.R y (18+(6*a+k))=A.R y (18+(6*a+k)):=fun k b=>h.R1 y _ hy (.inr (.inr (.inr ⟨k,b,rfl⟩)));unfold CO;rw[h.R1 y a hy (.inl rfl),h.R1 y (6+a) hy (.inr (.inl rfl)),h.R1 y (12+a) hy (.inr (.inr (.inl rfl))),o 0 (by omega),o 1 (by omega),o 2 (by omega),o 3 (by omega),o 4 (by omega),o 5 (by omega)];have:=h.R2 y 0 hy (by omega); have:=h.R2 y 1 hy (by omega); have:=h.R2 y 2 hy (by omega); have:=h.R2 y 3 hy (by omega); have:=h.R2 y 4 hy (by omega); have:=h.R2 y 5 hy (by omega);omega
theorem Ab.Le.okE(h:A.Le B (aV v))(l:A.Ok)(m:B.Ok)(t:ME v)(a:A.QZ v):B.QZ v:=by
 obtain⟨c,p⟩:=t.reg;have P:=a.pre;have w : ∀ r,B.gh v.o r=A.gh v.o r:=fun r=>by rw[c]; exact h.gho r
 have s : ∀ r,B.ask v.o r=A.ask v.o r:=fun r=>by rw[c]; exact h.ask r
 refine⟨h.inn _ a.inn,h.left.trans a.left,⟨fun k => ?_,fun k=>h.has _ (P.n2 k),fun k=>⟨h.has _ (P.n3 k).1,(w _).trans (P.n3 k).2⟩,fun k=>(w _).trans (P.n4 k),fun k=>h.has _ (P.n5 k)⟩,fun k => ?_,fun k => ?_,fun k => ?_,fun k => ?_,fun k=>⟨h.inn _ (a.k5 k).1,R_ (a.k5 k).2 (h.loc p (P.n5 k))⟩⟩
 ·obtain⟨d,f,j⟩:=P.n1 k;refine⟨?_,f,j.imp (fun q=>q) (h.has _)⟩;have:=h.hid v.seq t.seq;rw[<- c]at this;exact this.trans d
 ·obtain⟨d,f,j⟩:=a.k1 k;refine⟨by rw[h.own]; exact d,f,fun q=>j fun i x => ?_⟩;have n:=q i x
  rcases(P.n1 k).2.2 with e|e
  ·exfalso;have:B.up v.node 0=0:=e;have:=q 0 (by omega);rw[‹B.up v.node 0=0›,m.z]at this; cases this
  rw[h.up l m e i]at n
  rcases Ab.Iw l e i with e0|e0
  ·rw[e0,m.z]at n; cases n
  exact e0
 ·rw[h.R1 _ _ (P.n2 k) (.inl rfl)]; exact a.k2 k
 ·refine⟨(s _).trans (a.k3 k).1,fun y b => ?_⟩;rw[h.on l m (P.n3 k).1]at b;exact R_ ((a.k3 k).2 y b) (h.loc p (Ab.NS b))
 obtain⟨d,f,j⟩:=a.k4 k;have u:=(h.gh _ _ (P.n4 k)).2;refine⟨(s _).trans d,by rw[c,h.go,<- c]; exact f,fun y b => ?_⟩;rw[u 2 (by decide),h.on l m (l.g _ _ (P.n4 k))]at b;rw[u 3 (by decide),h.R1 _ _ (Ab.NS b) (.inr (.inl rfl)),h.R1 _ _ (Ab.NS b) (.inr (.inr (.inl rfl)))];exact j y b
end
end Rt
end
section
namespace Rt
section
variable {A B:Ab} {u v:EvM} {a:Nat} {x y:Int}
theorem Ab.Le.dl(h:A.Le B a)(f:A.Ok)(j:B.Ok)(i:A.Pre u)(y:Int)(p:Nat):B.dl u y p=A.dl u y p:=by
 unfold Ab.dl;by_cases d:u.kind=1
 ·rw[d_ d,d_ d]
 rw[b_ d,b_ d];by_cases e:u.kind=2
 ·rw[d_ e,d_ e]
 rw[b_ e,b_ e];by_cases c:u.kind=3
 ·rw[d_ c,d_ c,h.on f j (i.n3 c).1]
 rw[b_ c,b_ c];by_cases b:u.kind=4
 ·have k:=h.gh _ _ (i.n4 b);rw[d_ b,d_ b,k.2 2 (by decide),k.2 3 (by decide),h.on f j (f.g _ _ (i.n4 b))]
 rw[b_ b,b_ b]
theorem or_mono{p q c:Bool}(h:p=true->q=true)(a:(p || c)=true):(q || c)=true:=by
 cases c
 ·rw[H_]at a ⊢; exact h a
 rw[Bool.or_true]
theorem Ab.Le.both(h:A.Le B a)(f:A.Ok)(i:B.Ok)(n:A.Pre u)(w:B.Pre u):(A.qR u).Le (B.qR u) a:=by
 have m : ∀ y,(A.qR u).has y=true->A.has y=true\/(A.has y=false/\B.has y=false/\u.kind=1/\y=qY u):=fun y b=>by
  have b:(A.has y || (decide (u.kind=1)&&decide (y=qY u)))=true:=b
  cases hc:A.has y
  ·right;rw[hc,Bool.false_or,S_]at b;have k:=h_ b.1; have e:=h_ b.2;exact⟨rfl,e ▸ (w.n1 k).1,k,e⟩
  ·exact .inl rfl
 refine⟨fun j d=>or_mono (h.inn j) d,?_,?_,fun y b=>or_mono (h.has y) b,fun s x => ?_,fun y b => ?_,fun y p b v => ?_,fun y k b t => ?_,fun o r l=>⟨or_mono (fun q=>(h.gh o r q).1) l,fun j d => ?_⟩,fun r => ?_,fun r => ?_,fun r => ?_⟩
 ·show(B.left a || _)=(A.left a || _); rw[h.left]
 ·show B.own a+_=A.own a+_; rw[h.own]
 ·show(B.has _ || _)=(A.has _ || _); rw[h.hid s x]
 ·show(if u.kind=1/\y=qY u then u.node else B.par y)=(if u.kind=1/\y=qY u then u.node else A.par y)
  rcases m y b with q|⟨_,_,k,e⟩
  ·rw[h.par y q]
  rw[d_ ⟨k,e⟩,d_ ⟨k,e⟩]
 ·show B.R y p+B.dl u y p=A.R y p+A.dl u y p;rw[h.dl f i n]
  rcases m y b with q|⟨q1,q2,_,_⟩
  ·rw[h.R1 y p q v]
  rw[f.r0 y p q1,i.r0 y p q2]
 ·show A.R y _+A.dl u y _<=B.R y _+B.dl u y _;rw[h.dl f i n]
  rcases m y b with q|⟨q1,q2,_,_⟩
  ·have:=h.R2 y k q t; omega
  rw[f.r0 y _ q1,i.r0 y _ q2]; exact N_ _
 ·show(if u.kind=3/\o=u.o/\r=u.req then(if j=2 then u.node else if j=3 then u.aQ else 0)else if u.kind=4/\o=u.o/\r=u.of/\j=4 then u.req else B.g o r j)=(if u.kind=3/\o=u.o/\r=u.req then(if j=2 then u.node else if j=3 then u.aQ else 0)else if u.kind=4/\o=u.o/\r=u.of/\j=4 then u.req else A.g o r j);by_cases c:u.kind=3/\o=u.o/\r=u.req
  ·rw[d_ c,d_ c]
  rw[b_ c,b_ c,b_ (show ¬ (u.kind=4/\o=u.o/\r=u.of/\j=4)from fun q=>d q.2.2.2),b_ (show ¬ (u.kind=4/\o=u.o/\r=u.of/\j=4)from fun q=>d q.2.2.2)];have l:(A.gh o r || (decide (u.kind=3)&&(decide (o=u.o)&&decide (r=u.req))))=true:=l
  rcases Bool.or_eq_true_iff.1 l with q|q
  ·exact(h.gh o r q).2 j d
  rw[S_,S_]at q; exact M_ ⟨h_ q.1,h_ q.2.1,h_ q.2.2⟩ c
 ·show(B.gh _ r || _)=(A.gh _ r || _); rw[h.gho r]
 ·show(if u.kind=3/\(a:Int)+1=u.o/\r=u.req then(if 4=2 then u.node else if 4=3 then u.aQ else 0)else if u.kind=4/\(a:Int)+1=u.o/\r=u.of/\4=4 then u.req else B.g _ r 4)=(if u.kind=3/\(a:Int)+1=u.o/\r=u.req then(if 4=2 then u.node else if 4=3 then u.aQ else 0)else if u.kind=4/\(a:Int)+1=u.o/\r=u.of/\4=4 then u.req else A.g _ r 4);rw[h.go r]
 show(B.ask _ r || _)=(A.ask _ r || _); rw[h.ask r]
theorem Ab.aer(d:ME u)(r:aV u≠a)(ha:a<6){p:Nat}(b:aiy a p)(y:Int):A.dl u y p=0:=by
 obtain⟨n,s⟩:=d.reg;have j:p≠aV u:=by rcases b with e|e|e|⟨k,hk,e⟩ <;> omega
 have l:p≠6+aV u:=by rcases b with e|e|e|⟨k,hk,e⟩ <;> omega
 have m:p≠12+aV u:=by rcases b with e|e|e|⟨k,hk,e⟩ <;> omega
 unfold Ab.dl;by_cases f:u.kind=1
 ·rw[d_ f,b_ fun q=>j q.2]
 rw[b_ f];by_cases g:u.kind=2
 ·rw[d_ g,b_ fun q=>j q.2]
 rw[b_ g];by_cases h:u.kind=3
 ·rw[d_ h,b_ fun q=>l q.2]
 rw[b_ h];by_cases i:u.kind=4
 ·rw[d_ i,b_ fun q=>m q.2]
 rw[b_ i];by_cases c:u.kind=5
 ·have o:=d.dst c;rw[d_ c,b_];rintro ⟨_,q⟩;unfold dV at q
  rcases b with e|e|e|⟨k,hk,e⟩ <;> omega
 rw[b_ c]
theorem Ab.aiz(a:ME u){p:Nat}(d:18<=p)(y:Int):0<=A.dl u y p:=by
 obtain⟨b,e⟩:=a.reg;have c:=a.aQ;unfold Ab.dl;split
 ·split <;> omega
 split
 ·split <;> omega
 split
 ·split <;> omega
 split
 ·rw[b_ fun q=>by omega]; omega
 split
 ·split <;> omega
 omega
theorem Ab.Le.step(h:A.Le B a)(x:B.Ok)(c:ME u)(m:B.Pre u)(e:aV u≠a)(ha:a<6):A.Le (B.qR u) a:=by
 obtain⟨w,z⟩:=c.reg;have no : ¬ (a:Int)+1=u.o:=by omega
 refine⟨fun j d => ?_,?_,?_,fun y b=>Ab.Bv (h.has y b),fun s f => ?_,fun y b=>(Ab.Pt m (h.has y b)).trans (h.par y b),fun y p b l => ?_,fun y k b v => ?_,fun o r t => ?_,fun r => ?_,fun r => ?_,fun r => ?_⟩
 ·show(B.inn j || _)=true; rw[h.inn j d]; rfl
 ·show(B.left a || (decide (u.kind=7)&&decide (a=aV u)))=A.left a;rw[g_ (show ¬ a=aV u from fun q=>e q.symm),I_,H_]; exact h.left
 ·show B.own a+(if u.kind=1/\a=aV u then 1 else 0)=A.own a;rw[b_ fun q=>e q.2.symm,D_]; exact h.own
 ·show(B.has _ || (decide (u.kind=1)&&decide (jk ((a:Int)+1) s=qY u)))=_;rw[g_ (show ¬ jk ((a:Int)+1) s=qY u from fun q=>by
   rw[c.id]at q; unfold jk at q; rw[d_ ⟨by omega,by omega,f.1,f.2⟩]at q; have:=c.seq; omega),I_,H_]
  exact h.hid s f
 ·show B.R y p+B.dl u y p=A.R y p;rw[Ab.aer c e ha l,D_]; exact h.R1 y p b l
 ·show A.R y _<=B.R y _+B.dl u y _;have:=h.R2 y k b v;have:=Ab.aiz (A:=B) c (p:=18+(6*k+a)) (by omega) y;omega
 ·obtain⟨i,n⟩:=h.gh o r t;exact⟨Ab.aeo i,fun j d=>(Ab.L9 m i j d).trans (n j d)⟩
 ·show(B.gh _ r || (decide (u.kind=3)&&(decide ((a:Int)+1=u.o)&&decide (r=u.req))))=_;rw[g_ no,Bool.false_and,I_,H_]; exact h.gho r
 ·show(if u.kind=3/\(a:Int)+1=u.o/\r=u.req then(if 4=2 then u.node else if 4=3 then u.aQ else 0)else if u.kind=4/\(a:Int)+1=u.o/\r=u.of/\4=4 then u.req else B.g _ r 4)=_;rw[b_ fun q=>no q.2.1,b_ fun q=>no q.2.1]; exact h.go r
 show(B.ask _ r || ((decide (u.kind=3) || decide (u.kind=4))&&(decide ((a:Int)+1=u.o)&&decide (r=u.req))))=_;rw[g_ no,Bool.false_and,I_,H_]; exact h.ask r
end
end Rt
end
section
namespace Rt
def vR(K:Nat->Int)(v:EvM):Bool:=decide (v.seq<=K (aN v))
def fU(ev:Nat->EvM)(K:Nat->Int)(A0:Ab):Nat->Ab
 | 0=>A0
 | n+1=>if vR K (ev n)=true then(fU ev K A0 n).qR (ev n)else fU ev K A0 n
structure Evs(A0:Ab)(ev:Nat->EvM)(an:Nat):Prop where
 ok0:A0.Ok
 rd : ∀ k,k<an->dH (fM ev k) (ev k)=true
 g : ∀ k,k<an->ME (ev k)
 dc : ∀ k,k<an->JY ev an (ev k).deps
 tk : ∀ k,k<an->(fU ev (ev k).deps A0 k).QZ (ev k)
section
variable {A0:Ab} {ev:Nat->EvM} {an n m i j k:Nat} {K K1 K2:Nat->Int}
theorem ng{v:EvM}:vR K v=true<->v.seq<=K (aN v):=by unfold vR; exact P_
theorem Evs.seq(h:Evs A0 ev an)(a:k<an):(ev k).seq=fM ev k (aN (ev k))+1:=(DL (h.rd k a)).2.1
theorem Evs.mono(h:Evs A0 ev an)(a:j<an)(c:k<an)(e:aN (ev j)=aN (ev k))(b:j<k):(ev j).seq<(ev k).seq:=by
 rw[h.seq a,h.seq c];have:=Ei (ev:=ev) b;rw[e]at this ⊢; omega
theorem Evs.uniq(h:Evs A0 ev an)(b:j<an)(c:k<an)(a:aN (ev j)=aN (ev k))(d:(ev j).seq=(ev k).seq):j=k:=by
 rcases Nat.lt_trichotomy j k with q|q|q
 ·have:=h.mono b c a q; omega
 ·exact q
 have:=h.mono c b a.symm q; omega
theorem Evs.ahead(h:Evs A0 ev an)(a:j<an)(b:k<an)(e:vR (ev k).deps (ev j)=true):j<k:=by
 have e:=ng.1 e;have d:=(DL (h.rd k b)).2.2 (aN (ev j)) (h.g j a).reg.2;rw[h.seq a]at e;by_cases c:j<k
 ·exact c
 have:=cnt_mono (ev:=ev) (i:=aN (ev j)) (show k<=j by omega); omega
theorem mR(e:vR K (ev n)=true):fU ev K A0 (n+1)=(fU ev K A0 n).qR (ev n):=by show(if _ then _ else _)=_; rw[d_ e]
theorem ni(e:vR K (ev n)=false):fU ev K A0 (n+1)=fU ev K A0 n:=by show(if _ then _ else _)=_; rw[b_ (by rw[e]; decide)]
theorem JJ(h:Evs A0 ev an)(a:Nat)(ha:a<6)(f : ∀ i,i<6->K1 i<=K2 i) : ∀ m,m<=an->(∀ i,i<=m->(fU ev K1 A0 i).Ok)->(∀ i,i<=m->(fU ev K2 A0 i).Ok)->(∀ i,i<m->vR K1 (ev i)=true->(fU ev K1 A0 i).QZ (ev i))->(∀ i,i<m->vR K2 (ev i)=true->(fU ev K2 A0 i).QZ (ev i)) ->
 (∀ i,i<m->aN (ev i)=a->vR K2 (ev i)=true->vR K1 (ev i)=true)->(fU ev K1 A0 m).Le (fU ev K2 A0 m) a
 | 0,_,_,_,_,_,_=>Ab.Le.refl _ _
 | m+1,hm,o1,o2,v1,v2,ho=>by
   have d:=JJ h a ha f m (by omega) (fun i c=>o1 i (by omega)) (fun i c=>o2 i (by omega)) (fun i c=>v1 i (by omega)) (fun i c=>v2 i (by omega)) (fun i c=>ho i (by omega))
   cases c1:vR K1 (ev m)with
   | true =>
     have b:vR K2 (ev m)=true:=ng.2 (R_ (ng.1 c1) (f _ (h.g m (by omega)).reg.2));rw[mR c1,mR b];exact d.both (o1 m (by omega)) (o2 m (by omega)) (v1 m (by omega) c1).pre (v2 m (by omega) b).pre
   | false =>
     rw[ni c1]
     cases b:vR K2 (ev m)with
     | true =>
       rw[mR b];exact d.step (o2 m (by omega)) (h.g m (by omega)) (v2 m (by omega) b).pre (fun e=>by have:=ho m (by omega) e b; rw[c1]at this; cases this) ha
     | false=>rw[ni b]; exact d
theorem vK(h:Evs A0 ev an) : ∀ n,n<=an -> ∀ K,JY ev an K->(∀ i,i<=n->(fU ev K A0 i).Ok) /\ ∀ i,i<n->vR K (ev i)=true->(fU ev K A0 i).QZ (ev i)
 | 0,_,K,_=>⟨fun i a=>(show i=0 by omega) ▸ h.ok0,fun i a=>M_ a (z_ _)⟩
 | n+1,hn,K,hc=>by
   obtain⟨o,v⟩:=vK h n (by omega) K hc;have f:vR K (ev n)=true->(fU ev K A0 n).QZ (ev n):=fun c=>by
    obtain⟨l,r⟩:=vK h n (by omega) (ev n).deps (h.dc n (by omega));have d:=h.g n (by omega);have p:=JJ h (aV (ev n)) d.reg.2 (hc.cl n (by omega) (ng.1 c)) n (by omega) l o r v (fun i a e t=>by
     have u:=h.mono (j:=i) (k:=n) (by omega) (by omega) e a;have b:=(DL (h.rd n (by omega))).1;refine ng.2 ?_;have m:(ev n).deps (aN (ev n))=(ev n).seq-1:=by
      unfold bR at b; simp only[S_,decide_eq_true_eq]at b; exact b.1.1.1.2
     rw[show aN (ev i)=aN (ev n)from e,m]; omega)
    exact p.okE (l n (A_ _)) (o n (A_ _)) d (h.tk n (by omega))
   have s : ∀ i,i<n+1->vR K (ev i)=true->(fU ev K A0 i).QZ (ev i):=fun i a e=>by
    by_cases q:i=n
    ·subst q; exact f e
    ·exact v i (by omega) e
   refine⟨fun i a => ?_,s⟩;by_cases q:i=n+1
   ·subst q
    cases c:vR K (ev n)with
    | true=>rw[mR c]; exact Ab.aep (o n (A_ _)) (f c).pre
    | false=>rw[ni c]; exact o n (A_ _)
   ·exact o i (by omega)
end
end Rt
end
section
namespace Rt
section
variable {A0:Ab} {ev:Nat->EvM} {an n m i j k:Nat} {K:Nat->Int}
theorem CP(h:Evs A0 ev an)(a:j<an) : ∀ m,j<=m->m<=an->fU ev (ev j).deps A0 m=fU ev (ev j).deps A0 j
 | 0,h1,_=>by obtain rfl:j=0:=(by omega); rfl
 | m+1,h1,h2=>by
   by_cases e:j=m+1
   ·rw[e]
   ·have c:vR (ev j).deps (ev m)=false:=by
     cases q:vR (ev j).deps (ev m)with
     | true=>have:=h.ahead (show m<an by omega) a q; omega
     | false=>rfl
    rw[ni c];exact CP h a m (by omega) (by omega)
theorem V9{v:EvM}(h:bR v=true):v.deps (aN v)=v.seq-1:=by
 unfold bR at h; simp only[S_,decide_eq_true_eq]at h; exact h.1.1.1.2
theorem Iy(h:Evs A0 ev an)(l:JY ev an K)(b:j<an)(hr:dH K (ev j)=true)(h1:j<=m)(a:m<=an):(fU ev K A0 m).QZ (ev j):=by
 obtain⟨f,q⟩:=vK h m a (ev j).deps (h.dc j b);obtain⟨o,v⟩:=vK h m a K l;obtain⟨n,s,p⟩:=DL hr;have c:=h.g j b;have d:=JJ h (aV (ev j)) c.reg.2 p m a f o q v (fun i r e k=>by
  refine ng.2 ?_;have:=ng.1 k;rw[show aN (ev i)=aN (ev j)from e]at this ⊢;rw[V9 n]; omega)
 rw[CP h b m h1 a]at d;exact d.okE (by rw[<- CP h b m h1 a]; exact f m (A_ _)) (o m (A_ _)) c (h.tk j b)
def JK(K:Nat->Int)(v:EvM):Nat->Int:=aI K (aN v) (K (aN v)+1)
theorem Wd(h:Evs A0 ev an)(a:j<an)(hr:dH K (ev j)=true)(hi:i<an)(b:i≠j):vR (JK K (ev j)) (ev i)=vR K (ev i):=by
 have d:=(DL hr).2.1;have:vR (JK K (ev j)) (ev i)=true<->vR K (ev i)=true:=by
  rw[ng,ng];unfold JK aI;split
  ·rename_i e;rw[e];constructor
   ·intro q;by_cases c:(ev i).seq<=K (aN (ev j))
    ·exact c
    ·exact M_ (h.uniq hi a e (by omega)) b
   ·intro q; omega
  ·exact Iff.rfl
 cases c1:vR (JK K (ev j)) (ev i) <;> cases c2:vR K (ev i) <;> simp_all
theorem F5(h:Evs A0 ev an)(a:j<an)(hr:dH K (ev j)=true) : ∀ m,m<=j->fU ev (JK K (ev j)) A0 m=fU ev K A0 m
 | 0,_=>rfl
 | m+1,hm=>by
   have e:=Wd h a hr (show m<an by omega) (show m≠j by omega)
   cases c:vR K (ev m)with
   | true=>rw[mR (e.trans c),mR c,F5 h a hr m (by omega)]
   | false=>rw[ni (e.trans c),ni c,F5 h a hr m (by omega)]
theorem Iz(h:Evs A0 ev an)(b:JY ev an K)(a:j<an)(hr:dH K (ev j)=true) : ∀ m,j<m->m<=an->fU ev (JK K (ev j)) A0 m=(fU ev K A0 m).qR (ev j)
 | 0,h1,_=>M_ h1 (z_ _)
 | m+1,h1,h2=>by
   have r:=(DL hr).2.1;by_cases e:m=j
   ·subst e;have l:vR (JK K (ev m)) (ev m)=true:=ng.2 (by unfold JK aI; rw[d_ rfl]; omega);have n:vR K (ev m)=false:=by
     cases q:vR K (ev m)with
     | true=>have:=ng.1 q; omega
     | false=>rfl
    rw[mR l,ni n,F5 h a hr m (A_ _)]
   ·have k:=Iz h b a hr m (by omega) (by omega);have f:=Wd h a hr (show m<an by omega) e
    cases c:vR K (ev m)with
    | true =>
      obtain⟨o,v⟩:=vK h (m+1) h2 K b;rw[mR (f.trans c),mR c,k];have i:(ev j).o≠(ev m).o:=fun q=>by
       have d:aN (ev j)=aN (ev m):=(by unfold aN; rw[q]);have s:=h.mono a (show m<an by omega) d (by omega);have p:=ng.1 c;rw[<- d]at p; omega
      exact Ab.V7 (o m (by omega)) (Iy h b a hr (by omega) (by omega)).pre (v m (by omega) c).pre i (fun _ _=>ME.ne (h.g j a) (h.g m (by omega)) i)
    | false=>rw[ni (f.trans c),ni c,k]
theorem Zh(h:Evs A0 ev an)(b:JY ev an K)(a:j<an)(hr:dH K (ev j)=true):fU ev (JK K (ev j)) A0 an=(fU ev K A0 an).qR (ev j):=Iz h b a hr an a (A_ _)
end
end Rt
end
section
namespace Rt
def eH(m:dN):Ab where
 inn:=m.inn
 left:=m.left
 own:=m.own
 has:=m.T.has
 par:=m.T.par
 R:=bA m
 gh:=iL m
 g:=fun o r j=>if iL m o r=true/\2<=j/\j<=4 then m.g (fD m o r) j else 0
 ask:=gZ m
section
variable {m:dN} {T:dM} {x y:Int} {v:EvM}
theorem IB{x p:Nat->Int} : ∀ {n:Nat} {k:Int},dS x n k=false->iF x p n k=0
 | 0,k,_=>rfl
 | n+1,k,h=>by
   have h:(dS x n k || decide (x n=k))=false:=h;rw[Bool.or_eq_false_iff]at h;show(if x n=k then p n else iF x p n k)=0;rw[b_ (j_ h.2)];exact IB h.1
def Ma(T:dM)(x:Int):Nat->Int
 | 0=>x
 | i+1=>T.par (Ma T x i)
theorem F6(T:dM)(x:Int) : ∀ i,Ma T x (i+1)=Ma T (T.par x) i
 | 0=>rfl
 | i+1=>by show T.par (Ma T x (i+1))=T.par (Ma T (T.par x) i); rw[F6 T x i]
theorem Q0(h:T.has x=false):T.path x = []:=by
 have : ¬ T.has x=true:=by rw[h]; decide
 cases e:T.path x with
 | nil=>rfl
 | cons a l=>exact M_ (show jD T.x T.p T.n 4 x = []from kW h) (by rw[show jD T.x T.p T.n 4 x=T.path x from rfl,e]; exact fun q=>by cases q)
theorem Er(g:T.ok) : ∀ n x,(T.path x).length<=n->(∀ i,i<(T.path x).length->(T.path x).getD i 0=Ma T x i/\T.has (Ma T x i)=true)/\T.has (Ma T x (T.path x).length)=false
 | 0,x,hn=>by
   have e:T.path x = []:=List.length_eq_zero_iff.1 (by omega);rw[e];refine⟨fun i d=>M_ d (z_ _),?_⟩
   cases c:T.has (Ma T x [].length)with
   | false=>rfl
   | true=>rw[dM.step g (show T.has x=true from c)]at e; cases e
 | n+1,x,hn=>by
   cases c:T.has x with
   | false =>
     rw[Q0 c];exact⟨fun i d=>M_ d (z_ _),c⟩
   | true =>
     have f:=dM.step g c;have k:(T.path x).length=(T.path (T.par x)).length+1:=(by rw[f]; rfl);obtain⟨h,j⟩:=Er g n (T.par x) (by omega);refine⟨fun i d => ?_,by rw[k,F6]; exact j⟩
     cases i with
     | zero=>rw[f]; exact⟨rfl,c⟩
     | succ i =>
       rw[F6];obtain⟨a,b⟩:=h i (by omega);refine⟨?_,b⟩;rw[f];exact a
theorem F7(m:dN)(x:Int) : ∀ i,(eH m).up x i=Ma m.T x i
 | 0=>rfl
 | i+1=>by show m.T.par ((eH m).up x i)=m.T.par (Ma m.T x i); rw[F7 m x i]
theorem Mc(a:T.ok){k:Nat}(h:T.has (Ma T x k)=false) : ∀ i,k<=i->T.has (Ma T x i)=false
 | 0,hi=>by obtain rfl:k=0:=(by omega); exact h
 | i+1,hi=>by
   by_cases e:k=i+1
   ·rw[<- e]; exact h
   ·have:=Mc a h i (by omega);have b:T.par (Ma T x i)=0:=IB this;show T.has (T.par (Ma T x i))=false;rw[b]; exact BA.Xq a
theorem CQ(j:m.T.ok)(x y:Int):(eH m).on x y=true<->y∈m.T.path x:=by
 obtain⟨h,n⟩:=Er j _ x (A_ _);have o:=dM.yR (T:=m.T) (k:=x);unfold Ab.on;rw[S_,List.any_eq_true,List.mem_iff_getElem];constructor
 ·rintro ⟨l,i,d,e⟩;have e:=h_ e;rw[F7]at e;have f:i<(m.T.path x).length:=by
   by_cases c:i<(m.T.path x).length
   ·exact c
   ·have:=Mc j n i (by omega);rw[e]at this;rw[show(eH m).has y=m.T.has y from rfl,this]at l; cases l
  refine⟨i,f,?_⟩;have:=(h i f).1;rw[r_,o_ f]at this;exact this.trans e
 rintro ⟨i,d,e⟩;obtain⟨a,b⟩:=h i d;rw[r_,o_ d]at a;have g:Ma m.T x i=y:=a.symm.trans e;refine⟨by rw[<- g]; exact b,i,O_.2 (by omega),f_ (by rw[F7]; exact g)⟩
end
end Rt
end
section
namespace Rt
theorem yX{x:Nat->Int}{n:Int}{b:Bool}{a:Int}{off:Nat}(h:(cK x n b a off).2=0):may x=true/\1<=n/\n<=1125899906842624/\b=true/\a=0/\x off+n<=1125899906842624/\(cK x n b a off).1=upd x off (x off+n):=by
 rcases nZ x n b a off with ⟨_,c,_⟩|⟨⟨hm,h1,c,hr,he,hx⟩,heq⟩
 ·exact M_ h c
 exact⟨hm,h1,c,hr,he,hx,by rw[heq]⟩
section
variable {m:dN} {x y:Int} {v:EvM}
theorem F8(b:m.T.ok){k:Int}(d:m.T.has k=true)(r:Nat->Int)(y:Int):bA (Ct m k r) y=if y=k then r else bA m y:=by
 unfold bA;show(if m.T.has y=true then aO m.R (m.idx k) r (m.idx y)else FQ)=_;by_cases e:y=k
 ·subst e; rw[d_ d,d_ rfl]; unfold aO; rw[d_ rfl]
 rw[b_ e];by_cases c:m.T.has y=true
 ·rw[d_ c,d_ c];unfold aO;rw[b_]
  ·rfl
  intro q;have a:=(dN.Dn b c).2;rw[q,(dN.Dn b d).2]at a;exact e a.symm
 rw[b_ c,b_ c]
open Classical in
theorem JL(a:m.T.ok)(f:(Nat->Int)->(Nat->Int) × Int)(x y:Int):bA (qP m f (m.T.path x)) y=if y∈m.T.path x then(f (bA m y)).1 else bA m y:=by
 unfold bA;show(if m.T.has y=true then(if m.T.x (m.idx y)∈m.T.path x then(f (m.R (m.idx y))).1 else m.R (m.idx y))else FQ)=_;by_cases c:m.T.has y=true
 ·rw[d_ c,d_ c,(dN.Dn a c).2]; rfl
 rw[b_ c,b_ c,b_ fun q=>c (dM.oo a rfl y q)]
theorem yY(b:m.T.ok){f:(Nat->Int)->(Nat->Int) × Int}(h:dw m f (m.T.path x)=0)(hy:y∈m.T.path x):(f (bA m y)).2=0:=by
 obtain⟨i,a,e⟩:=List.getElem_of_mem hy;have:=FN h i a;rw[r_,o_ a]at this;rw[<- e];unfold bA;rw[d_ (dM.oo b rfl _ (Q_ a))];exact this
theorem F9(h:bR v=true):v.o=(aV v:Int)+1/\aV v<6/\v.o.toNat-1=aV v:=by
 have:=oh h; unfold aV; omega
theorem JM{x:Nat->Int}{off:Nat}{n:Int}(p:Nat):upd x off (x off+n) p=x p+if p=off then n else 0:=by
 unfold upd;by_cases e:p=off
 ·subst e; rw[d_ rfl,d_ rfl]
 rw[b_ e,b_ e,D_]
theorem aes(f:m.T.ok)(k:bR v=true)(j:v.kind=1)(a:jc m v=0)(y:Int)(p:Nat):bA (Dk m v) y p=bA m y p+(eH m).dl v y p:=by
 have d:m.T.has (nP v)=false:=by
  unfold jc at a;split at a
  ·cases a
  ·exact(EJ a).2.1
 have h:qY v=nP v:=rO k;unfold Ab.dl;rw[d_ j,h];unfold bA;show(if(m.T.put (nP v) v.node).has y=true then aO m.R m.T.n (upd (fun _=>0) (aN v) v.aQ) (zx (aO m.T.x m.T.n (nP v)) (m.T.n+1) y)else FQ) p=_;rw[dM.jF];by_cases e:nP v=y
 ·subst e;rw[f_ rfl,Bool.or_true,d_ rfl,d,b_ (by decide),LH _ _ _ (fun i g e=>by have:=dM.zK g; rw[e,d]at this; cases this)]
  unfold aO;rw[d_ rfl];show upd (fun _=>0) (aN v) v.aQ p=0+_;unfold upd;rw[Int.zero_add];by_cases c:p=aN v
  ·rw[d_ c,d_ ⟨rfl,c⟩]
  rw[b_ c,b_ (fun q=>c q.2)]
 rw[g_ e,H_,b_ (show ¬ (y=nP v/\p=aV v)from fun q=>e q.1.symm),D_];by_cases c:m.T.has y=true
 ·rw[d_ c,d_ c,LJ _ _ e];have b:=(dN.Dn f c).1;have b:zx m.T.x m.T.n y<m.T.n:=b;unfold aO;rw[b_ (by omega)];rfl
 rw[b_ c,b_ c]
theorem Zi(f:m.T.ok)(g:bR v=true)(d:v.kind=2)(a:jG m v=0)(y:Int)(p:Nat):bA (uK m v) y p=bA m y p+(eH m).dl v y p:=by
 have b:m.T.has v.node=true:=by
  unfold jG at a
  cases c:m.T.has v.node with
  | true=>rfl
  | false=>rw[d_ c]at a; cases a
 unfold Ab.dl;rw[b_ (by rw[d]; decide),d_ d];unfold uK;rw[F8 f b];by_cases e:y=v.node
 ·subst e;rw[d_ rfl,JM];unfold bA;rw[d_ b];show m.R (m.idx v.node) p+(if p=aN v then v.aQ else 0)=m.R (m.idx v.node) p+_;by_cases c:p=aN v
  ·rw[d_ c,d_ ⟨rfl,c⟩]
  rw[b_ c,b_ (fun q=>c q.2)]
 rw[b_ e,b_ (fun q=>e q.1),D_]
theorem aeu(j:m.T.ok)(z:bR v=true)(f:v.kind=5)(d:kI m v=0)(y:Int)(p:Nat):bA (Dh m v) y p=bA m y p+(eH m).dl v y p:=by
 have g:m.T.has v.node=true/\(sU m v).2=0:=by
  unfold kI at d
  cases c:m.T.has v.node with
  | true =>
    rw[b_ (by rw[c]; decide)]at d;split at d
    ·cases d
    ·exact⟨rfl,d⟩
  | false=>rw[d_ c]at d; cases d
 obtain⟨a,b,s,t,w,x,u,l,n,o,r,k⟩:=Bb g.2;have h:aV v=a:=by unfold aV; omega
 have i:dV v=b:=by unfold dV; omega
 unfold Ab.dl;rw[b_ (by rw[f]; decide),b_ (by rw[f]; decide),b_ (by rw[f]; decide),b_ (by rw[f]; decide),d_ f,h,i];unfold Dh;rw[F8 j g.1];by_cases e:y=v.node
 ·subst e;rw[d_ rfl];unfold sU;rw[k,JM];unfold bA;rw[d_ g.1];show m.R (m.idx v.node) p+(if p=18+a*6+b then v.aQ else 0)=m.R (m.idx v.node) p+_;by_cases c:p=18+a*6+b
  ·rw[d_ c,d_ ⟨rfl,by omega⟩]
  rw[b_ c,b_ (fun q=>c (by omega))]
 rw[b_ e,b_ (fun q=>e q.1),D_]
theorem Wh(a:m.T.ok){f:(Nat->Int)->(Nat->Int) × Int}{x:Int}{n:Int}{off:Nat}(b : ∀ y,y∈m.T.path x->(f (bA m y)).1=upd (bA m y) off (bA m y off+n))(y:Int)(p:Nat):bA (qP m f (m.T.path x)) y p=bA m y p+if(eH m).on x y=true/\p=off then n else 0:=by
 rw[JL a];by_cases c:y∈m.T.path x
 ·rw[d_ c,b y c,JM];by_cases e:p=off
  ·rw[d_ e,d_ ⟨(CQ a x y).2 c,e⟩]
  rw[b_ e,b_ (fun q=>e q.2)]
 rw[b_ c,b_ (fun q=>c ((CQ a x y).1 q.1)),D_]
theorem aev(d:m.T.ok)(g:bR v=true)(b:v.kind=3)(a:jU m v=0)(y:Int)(p:Nat):bA (kJ m v) y p=bA m y p+(eH m).dl v y p:=by
 have e:dw m (fun x=>bH x v.o v.aQ) (m.T.path v.node)=0:=by
  unfold jU at a;split at a
  ·cases a
  split at a
  ·cases a
  exact a
 unfold Ab.dl;rw[b_ (by rw[b]; decide),b_ (by rw[b]; decide),d_ b];refine Wh d (f:=fun x=>bH x v.o v.aQ) (x:=v.node) (fun y h => ?_) y p;have c:(bH (bA m y) v.o v.aQ).2=0:=yY d e h;unfold bH at c;show(bH (bA m y) v.o v.aQ).1=_;unfold bH;rw[(yX c).2.2.2.2.2.2,(F9 g).2.2]
theorem aew(i:m.T.ok)(l:bR v=true)(b:v.kind=4)(a:jv m v=0)(y:Int)(p:Nat):bA (iH m v) y p=bA m y p+(eH m).dl v y p:=by
 have d:iL m v.o v.of=true/\dw m (fun x=>bI x v.o (m.g (fD m v.o v.of) 3)) (m.T.path (m.g (fD m v.o v.of) 2))=0:=by
  unfold jv at a;split at a
  ·cases a
  split at a
  ·cases a
  rename_i c;refine⟨?_,a⟩
  cases e:iL m v.o v.of with
  | true=>rfl
  | false=>exact M_ (.inl e) c
 have j:(eH m).g v.o v.of 2=m.g (fD m v.o v.of) 2:=d_ ⟨d.1,by decide,by decide⟩;have k:(eH m).g v.o v.of 3=m.g (fD m v.o v.of) 3:=d_ ⟨d.1,by decide,by decide⟩;unfold Ab.dl;rw[b_ (by rw[b]; decide),b_ (by rw[b]; decide),b_ (by rw[b]; decide),d_ b,j,k];refine Wh i (f:=fun x=>bI x v.o (m.g (fD m v.o v.of) 3)) (x:=m.g (fD m v.o v.of) 2) (fun y n => ?_) y p;have h:(bI (bA m y) v.o (m.g (fD m v.o v.of) 3)).2=0:=yY i d.2 n;unfold bI at h;show(bI (bA m y) v.o (m.g (fD m v.o v.of) 3)).1=_;unfold bI;rw[(yX h).2.2.2.2.2.2,(F9 l).2.2]
theorem Md{m':dN}(a:m'.an=m.an+1)(b:m'.ao=aO m.ao m.an v.o)(c:m'.ar=aO m.ar m.an v.req)(o r:Int):gZ m' o r=(gZ m o r || (decide (o=v.o)&&decide (r=v.req))):=by
 have:gZ m' o r=true<->(gZ m o r=true\/(v.o=o/\v.req=r)):=by unfold gZ; rw[a,b,c]; exact FU
 rw[Bool.eq_iff_iff,this,Bool.or_eq_true,S_,P_,P_];exact⟨fun h=>h.imp id fun q=>⟨q.1.symm,q.2.symm⟩,fun h=>h.imp id fun q=>⟨q.1.symm,q.2.symm⟩⟩
theorem Wi{k1 k2:Nat->Int}{n:Nat}{a b o r:Int}(h : ¬ (a=o/\b=r)):wS (aO k1 n a) (aO k2 n b) (n+1) o r=wS k1 k2 n o r:=by
 have d : ∀ k,k<=n->wS (aO k1 n a) (aO k2 n b) k o r=wS k1 k2 k o r:=fun k=>by
  induction k with
  | zero=>intro _; rfl
  | succ k ih =>
    intro e;show(if aO k1 n a k=o/\aO k2 n b k=r then k else _)=(if k1 k=o/\k2 k=r then k else _);rw[ih (by omega)];have c : ¬ k=n:=(by omega);rw[show aO k1 n a k=k1 k from b_ c,show aO k2 n b k=k2 k from b_ c]
 show(if aO k1 n a n=o/\aO k2 n b n=r then n else wS (aO k1 n a) (aO k2 n b) n o r)=_;rw[d n (A_ _)];rw[show aO k1 n a n=a from d_ rfl,show aO k2 n b n=b from d_ rfl,b_ h]
theorem Wj{k1 k2:Nat->Int}{n:Nat}{a b:Int}:wS (aO k1 n a) (aO k2 n b) (n+1) a b=n:=by
 show(if aO k1 n a n=a/\aO k2 n b n=b then n else _)=_;unfold aO;rw[d_ ⟨d_ rfl,d_ rfl⟩]
theorem yZ(g:Nat->Nat->Int)(n:Nat)(r:Nat->Int)(j:Nat):(fun i=>aO g n r i j)=aO (fun i=>g i j) n (r j):=by
 funext i; unfold aO; split <;> rfl
end
end Rt
end
section
namespace Rt
section
variable {m:dN} {x y:Int} {v:EvM}
theorem jy{b c:Bool}(h:c=false):b=(b || c):=by rw[h,H_]
theorem J4{k:Int}(h:v.kind≠k){c:Bool}:(decide (v.kind=k)&&c)=false:=by rw[g_ h]; rfl
theorem Wm(i:m.T.ok)(e:bR v=true)(a:v.kind=1)(h:jc m v=0):eH (Dk m v)=(eH m).qR v:=by
 have d:qY v=nP v:=rO e;have b:v.kind≠3:=by rw[a]; decide
 have f:v.kind≠4:=by rw[a]; decide
 have k:v.kind≠6:=by rw[a]; decide
 have l:v.kind≠7:=by rw[a]; decide
 apply Ab.QY
 ·funext j; exact jy (J4 k)
 ·funext j; exact jy (J4 l)
 ·funext j
  show aI m.own (aN v) (m.own (aN v)+1) j=m.own j+if v.kind=1/\j=aV v then 1 else 0;unfold aI;by_cases c:j=aN v
  ·rw[d_ c,d_ ⟨a,c⟩,c]
  rw[b_ c,b_ (fun q=>c q.2),D_]
 ·funext y
  show(m.T.put (nP v) v.node).has y=(m.T.has y || (decide (v.kind=1)&&decide (y=qY v)));rw[dM.jF,d,f_ a,Bool.true_and]
  congr 1
  exact decide_eq_decide.2 ⟨Eq.symm,Eq.symm⟩
 ·funext y
  show(m.T.put (nP v) v.node).par y=if v.kind=1/\y=qY v then v.node else m.T.par y;rw[dM.tZ,d];by_cases c:nP v=y
  ·rw[d_ c,d_ ⟨a,c.symm⟩]
  rw[b_ c,b_ (fun q=>c q.2.symm)]
 ·funext y p; exact aes i e a h y p
 ·funext o r; exact jy (J4 b)
 ·funext o r j
  show(eH m).g o r j=if v.kind=3/\_ then _ else if v.kind=4/\_ then _ else _;rw[b_ (fun q=>b q.1),b_ (fun q=>f q.1)]
 funext o r
 show gZ m o r=(gZ m o r || ((decide (v.kind=3) || decide (v.kind=4))&&_));rw[g_ b,g_ f];exact jy rfl
theorem Me{m':dN}(e:m'.inn=m.inn)(f:m'.left=m.left)(h:m'.own=m.own)(c:m'.T=m.T)(i : ∀ o r,iL m' o r=iL m o r)(k:(eH m').g=(eH m).g)(l : ∀ o r,gZ m' o r=gZ m o r)(a:v.kind≠1)(b:v.kind≠3)(d:v.kind≠4)(s:v.kind≠6)(t:v.kind≠7)
 (n : ∀ y p,bA m' y p=bA m y p+(eH m).dl v y p):eH m'=(eH m).qR v:=by
 apply Ab.QY
 ·funext j; rw[show(eH m').inn j=m.inn j from congrFun e j]; exact jy (J4 s)
 ·funext j; rw[show(eH m').left j=m.left j from congrFun f j]; exact jy (J4 t)
 ·funext j
  rw[show(eH m').own j=m.own j from congrFun h j];show m.own j=m.own j+if v.kind=1/\j=aV v then 1 else 0;rw[b_ (fun q=>a q.1),D_]
 ·funext y; rw[show(eH m').has y=m.T.has y from by rw[<- c]; rfl]; exact jy (J4 a)
 ·funext y
  rw[show(eH m').par y=m.T.par y from by rw[<- c]; rfl];show _=if v.kind=1/\y=qY v then v.node else m.T.par y;rw[b_ (fun q=>a q.1)]
 ·funext y p; exact n y p
 ·funext o r; rw[show(eH m').gh o r=iL m o r from i o r]; exact jy (J4 b)
 ·funext o r j
  rw[k];show(eH m).g o r j=if v.kind=3/\_ then _ else if v.kind=4/\_ then _ else _;rw[b_ (fun q=>b q.1),b_ (fun q=>d q.1)]
 funext o r
 rw[show(eH m').ask o r=gZ m o r from l o r];show gZ m o r=(gZ m o r || ((decide (v.kind=3) || decide (v.kind=4))&&_));rw[g_ b,g_ d];exact jy rfl
theorem Q5(c:m.T.ok)(d:bR v=true)(a:v.kind=2)(b:jG m v=0):eH (uK m v)=(eH m).qR v :=
 Me rfl rfl rfl rfl (fun _ _=>rfl) rfl (fun _ _=>rfl) (by rw[a]; decide) (by rw[a]; decide) (by rw[a]; decide) (by rw[a]; decide) (by rw[a]; decide) (Zi c d a b)
theorem Wn(c:m.T.ok)(d:bR v=true)(a:v.kind=5)(b:kI m v=0):eH (Dh m v)=(eH m).qR v :=
 Me rfl rfl rfl rfl (fun _ _=>rfl) rfl (fun _ _=>rfl) (by rw[a]; decide) (by rw[a]; decide) (by rw[a]; decide) (by rw[a]; decide) (by rw[a]; decide) (aeu c d a b)
theorem JN{k1 k2:Nat->Int}{a b:Int} : ∀ {n:Nat},Br k1 k2 n a b=true->wS k1 k2 n a b<n
 | 0,h=>by cases h
 | n+1,h=>by
   unfold wS;by_cases c:k1 n=a/\k2 n=b
   ·rw[d_ c]; omega
   ·rw[b_ c];obtain⟨j,g,d,f⟩:=lM.1 h;by_cases e:j=n
    ·subst e; exact M_ ⟨d,f⟩ c
    ·have:=JN (sZ (show j<n by omega) d f); omega
theorem Zj(h1:v.kind≠1)(a:v.kind≠2)(b:v.kind≠3)(c:v.kind≠4)(d:v.kind≠5)(A:Ab)(y:Int)(p:Nat):A.dl v y p=0:=by
 unfold Ab.dl;rw[b_ h1,b_ a,b_ b,b_ c,b_ d]
theorem IC{A B:Ab}(h1:v.kind≠1)(n:v.kind≠2)(a:v.kind≠3)(b:v.kind≠4)(s:v.kind≠5)(c : ∀ j,B.inn j=(A.inn j || (decide (v.kind=6)&&decide (j=dV v))))(d : ∀ j,B.left j=(A.left j || (decide (v.kind=7)&&decide (j=aV v))))(e:B.own=A.own)(f:B.has=A.has)(h:B.par=A.par)(i:B.R=A.R)(k:B.gh=A.gh)(l:B.g=A.g)(m:B.ask=A.ask):B=A.qR v:=by
 apply Ab.QY
 ·funext j; exact c j
 ·funext j; exact d j
 ·funext j; rw[e]; show A.own j=A.own j+if v.kind=1/\j=aV v then 1 else 0; rw[b_ (fun q=>h1 q.1),D_]
 ·funext y; rw[f]; exact jy (J4 h1)
 ·funext y; rw[h]; show _=if v.kind=1/\y=qY v then v.node else A.par y; rw[b_ (fun q=>h1 q.1)]
 ·funext y p; rw[i]; show _=A.R y p+A.dl v y p; rw[Zj h1 n a b s,D_]
 ·funext o r; rw[k]; exact jy (J4 a)
 ·funext o r j
  rw[l];show A.g o r j=if v.kind=3/\_ then _ else if v.kind=4/\_ then _ else _;rw[b_ (fun q=>a q.1),b_ (fun q=>b q.1)]
 funext o r
 rw[m];show A.ask o r=(A.ask o r || ((decide (v.kind=3) || decide (v.kind=4))&&_));rw[g_ a,g_ b];exact jy rfl
theorem Mf{f:Nat->Bool}{k j:Nat}{c:Bool}(a:c=true):aI f k true j=(f j || (c&&decide (j=k))):=by
 rw[a,Bool.true_and];unfold aI;by_cases e:j=k
 ·rw[d_ e,f_ e,Bool.or_true]
 rw[b_ e,g_ e,H_]
theorem Wp(a:v.kind=6):eH (Ig m v)=(eH m).qR v :=
 IC (by rw[a]; decide) (by rw[a]; decide) (by rw[a]; decide) (by rw[a]; decide) (by rw[a]; decide) (fun j=>Mf (f_ a)) (fun j=>jy (J4 (by rw[a]; decide))) rfl rfl rfl rfl rfl rfl rfl
theorem Q6(a:v.kind=7):eH (Cu m v)=(eH m).qR v :=
 IC (by rw[a]; decide) (by rw[a]; decide) (by rw[a]; decide) (by rw[a]; decide) (by rw[a]; decide) (fun j=>jy (J4 (by rw[a]; decide))) (fun j=>Mf (k:=aN v) (f_ a)) rfl rfl rfl rfl rfl rfl rfl
theorem Wq(z:m.T.ok)(A:QN m)(u:bR v=true)(b:v.kind=3)(k:jU m v=0):eH (kJ m v)=(eH m).qR v:=by
 have G:qY v=nP v:=rO u;have n:v.kind≠1:=by rw[b]; decide
 have C:v.kind≠4:=by rw[b]; decide
 have D:v.kind≠6:=by rw[b]; decide
 have E:v.kind≠7:=by rw[b]; decide
 have B:gZ m v.o v.req=false:=by
  unfold jU at k
  cases c:gZ m v.o v.req with
  | false=>rfl
  | true=>rw[d_ c]at k; cases k
 have F:iL m v.o v.req=false:=pV fun i t e=>by
  have:=A i t;rw[e.1,e.2,B]at this; cases this
 have s : ∀ o r,iL (kJ m v) o r=(iL m o r || (decide (o=v.o)&&decide (r=v.req))):=fun o r=>by
  have d:=yZ m.g m.gn (pU v) 0;have f:=yZ m.g m.gn (pU v) 1;have:iL (kJ m v) o r=true<->(iL m o r=true\/(v.o=o/\v.req=r)):=by
   show Br (fun i=>aO m.g m.gn (pU v) i 0) (fun i=>aO m.g m.gn (pU v) i 1) (m.gn+1) o r=true<->_;rw[d,f]; exact FU
  rw[Bool.eq_iff_iff,this,Bool.or_eq_true,S_,P_,P_];exact⟨fun h=>h.imp id fun q=>⟨q.1.symm,q.2.symm⟩,fun h=>h.imp id fun q=>⟨q.1.symm,q.2.symm⟩⟩
 have x : ∀ o r,fD (kJ m v) o r=wS (aO (fun i=>m.g i 0) m.gn v.o) (aO (fun i=>m.g i 1) m.gn v.req) (m.gn+1) o r:=fun o r=>by
  have d:=yZ m.g m.gn (pU v) 0;have f:=yZ m.g m.gn (pU v) 1;show wS (fun i=>aO m.g m.gn (pU v) i 0) (fun i=>aO m.g m.gn (pU v) i 1) (m.gn+1) o r=_;rw[d,f]; rfl
 apply Ab.QY
 ·funext j; exact jy (J4 D)
 ·funext j; exact jy (J4 E)
 ·funext j
  show m.own j=m.own j+if v.kind=1/\j=aV v then 1 else 0;rw[b_ (fun q=>n q.1),D_]
 ·funext y; exact jy (J4 n)
 ·funext y
  show m.T.par y=if v.kind=1/\y=qY v then v.node else m.T.par y;rw[b_ (fun q=>n q.1)]
 ·funext y p; exact aev z u b k y p
 ·funext o r
  show iL (kJ m v) o r=(iL m o r || (decide (v.kind=3)&&(decide (o=v.o)&&decide (r=v.req))));rw[s,f_ b,Bool.true_and]
 ·funext o r j
  show(if iL (kJ m v) o r=true/\2<=j/\j<=4 then(kJ m v).g (fD (kJ m v) o r) j else 0)=if v.kind=3/\o=v.o/\r=v.req then(if j=2 then v.node else if j=3 then v.aQ else 0)else if v.kind=4/\_ then _ else(if iL m o r=true/\2<=j/\j<=4 then m.g (fD m o r) j else 0);rw[s,x];by_cases c:o=v.o/\r=v.req
  ·rw[d_ (show v.kind=3/\o=v.o/\r=v.req from⟨b,c⟩),c.1,c.2,Wj,f_ (rfl:v.o=v.o),f_ (rfl:v.req=v.req),Bool.and_self,Bool.or_true];show(if true=true/\2<=j/\j<=4 then aO m.g m.gn (pU v) m.gn j else 0)=_;rw[show aO m.g m.gn (pU v) m.gn=pU v from d_ rfl];by_cases a:j=2
   ·rw[d_ a,a,d_ ⟨rfl,by decide,by decide⟩]; rfl
   rw[b_ a];by_cases l:j=3
   ·rw[d_ l,l,d_ ⟨rfl,by decide,by decide⟩]; rfl
   rw[b_ l];by_cases w:j=4
   ·rw[w,d_ ⟨rfl,by decide,by decide⟩]; rfl
   rw[b_ (by omega)]
  rw[b_ (show ¬ (v.kind=3/\o=v.o/\r=v.req)from fun q=>c q.2),b_ (show ¬ (v.kind=4/\o=v.o/\r=v.of/\j=4)from fun q=>C q.1),Wi (fun q=>c ⟨q.1.symm,q.2.symm⟩)];have:(decide (o=v.o)&&decide (r=v.req))=false:=by
   cases e:(decide (o=v.o)&&decide (r=v.req))with
   | false=>rfl
   | true=>rw[S_,P_,P_]at e; exact M_ e c
  rw[this,H_];by_cases a:iL m o r=true/\2<=j/\j<=4
  ·rw[d_ a,d_ a];obtain⟨i,t,d,f⟩:=lM.1 a.1;have:wS (fun i=>m.g i 0) (fun i=>m.g i 1) m.gn o r<m.gn:=JN a.1;show aO m.g m.gn (pU v) _ j=_;unfold aO;rw[b_ (by omega)];rfl
  rw[b_ a,b_ a]
 funext o r
 show gZ (kJ m v) o r=(gZ m o r || ((decide (v.kind=3) || decide (v.kind=4))&&(decide (o=v.o)&&decide (r=v.req))));rw[f_ b,Bool.true_or,Bool.true_and];exact Md rfl rfl rfl o r
theorem Ga{k1 k2:Nat->Int}{a b:Int} : ∀ {n:Nat},Br k1 k2 n a b=true->k1 (wS k1 k2 n a b)=a/\k2 (wS k1 k2 n a b)=b
 | 0,h=>by cases h
 | n+1,h=>by
   unfold wS;by_cases c:k1 n=a/\k2 n=b
   ·rw[d_ c]; exact c
   ·rw[b_ c];obtain⟨j,g,d,f⟩:=lM.1 h;by_cases e:j=n
    ·subst e; exact M_ ⟨d,f⟩ c
    ·exact Ga (sZ (show j<n by omega) d f)
theorem Wu(G:m.T.ok)(J:bR v=true)(a:v.kind=4)(b:jv m v=0):eH (iH m v)=(eH m).qR v:=by
 have k:v.kind≠1:=by rw[a]; decide
 have x:v.kind≠3:=by rw[a]; decide
 have K:v.kind≠6:=by rw[a]; decide
 have L:v.kind≠7:=by rw[a]; decide
 have f:iL m v.o v.of=true:=by
  unfold jv at b;split at b
  ·cases b
  split at b
  ·cases b
  rename_i c
  cases e:iL m v.o v.of with
  | true=>rfl
  | false=>exact M_ (.inl e) c
 have M:fD m v.o v.of<m.gn:=JN f;have h : ∀ i j,j≠4->aO m.g (fD m v.o v.of) (upd (m.g (fD m v.o v.of)) 4 v.req) i j=m.g i j:=fun i j H=>by
  unfold aO;by_cases c:i=fD m v.o v.of
  ·rw[d_ c,c]; unfold upd; rw[b_ H]
  ·rw[b_ c]
 have n:(fun i=>(iH m v).g i 0)=fun i=>m.g i 0:=by funext i; exact h i 0 (by decide)
 have s:(fun i=>(iH m v).g i 1)=fun i=>m.g i 1:=by funext i; exact h i 1 (by decide)
 have w : ∀ o r,iL (iH m v) o r=iL m o r:=fun o r=>by
  show Br (fun i=>(iH m v).g i 0) (fun i=>(iH m v).g i 1) m.gn o r=_;rw[n,s]; rfl
 have F : ∀ o r,fD (iH m v) o r=fD m o r:=fun o r=>by
  show wS (fun i=>(iH m v).g i 0) (fun i=>(iH m v).g i 1) m.gn o r=_;rw[n,s]; rfl
 apply Ab.QY
 ·funext j; exact jy (J4 K)
 ·funext j; exact jy (J4 L)
 ·funext j
  show m.own j=m.own j+if v.kind=1/\j=aV v then 1 else 0;rw[b_ (fun q=>k q.1),D_]
 ·funext y; exact jy (J4 k)
 ·funext y
  show m.T.par y=if v.kind=1/\y=qY v then v.node else m.T.par y;rw[b_ (fun q=>k q.1)]
 ·funext y p; exact aew G J a b y p
 ·funext o r
  show iL (iH m v) o r=(iL m o r || (decide (v.kind=3)&&_));rw[w]; exact jy (J4 x)
 ·funext o r j
  show(if iL (iH m v) o r=true/\2<=j/\j<=4 then(iH m v).g (fD (iH m v) o r) j else 0)=if v.kind=3/\o=v.o/\r=v.req then _ else if v.kind=4/\o=v.o/\r=v.of/\j=4 then v.req else(if iL m o r=true/\2<=j/\j<=4 then m.g (fD m o r) j else 0);rw[w,F,b_ (show ¬ (v.kind=3/\o=v.o/\r=v.req)from fun q=>x q.1)];show(if iL m o r=true/\2<=j/\j<=4 then aO m.g (fD m v.o v.of) (upd (m.g (fD m v.o v.of)) 4 v.req) (fD m o r) j else 0)=_;by_cases c:v.kind=4/\o=v.o/\r=v.of/\j=4
  ·rw[d_ c,c.2.1,c.2.2.1,c.2.2.2,d_ ⟨f,by decide,by decide⟩];unfold aO upd; rw[d_ rfl,d_ rfl]
  rw[b_ c];by_cases d:iL m o r=true/\2<=j/\j<=4
  ·rw[d_ d,d_ d];by_cases l:j=4
   ·have I:fD m o r≠fD m v.o v.of:=fun e=>c ⟨a,by
     obtain⟨z,A⟩:=Ga d.1;obtain⟨B,C⟩:=Ga f;have t:m.g (fD m o r) 0=o:=z;have D:m.g (fD m v.o v.of) 0=v.o:=B;have u:m.g (fD m o r) 1=r:=A;have E:m.g (fD m v.o v.of) 1=v.of:=C;rw[e]at t u;exact⟨t.symm.trans D,u.symm.trans E,l⟩⟩
    unfold aO; rw[b_ I]
   exact h _ j l
  rw[b_ d,b_ d]
 funext o r
 show gZ (iH m v) o r=(gZ m o r || ((decide (v.kind=3) || decide (v.kind=4))&&(decide (o=v.o)&&decide (r=v.req))));rw[f_ a,Bool.or_true,Bool.true_and];exact Md rfl rfl rfl o r
theorem Wv(c:m.T.ok)(j:QN m)(b:bR v=true)(a:fJ m v=0):eH (iR m v)=(eH m).qR v:=by
 have k:=jg b;unfold fJ at a;unfold iR;by_cases d:v.kind=1
 ·rw[d_ d]at a ⊢; exact Wm c b d a
 rw[b_ d]at a ⊢;by_cases e:v.kind=2
 ·rw[d_ e]at a ⊢; exact Q5 c b e a
 rw[b_ e]at a ⊢;by_cases f:v.kind=3
 ·rw[d_ f]at a ⊢; exact Wq c j b f a
 rw[b_ f]at a ⊢;by_cases g:v.kind=4
 ·rw[d_ g]at a ⊢; exact Wu c b g a
 rw[b_ g]at a ⊢;by_cases h:v.kind=5
 ·rw[d_ h]at a ⊢; exact Wn c b h a
 rw[b_ h]at a ⊢;by_cases i:v.kind=6
 ·rw[d_ i]; exact Wp i
 rw[b_ i]; exact Q6 (by omega)
theorem Q7(c:m.T.ok)(d:QN m)(a:bZ m v=0):eH (jw m v)=(eH m).qR v:=by
 have b:=Wv c d (ql a) (qm a).2.1;unfold jw;rw[d_ a];exact b
end
end Rt
end
section
namespace Rt
structure Ab.Sm(A:Ab)(N:Nat):Prop where
 r : ∀ y p,A.R y p<=65536*N
 g : ∀ o r,A.gh o r=true->1<=A.g o r 3/\A.g o r 3<=65536
structure Rj(m:dN):Prop where
 n:(m.T.n:Int)=m.own 0+m.own 1+m.own 2+m.own 3+m.own 4+m.own 5
 o : ∀ a,a<6->m.own a<=5
section
variable {A:Ab} {m:dN} {L:fA} {N S:Nat} {x y:Int} {v:EvM}
theorem Ab.Sm.dl(m:A.Sm S)(l:A.Pre v)(k:oI v)(y:Int)(p:Nat):A.dl v y p<=65536:=by
 have b:=k.aQ;have a : ∀ {c:Prop} [Decidable c] {n:Int},n<=65536->(if c then n else 0)<=65536:=fun {c} _ {n} h=>by split <;> omega
 unfold Ab.dl;by_cases e:v.kind=1
 ·rw[d_ e]; exact a b
 rw[b_ e];by_cases f:v.kind=2
 ·rw[d_ f]; exact a b
 rw[b_ f];by_cases i:v.kind=3
 ·rw[d_ i]; exact a b
 rw[b_ i];by_cases d:v.kind=4
 ·rw[d_ d]; exact a (m.g _ _ (l.n4 d)).2
 rw[b_ d];by_cases j:v.kind=5
 ·rw[d_ j]; exact a b
 rw[b_ j]; decide
theorem Ab.Sm.qR(b:A.Sm S)(f:A.Pre v)(h:bR v=true)(d:oI v):(A.qR v).Sm (S+1) where
 r:=fun y p=>by
  have i:=b.r y p;have j:=b.dl f d y p;show A.R y p+A.dl v y p<=_;omega
 g:=fun o r a=>by
  have a:(A.gh o r || (decide (v.kind=3)&&(decide (o=v.o)&&decide (r=v.req))))=true:=a;by_cases c:v.kind=3/\o=v.o/\r=v.req
  ·have:(A.qR v).g o r 3=v.aQ:=(by show(if v.kind=3/\o=v.o/\r=v.req then _ else _)=v.aQ; rw[d_ c]; rfl);rw[this]; exact⟨(lI h (.inr (.inl c.1))).1,d.aQ⟩
  ·have e:A.gh o r=true:=by
    rcases Bool.or_eq_true_iff.1 a with q|q
    ·exact q
    ·rw[S_,S_]at q; exact M_ ⟨h_ q.1,h_ q.2.1,h_ q.2.2⟩ c
   rw[Ab.L9 f e 3 (by decide)];exact b.g o r e
theorem Rj.row{m':dN}(h:Rj m)(a:m'.T=m.T)(b:m'.own=m.own):Rj m':=by
 cases m'; cases m; cases a; cases b; exact⟨h.n,h.o⟩
theorem Rj.does(h:Rj m)(l:bR v=true)(b:fJ m v=0):Rj (iR m v):=by
 unfold fJ at b;unfold iR;by_cases c:v.kind=1
 ·rw[d_ c]at b ⊢;have q:m.own (aN v)<5:=by
   unfold jc at b;split at b
   ·cases b
   ·omega
  have r:=jT l;have p:=h.n;refine⟨?_,fun a k => ?_⟩
  ·show((m.T.n+1:Nat):Int)=aI m.own (aN v) (m.own (aN v)+1) 0+aI m.own (aN v) (m.own (aN v)+1) 1+aI m.own (aN v) (m.own (aN v)+1) 2+aI m.own (aN v) (m.own (aN v)+1) 3+aI m.own (aN v) (m.own (aN v)+1) 4+aI m.own (aN v) (m.own (aN v)+1) 5;unfold aI
   rcases(show aN v=0\/aN v=1\/aN v=2\/aN v=3\/aN v=4\/aN v=5 by omega)with e|e|e|e|e|e <;> rw[e] <;> simp <;> omega
  show aI m.own (aN v) (m.own (aN v)+1) a<=5;have:=h.o a k;unfold aI; split <;> omega
 rw[b_ c];by_cases d:v.kind=2
 ·rw[d_ d]; exact h.row rfl rfl
 rw[b_ d];by_cases f:v.kind=3
 ·rw[d_ f]; exact h.row rfl rfl
 rw[b_ f];by_cases g:v.kind=4
 ·rw[d_ g]; exact h.row rfl rfl
 rw[b_ g];by_cases i:v.kind=5
 ·rw[d_ i]; exact h.row rfl rfl
 rw[b_ i];by_cases j:v.kind=6
 ·rw[d_ j]; exact h.row rfl rfl
 rw[b_ j]; exact h.row rfl rfl
theorem Rj.apply(h:Rj m):Rj (jw m v):=by
 unfold jw;by_cases c:bZ m v=0
 ·rw[d_ c]; exact(h.does (ql c) (qm c).2.1).row rfl rfl
 rw[b_ c]; exact h
theorem aaw(x:Nat->Int)(a:Nat):Rt.L x a=CO x a:=by
 have e : ∀ i,R x a i=x (18+(6*a+i)):=fun i=>by unfold R; congr 1; omega
 have b:R x 0 a=x (18+(6*0+a)):=by unfold R; congr 1; omega
 have c:R x 1 a=x (18+(6*1+a)):=by unfold R; congr 1; omega
 have d:R x 2 a=x (18+(6*2+a)):=by unfold R; congr 1; omega
 have f:R x 3 a=x (18+(6*3+a)):=by unfold R; congr 1; omega
 have g:R x 4 a=x (18+(6*4+a)):=by unfold R; congr 1; omega
 have h:R x 5 a=x (18+(6*5+a)):=by unfold R; congr 1; omega
 unfold Rt.L CO;rw[e,e,e,e,e,e,b,c,d,f,g,h];unfold G C F;omega
theorem CS{x:Nat->Int}(h:may x=true)(b:bR v=true):eF x v.o=CO x (aV v):=by
 obtain⟨e,a,_⟩:=F9 b;rw[e,mO h _ a,aaw]
theorem yC{x:Nat->Int}{n:Int}{b:Bool}{a:Int}{off:Nat}(h1:may x=true)(c:1<=n)(d:n<=1125899906842624)(e:b=true)(f:a=0)(g:x off+n<=1125899906842624):(cK x n b a off).2=0:=by
 rcases nZ x n b a off with ⟨_,_,h⟩|⟨_,h⟩
 ·exact M_ ⟨h1,c,d,e,f,g⟩ h
 rw[h]
theorem Dr{f:(Nat->Int)->(Nat->Int) × Int}{r:Nat->Nat->Int} : ∀ {n:Nat},(∀ i,i<n->(f (r i)).2=0)->jM f r n=0
 | 0,_=>rfl
 | n+1,h=>CF (Dr fun i a=>h i (by omega)) (h n (by omega))
theorem Gb(c:m.T.ok){f:(Nat->Int)->(Nat->Int) × Int}{x:Int}(h : ∀ y,y∈m.T.path x->(f (bA m y)).2=0):dw m f (m.T.path x)=0 :=
 Dr fun i a=>by
  have b:(m.T.path x).getD i 0∈m.T.path x:=by
   rw[r_,o_ a]; exact Q_ a
  have:=h _ b;unfold bA at this;rw[d_ (dM.oo c rfl _ b)]at this;exact this
theorem Al(h:bR v=true)(b:v.kind=5):1<=v.dst/\v.dst<=6/\v.dst≠v.o:=by
 unfold bR at h;simp only[S_]at h;have a:=h.2;unfold dL at a;rw[b_ (by omega),b_ (by omega),b_ (by omega),b_ (by omega),d_ b,S_]at a;have:=a.2;unfold mh iV at this;simp at this;omega
theorem Zk(a:bR v=true):gI v.o=true:=by have:=oh a; unfold gI; simp; omega
end
structure Tw(m:dN)(L:fA)(N S:Nat):Prop where
 t:Eo m L N
 w:Rj m
 s:(eH m).Sm S
 b:S<=1000000
section
variable {m:dN} {L:fA} {N S:Nat} {x y:Int} {v:EvM}
theorem Eo.may(h:Eo m L N)(hy:m.T.has y=true):may (bA m y)=true:=by
 obtain⟨i,a,e⟩:=(h.s.T.has y).1 hy;unfold bA;rw[d_ hy,<- e,h.s.row i a];exact h.i.may i a
theorem Tw.cell(h:Tw m L N S)(y:Int)(p:Nat):bA m y p<=65536000000:=by
 have:=h.s.r y p;have a:=h.b;show(eH m).R y p<=_;omega
theorem Tw.make(h:Tw m L N S)(s:bR v=true)(k:v.kind=1)(j:(eH m).QZ v):jc m v=0:=by
 obtain⟨a,b,c⟩:=j.pre.n1 k;obtain⟨d,e,f⟩:=j.k1 k;have r:qY v=nP v:=rO s;rw[r]at a b;unfold jc;have d:m.own (aN v)<5:=d;rw[b_ (show ¬ (5<=m.own (aN v)\/140737488355328<v.aQ) by omega)];show rF m.T.x m.T.p m.T.n (nP v) v.node=0;unfold rF;have a:dS m.T.x m.T.n (nP v)=false:=a;rw[b_ b,b_ (by rw[a]; decide)];rw[b_ (show ¬ (¬ v.node=0/\dS m.T.x m.T.n v.node=false)from fun q=>by
  rcases c with c|c
  ·exact q.1 c
  ·have c:dS m.T.x m.T.n v.node=true:=c;rw[q.2]at c; cases c)]
 rw[b_];rintro (q|q)
 ·have y:=h.w.n;have g:=h.w.o;have:=g 0 (by decide); have:=g 1 (by decide); have:=g 2 (by decide); have:=g 3 (by decide); have:=g 4 (by decide); have:=g 5 (by decide);omega
 obtain⟨u,_⟩:=Er h.t.t _ v.node (A_ _);exact f fun i l=>by
  rw[F7];exact(u i (n_ l q)).2
theorem Tw.make'(h:Tw m L N S)(k:bR v=true)(o:v.kind=1)(a:jc m v=0):(qY v≠0/\(eH m).has (qY v)=false/\(v.node=0\/(eH m).has v.node=true))/\(eH m).own (aV v)<5/\v.aQ<=140737488355328 /\ ¬ ∀ i,i<4->(eH m).has ((eH m).up v.node i)=true:=by
 have j:qY v=nP v:=rO k;unfold jc at a;by_cases c:5<=m.own (aN v)\/140737488355328<v.aQ
 ·rw[d_ c]at a; cases a
 rw[b_ c]at a;obtain⟨d,e,f,n,g⟩:=EJ a;rw[j];refine⟨⟨d,e,f⟩,?_,by omega,fun q => ?_⟩
 ·show m.own (aN v)<5;omega
 obtain⟨_,l⟩:=Er h.t.t _ v.node (A_ _);have:=q _ (show(m.T.path v.node).length<4 from g);rw[F7]at this;have b:m.T.has (Ma m.T v.node (m.T.path v.node).length)=true:=this;rw[l]at b; cases b
theorem Tw.does(h:Tw m L N S)(c:bR v=true)(I:oI v)(j:(eH m).QZ v):fJ m v=0:=by
 have k:=h.t.t;have P:=j.pre;have D:=Zk c;have G : ∀ y p n,n<=65536->bA m y p+n<=1125899906842624:=fun y p n U=>by have:=h.cell y p; omega
 unfold fJ;by_cases E:v.kind=1
 ·rw[d_ E]; exact h.make c E j
 rw[b_ E];by_cases A:v.kind=2
 ·rw[d_ A];have a:m.T.has v.node=true:=P.n2 A;have:=j.k2 A;have e:(eH m).R v.node (aV v)=m.R (m.idx v.node) (aN v):=by
   show bA m v.node (aV v)=_;unfold bA; rw[d_ a]; rfl
  rw[e]at this;unfold jG;rw[b_ (by rw[a]; decide),b_ (by omega)]
 rw[b_ A];by_cases w:v.kind=3
 ·rw[d_ w];have a:m.T.has v.node=true:=(P.n3 w).1;obtain⟨b,i⟩:=j.k3 w;have b:gZ m v.o v.req=false:=b;have r:=lI c (.inr (.inl w));unfold jU;rw[b_ (by rw[b]; decide),b_ (by rw[a]; decide)];refine Gb (f:=fun x=>bH x v.o v.aQ) k fun y u => ?_;have d:=h.t.may (dM.oo k rfl y u);have:=i y ((CQ k _ y).2 u);have this:v.aQ<=CO (bA m y) (aV v):=this;refine yC d r.1 r.2 D ?_ (G y _ _ I.aQ);unfold pX;rw[CS d c,g_ (by omega)]; rfl
 rw[b_ w];by_cases z:v.kind=4
 ·rw[d_ z];have a:iL m v.o v.of=true:=P.n4 z;obtain⟨b,i,J⟩:=j.k4 z;have b:gZ m v.o v.req=false:=b;have K:(eH m).g v.o v.of 2=m.g (fD m v.o v.of) 2:=d_ ⟨a,by decide,by decide⟩;have H:(eH m).g v.o v.of 3=m.g (fD m v.o v.of) 3:=d_ ⟨a,by decide,by decide⟩;have M:(eH m).g v.o v.of 4=m.g (fD m v.o v.of) 4:=d_ ⟨a,by decide,by decide⟩;have B:=h.s.g _ _ (P.n4 z);rw[K,H]at J;rw[H]at B;rw[M]at i;unfold jv;rw[b_ (by rw[b]; decide),b_ (show ¬ (iL m v.o v.of=false\/m.g (fD m v.o v.of) 4≠0)from fun q=>q.elim (fun q=>by rw[a]at q; cases q) (fun q=>q i))]
  refine Gb (f:=fun x=>bI x v.o (m.g (fD m v.o v.of) 3)) k fun y u => ?_;have d:=h.t.may (dM.oo k rfl y u);have:=J y ((CQ k _ y).2 u);have this:m.g (fD m v.o v.of) 3<=bA m y (6+aV v)-bA m y (12+aV v):=this;refine yC d B.1 (by omega) D ?_ (G y _ _ B.2);unfold pY C F;rw[(F9 c).2.2,g_ (by omega)]; rfl
 rw[b_ z];by_cases l:v.kind=5
 ·rw[d_ l];have a:m.T.has v.node=true:=P.n5 l;obtain⟨b,i⟩:=j.k5 l;have b:m.inn (v.dst-1).toNat=true:=b;have i:v.aQ<=CO (bA m v.node) (aV v):=i;have r:=lI c (.inr (.inr l));have d:=h.t.may a;have O:bA m v.node=m.R (m.idx v.node):=by unfold bA; rw[d_ a]; rfl
  have Q:=Al c l;unfold kI;rw[b_ (by rw[a]; decide),b_ (by rw[b]; decide)];show(dn (m.R (m.idx v.node)) v.o v.dst v.aQ).2=0;rw[<- O];refine yC d r.1 r.2 (by rw[D,show gI v.dst=true by unfold gI; simp; omega]; rfl) ?_ (G _ _ _ I.aQ);unfold nK;rw[b_ (fun e=>Q.2.2 e.symm),CS d c,g_ (by omega)]; rfl
 rw[b_ l];split <;> rfl
theorem Tw.okE(h:Tw m L N S)(D:bR v=true)(h1:m.inn (aN v)=true)(p:m.left (aN v)=false)(d:fJ m v=0):(eH m).QZ v:=by
 have B:=h.t.t;unfold fJ at d;have no : ∀ {k:Int} {P:Prop},v.kind≠k->v.kind=k->P:=fun a b=>M_ b a;by_cases r:v.kind=1
 ·rw[d_ r]at d;obtain⟨⟨H,I,J⟩,b⟩:=h.make' D r d;have n : ∀ {k:Int} {P:Prop},k≠1->v.kind=k->P:=fun a b=>M_ (b.symm.trans r) a;exact⟨h1,p,⟨fun _=>⟨I,H,J⟩,n (by decide),n (by decide),n (by decide),n (by decide)⟩,fun _=>b,n (by decide),n (by decide),n (by decide),n (by decide)⟩
 rw[b_ r]at d;by_cases w:v.kind=2
 ·rw[d_ w]at d;have n : ∀ {k:Int} {P:Prop},k≠2->v.kind=k->P:=fun a b=>M_ (b.symm.trans w) a;unfold jG at d
  cases f:m.T.has v.node with
  | false=>rw[d_ f]at d; cases d
  | true =>
    rw[b_ (by rw[f]; decide)]at d;have e:(eH m).R v.node (aV v)=m.R (m.idx v.node) (aN v):=by
     show bA m v.node (aV v)=_;unfold bA; rw[d_ f]; rfl
    refine⟨h1,p,⟨n (by decide),fun _=>f,n (by decide),n (by decide),n (by decide)⟩,n (by decide),fun _ => ?_,n (by decide),n (by decide),n (by decide)⟩;rw[e];by_cases c:140737488355328<m.R (m.idx v.node) (aN v)+v.aQ
    ·rw[d_ c]at d; cases d
    ·omega
 rw[b_ w]at d;by_cases x:v.kind=3
 ·rw[d_ x]at d;have n : ∀ {k:Int} {P:Prop},k≠3->v.kind=k->P:=fun a b=>M_ (b.symm.trans x) a;unfold jU at d
  cases c1:gZ m v.o v.req with
  | true=>rw[d_ c1]at d; cases d
  | false =>
    rw[b_ (by rw[c1]; decide)]at d
    cases f:m.T.has v.node with
    | false=>rw[d_ f]at d; cases d
    | true =>
      rw[b_ (by rw[f]; decide)]at d;have W:iL m v.o v.req=false:=pV fun i u e=>by
       have:=h.t.s.ga i u;rw[e.1,e.2,c1]at this; cases this
      refine⟨h1,p,⟨n (by decide),n (by decide),fun _=>⟨f,W⟩,n (by decide),n (by decide)⟩,n (by decide),n (by decide),fun _=>⟨c1,fun y l => ?_⟩,n (by decide),n (by decide)⟩;have l:=(CQ B _ y).1 l;have q:(bH (bA m y) v.o v.aQ).2=0:=yY B d l;unfold bH at q;have G:=yX q;have j:=G.2.2.2.2.1;unfold pX at j;rw[CS G.1 D]at j;show v.aQ<=CO (bA m y) (aV v);by_cases c:CO (bA m y) (aV v)<v.aQ
      ·rw[f_ c]at j; cases j
      ·omega
 rw[b_ x]at d;by_cases z:v.kind=4
 ·rw[d_ z]at d;have n : ∀ {k:Int} {P:Prop},k≠4->v.kind=k->P:=fun a b=>M_ (b.symm.trans z) a;unfold jv at d
  cases c1:gZ m v.o v.req with
  | true=>rw[d_ c1]at d; cases d
  | false =>
    rw[b_ (by rw[c1]; decide)]at d;by_cases A:iL m v.o v.of=false\/m.g (fD m v.o v.of) 4≠0
    ·rw[d_ A]at d; cases d
    ·rw[b_ A]at d;have f:iL m v.o v.of=true:=by
      cases e:iL m v.o v.of with
      | true=>rfl
      | false=>exact M_ (.inl e) A
     have U:m.g (fD m v.o v.of) 4=0:=Classical.byContradiction fun q=>A (.inr q);have K:(eH m).g v.o v.of 2=m.g (fD m v.o v.of) 2:=d_ ⟨f,by decide,by decide⟩;have M:(eH m).g v.o v.of 3=m.g (fD m v.o v.of) 3:=d_ ⟨f,by decide,by decide⟩;have O:(eH m).g v.o v.of 4=m.g (fD m v.o v.of) 4:=d_ ⟨f,by decide,by decide⟩;refine⟨h1,p,⟨n (by decide),n (by decide),n (by decide),fun _=>f,n (by decide)⟩,n (by decide),n (by decide),n (by decide),fun _=>⟨c1,O.trans U,fun y l => ?_⟩,n (by decide)⟩;rw[K]at l;rw[M];have l:=(CQ B _ y).1 l;have q:(bI (bA m y) v.o (m.g (fD m v.o v.of) 3)).2=0:=yY B d l;unfold bI at q;have G:=yX q;have j:=G.2.2.2.2.1;unfold pY C F at j;rw[(F9 D).2.2]at j;show m.g (fD m v.o v.of) 3<=bA m y (6+aV v)-bA m y (12+aV v);by_cases c:bA m y (6+aV v)-bA m y (12+aV v)<m.g (fD m v.o v.of) 3
     ·rw[f_ c]at j; cases j
     ·omega
 rw[b_ z]at d;by_cases E:v.kind=5
 ·rw[d_ E]at d;have n : ∀ {k:Int} {P:Prop},k≠5->v.kind=k->P:=fun a b=>M_ (b.symm.trans E) a;unfold kI at d
  cases f:m.T.has v.node with
  | false=>rw[d_ f]at d; cases d
  | true =>
    rw[b_ (by rw[f]; decide)]at d
    cases u:m.inn (v.dst-1).toNat with
    | false=>rw[d_ u]at d; cases d
    | true =>
      rw[b_ (by rw[u]; decide)]at d;have hm:=h.t.may f;have Q:bA m v.node=m.R (m.idx v.node):=(by unfold bA; rw[d_ f]; rfl);obtain⟨a,b,ha,hb,hne,ho,hd,X,Y,V,hM,heq⟩:=Bb d;refine⟨h1,p,⟨n (by decide),n (by decide),n (by decide),n (by decide),fun _=>f⟩,n (by decide),n (by decide),n (by decide),n (by decide),fun _=>⟨u,?_⟩⟩;show v.aQ<=CO (bA m v.node) (aV v);rw[Q,<- aaw,show aV v=a by unfold aV; omega];exact V
 have Z:=jg D;exact⟨h1,p,⟨no r,no w,no x,no z,no E⟩,no r,no w,no x,no z,no E⟩
theorem Zl{K:Nat->Int}(h:dH K v=true):kY K v=false:=by
 obtain⟨a,b,c⟩:=DL h;unfold kY;rw[g_ (show ¬ v.seq<=K (v.o-1).toNat by have b:v.seq=K (v.o-1).toNat+1:=b; omega),I_]
theorem Tw.check(h:Tw m L N S)(i:oI v)(hr:dH m.known v=true):bZ m v=0<->(eH m).QZ v:=by
 have f:=(DL hr).1;constructor
 ·intro g;obtain⟨a,b,c,d⟩:=qm g;exact h.okE f c d b
 intro e;unfold bZ;rw[b_ (by rw[f]; decide),b_ (by rw[Zl hr]; decide),b_ (by rw[hr]; decide),b_,h.does f i e];rintro (q|q)
 ·have:=e.inn; rw[show(eH m).inn (aV v)=m.inn (aN v)from rfl,q]at this; cases this
 have:=e.left; rw[show(eH m).left (aV v)=m.left (aN v)from rfl,q]at this; cases this
end
end Rt
end
section
namespace Rt
def Ww(k:Nat):Ab:=eH (yB k 0 0 0 0 0 0)
structure Ws(k:Nat)(ev:Nat->EvM)(an:Nat):Prop extends Evs (Ww k) ev an where
 sm : ∀ i,i<an->oI (ev i)
 an:an<=1000
structure tu(k:Nat)(ev:Nat->EvM)(an:Nat)(L:fA):Prop where
 ex : ∃ m N,Eo m L N/\Rj m/\eH m=fU ev L.known (Ww k) an
 kc:JY ev an L.known
section
variable {ev ev':Nat->EvM} {an n k i j:Nat} {K:Nat->Int} {L L':fA} {v:EvM} {m:dN} {N S:Nat} {A:Ab}
theorem aex(h:bR v=true):ME v:=by
 have a:=oh h;refine⟨⟨a.1,a.2.1⟩,a.2.2,?_,fun d=>⟨(Al h d).1,(Al h d).2.1⟩⟩;have i:=jg h;by_cases g:v.kind=2\/v.kind=3\/v.kind=5
 ·have:=(lI h g).1; omega
 have c:sI v=true:=by unfold bR at h; simp only[S_]at h; exact h.1.2
 have b:dL v=true:=by unfold bR at h; simp only[S_]at h; exact h.2
 by_cases f:v.kind=1
 ·unfold dL at b;rw[d_ f]at b;simp at b;omega
 have e:v.aQ=(kX v).aQ:=by unfold sI at c; simp only[S_,decide_eq_true_eq]at c; exact c.1.1.2
 rw[e];unfold kX;rw[b_ f,b_ (by omega),b_ (by omega)];split
 ·exact N_ _
 rw[b_ (by omega)];split <;> exact N_ _
theorem aey(k:Nat):(Ww k).Ok:=⟨rfl,fun _ h=>(nomatch h),fun _ _=>rfl,fun _ _ h=>(nomatch h),fun _ _ _=>rfl⟩
theorem aez(k:Nat):(Ww k).Sm 0:=⟨fun _ _=>N_ _,fun _ _ h=>(nomatch h)⟩
theorem ow0(k:Nat):Rj (yB k 0 0 0 0 0 0):=⟨rfl,fun _ _=>by show(0:Int)<=5; decide⟩
theorem Ab.Sm.mono{S':Nat}(h:A.Sm S)(a:S<=S'):A.Sm S':=⟨fun y p=>by have:=h.r y p; omega,h.g⟩
theorem Evs.cz(h:Evs A ev an):Cz 6 an ev (fun _=>fM ev an) where
 rd:=h.rd
 reg:=fun k a=>(h.g k a).reg.2
 own:=fun _ _=>rfl
 kc:=fun _ _=>⟨fun _ _=>N_ _,fun k a _ i b=>R_ ((DL (h.rd k a)).2.2 i b) (cnt_mono (by omega))⟩
theorem Ws.fsm(W:Ws k ev an)(a:JY ev an K) : ∀ n,n<=an->(fU ev K (Ww k) n).Sm n
 | 0,_=>aez k
 | n+1,hn=>by
   have b:=W.fsm a n (by omega)
   cases c:vR K (ev n)with
   | true =>
     rw[mR c];exact b.qR ((vK W.toEvs (n+1) hn K a).2 n (by omega) c).pre (DL (W.rd n (by omega))).1 (W.sm n (by omega))
   | false=>rw[ni c]; exact b.mono (by omega)
theorem tu.tw(h:tu k ev an L)(W:Ws k ev an) : ∃ m N,Tw m L N an/\eH m=fU ev L.known (Ww k) an:=by
 obtain⟨m,N,b,c,a⟩:=h.ex;exact⟨m,N,⟨b,c,by rw[a]; exact W.fsm h.kc an (A_ _),by have:=W.an; omega⟩,a⟩
theorem tu.ready(h:tu k ev an L)(W:Ws k ev an)(c:j<an)(hr:dH L.known (ev j)=true):bG L (ev j)=0:=by
 obtain⟨m,N,a,d⟩:=h.tw W;have b:=Iy W.toEvs h.kc c hr (show j<=an by omega) (A_ _);rw[<- d]at b;rw[<- (a.t.s.apply a.t.t a.t.i (ev j)).1];exact(a.check (W.sm j c) (by rw[a.t.s.known]; exact hr)).2 b
theorem tu.apply(h:tu k ev an L)(W:Ws k ev an)(b:j<an):tu k ev an (dh L (ev j)):=by
 rcases om L (ev j)with ⟨c,e⟩|⟨c,e⟩
 ·have d:=jh c;obtain⟨m,N,a,f,g⟩:=h.ex;have l:bZ m (ev j)=0:=(a.s.apply a.t a.i (ev j)).1.trans c;refine⟨⟨jw m (ev j),N+1,a.apply (ev j),f.apply,?_⟩,by rw[e]; exact W.toEvs.cz.step h.kc b d⟩;rw[Q7 a.t a.s.ga l,g,e];exact(Zh W.toEvs h.kc b d).symm
 rw[e]; exact h
theorem tu.pass(W:Ws k ev an){a:Nat->Int}(h:tu k ev an L) : ∀ j,j<=an->tu k ev an (nM ev a L j)
 | 0,_=>h
 | j+1,hj=>by
   unfold nM;split
   ·exact(h.pass W j (by omega)).apply W (by omega)
   ·exact h.pass W j (by omega)
theorem tu.iA(W:Ws k ev an){a:Nat->Int} : ∀ f L,tu k ev an L->tu k ev an (iA ev an a f L)
 | 0,L,hL=>by unfold Rt.iA; exact hL
 | f+1,L,hL=>by
   unfold Rt.iA;split
   ·exact hL.pass W an (A_ _)
   ·exact tu.iA W f _ (hL.pass W an (A_ _))
theorem tu.new(k:Nat)(ev:Nat->EvM)(an:Nat)(a : ∀ i,i<an->1<=(ev i).seq)(f:Nat):tu k ev an (ku k f).core:=by
 have d : ∀ n,n<=an->fU ev (fun _=>0) (Ww k) n=Ww k:=fun n=>by
  induction n with
  | zero=>intro _; rfl
  | succ n ih =>
    intro h;have c:vR (fun _=>0) (ev n)=false:=g_ (show ¬ (ev n).seq<=0 by have:=a n (by omega); omega);rw[ni c]; exact ih (by omega)
 exact⟨⟨yB k 0 0 0 0 0 0,0,Eo.new k,ow0 k,(d an (A_ _)).symm⟩,fun i b=>FE an i,fun i b e j g=>M_ (show(ev i).seq<=0 from e) (by have:=a i b; omega)⟩
theorem CU(h : ∀ i,i<n->ev' i=ev i):fU ev' K A n=fU ev K A n:=by
 induction n with
 | zero=>rfl
 | succ n ih =>
   show(if vR K (ev' n)=true then(fU ev' K A n).qR (ev' n)else fU ev' K A n)=_;rw[ih fun i a=>h i (by omega),h n (by omega)]; rfl
theorem wU{v:EvM} : ∀ i,i<an->aI ev an v i=ev i:=fun i a=>b_ (by omega)
theorem uL{v:EvM}:aI ev an v an=v:=d_ rfl
theorem JY.more(h:JY ev an K)(g:bR v=true)(l:v.seq=fM ev an (aN v)+1):JY (aI ev an v) (an+1) K/\vR K v=false:=by
 have c : ¬ v.seq<=K (aN v):=by have:=h.le _ (jT g); omega
 refine⟨⟨fun i b => ?_,fun i b a j f => ?_⟩,g_ c⟩
 ·have:=h.le i b;have d:=cnt_mono (ev:=aI ev an v) (j:=an) (k:=an+1) (i:=i) (by omega);rw[Bl an (A_ _)]at d;omega
 by_cases e:i=an
 ·rw[e,uL]at a; exact M_ a c
 rw[wU i (by omega)]at a ⊢;exact h.cl i (by omega) a j f
theorem tu.more(h:tu k ev an L)(g:bR v=true)(f:v.seq=fM ev an (aN v)+1):tu k (aI ev an v) (an+1) L:=by
 obtain⟨m,N,c,d,e⟩:=h.ex;obtain⟨a,b⟩:=h.kc.more g f;refine⟨⟨m,N,c,d,?_⟩,a⟩;rw[ni (by rw[uL]; exact b),CU wU];exact e
theorem Ws.more(W:Ws k ev an)(h:tu k ev an L)(u:an<1000)(p:oI v)(n:bG L v=0)(d:v.deps=L.known)(f:v.seq=fM ev an (aN v)+1):Ws k (aI ev an v) (an+1):=by
 have o:=jh n;have c:=(DL o).1;have q : ∀ j,j<=an -> ∀ i,fM (aI ev an v) j i=fM ev j i:=fun j a i=>Bl j a i;have l : ∀ j,j<=an->fM (aI ev an v) j=fM ev j:=fun j a=>funext (q j a);refine { ok0:=W.ok0,rd:=fun j a => ?_,g:=fun j a => ?_,dc:=fun j a => ?_,tk:=fun j a => ?_,sm:=fun j a => ?_,an:=by omega }
 ·by_cases e:j=an
  ·rw[e,uL,l an (A_ _)];exact Jv c f (by rw[d]; exact h.kc.le)
  rw[wU j (by omega),l j (by omega)]; exact W.rd j (by omega)
 ·by_cases e:j=an
  ·rw[e,uL]; exact aex c
  rw[wU j (by omega)]; exact W.g j (by omega)
 ·by_cases e:j=an
  ·rw[e,uL,d]; exact(h.kc.more c f).1
  rw[wU j (by omega)]; exact((W.dc j (by omega)).more c f).1
 ·by_cases e:j=an
  ·rw[e,uL,d,CU wU];obtain⟨m,N,b,r⟩:=h.tw W;rw[<- r];exact(b.check p (by rw[b.t.s.known]; exact o)).1 ((b.t.s.apply b.t.t b.t.i v).1.trans n)
  rw[wU j (by omega),CU fun i w=>wU i (by omega)]; exact W.tk j (by omega)
 by_cases e:j=an
 ·rw[e,uL]; exact p
 rw[wU j (by omega)]; exact W.sm j (by omega)
theorem Ws.zero(k:Nat)(ev:Nat->EvM):Ws k ev 0 where
 ok0:=aey k
 rd:=fun _ h=>M_ h (z_ _)
 g:=fun _ h=>M_ h (z_ _)
 dc:=fun _ h=>M_ h (z_ _)
 tk:=fun _ h=>M_ h (z_ _)
 sm:=fun _ h=>M_ h (z_ _)
 an:=by decide
end
structure WC(M:WM):Prop where
 w:Ws M.n M.ev M.an
 f : ∀ o,o<M.n->tu M.n M.ev M.an (M.ml o).core
theorem WC.new{M:WM}(a:M.an=0)(h : ∀ i,(M.ml i).core=(ku M.n 0).core):WC M:=by
 refine⟨by rw[a]; exact .zero _ _,fun o c=>by rw[h,a]; exact .new _ _ _ (fun i b=>M_ b (z_ _)) 0⟩
theorem WC.do{w':World}{M k:WM}{B p T o:Nat}{x:DW}{v:EvM}(h:WC M)(y:ou w' B p k T)(j:o<M.n)(a:DoR o x M k v)(z:M.an<1000)(A:(M.ml o).s.known o=fM M.ev M.an o):WC k:=by
 rcases a.c with ⟨u,g,d,b⟩|⟨u,g,d,b,h5,h6,h7,h8⟩
 ·refine⟨by rw[a.n,g,d]; exact h.w,fun q i => ?_⟩;rw[a.n]at i;rw[a.n,g,d];by_cases e:q=o
  ·rw[e]
   rcases b with b|⟨_,b⟩
   ·rw[b]; exact h.f o j
   rw[b]; exact tu.iA h.w _ _ (h.f o j)
  rw[a.oth q e]; exact h.f q i
 have C:=jh b;have r:=(DL C).1;have t:aN v=o:=by unfold aN; omega
 have l:v.seq=fM M.ev M.an (aN v)+1:=by rw[t,<- A]; exact h7
 have D:oI v:=by
  have:=y.sm M.an (by omega);rw[d,uL]at this; exact this
 have m:Ws M.n (aI M.ev M.an v) (M.an+1):=h.w.more (h.f o j) z D b h8 l;refine⟨by rw[a.n,g,d]; exact m,fun q i => ?_⟩;rw[a.n]at i;rw[a.n,g,d];by_cases e:q=o
 ·rw[e,h5];have:=((h.f o j).more r l).apply m (show M.an<M.an+1 by omega);rw[uL]at this;exact this
 rw[a.oth q e]; exact(h.f q i).more r l
end Rt
end
section
namespace Rt
structure Dt(L L':fA):Prop where
 inn:L'.inn=L.inn
 left:L'.left=L.left
 kn : ∀ i,i<6->L'.known i=L.known i
 nn:L'.nn=L.nn
 gn:L'.gn=L.gn
 n : ∀ k,k<L.nn->L'.id k=L.id k/\L'.par k=L.par k/\L'.R k=L.R k
 g : ∀ k,k<L.gn -> ∀ p,p<5->L'.g k p=L.g k p
section
variable {ev:Nat->EvM} {an k:Nat} {L L':fA} {m m':dN} {N N':Nat}
theorem fT.Zm(h:fT m L){q:Nat}(i:q<L.gn):iL m (L.g q 0) (L.g q 1)=true /\ ∀ p,2<=p->p<=4->(eH m).g (L.g q 0) (L.g q 1) p=L.g q p:=by
 obtain⟨j,d,e⟩:=h.g1 q i;have c:iL m (L.g q 0) (L.g q 1)=true:=sZ d (by rw[<- e]) (by rw[<- e]);have f:fD m (L.g q 0) (L.g q 1)=j:=yS h.gi d (by rw[<- e]) (by rw[<- e]);refine⟨c,fun p a b => ?_⟩;rw[show(eH m).g (L.g q 0) (L.g q 1) p=m.g (fD m (L.g q 0) (L.g q 1)) p from d_ ⟨c,a,b⟩,f,e]
theorem IE{f:Nat->Int}{n i:Nat}(hi:i<n):((List.range n).map f).getD i 0=f i:=by
 rw[r_,o_ (by rw[List.length_map,List.length_range]; exact hi)]; simp
theorem IG{f g:Nat->Int}{n n':Nat}(m : ∀ i j,i<j->j<n->f i<f j)(o : ∀ i j,i<j->j<n'->g i<g j)(h1 : ∀ i,i<n -> ∃ j,j<n'/\g j=f i)(l : ∀ j,j<n' -> ∃ i,i<n/\f i=g j):n'=n /\ ∀ i,i<n->g i=f i:=by
 have e:(List.range n).map f=(List.range n').map g:=uU (by
  rw[List.pairwise_map];exact(List.pairwise_lt_range (n:=n)).imp_of_mem fun {a b} _ hb hab=>m a b hab (O_.1 hb)) (by
  rw[List.pairwise_map];exact(List.pairwise_lt_range (n:=n')).imp_of_mem fun {a b} _ hb hab=>o a b hab (O_.1 hb)) fun x=>by
  rw[List.mem_map,List.mem_map];constructor
  ·rintro ⟨i,c,rfl⟩;obtain⟨j,d,k⟩:=h1 i (O_.1 c);exact⟨j,O_.2 d,k⟩
  ·rintro ⟨j,d,rfl⟩;obtain⟨i,c,h⟩:=l j (O_.1 d);exact⟨i,O_.2 c,h⟩
 have p:n'=n:=by have:=L_ List.length e; rw[List.length_map,List.length_map,List.length_range,List.length_range]at this; exact this.symm
 refine⟨p,fun i c => ?_⟩;have:=L_ (fun z:List Int=>z.getD i 0) e;have:((List.range n).map f).getD i 0=((List.range n').map g).getD i 0:=this;rw[IE c,IE (by omega)]at this;exact this.symm
theorem Eo.same(h:Eo m L N)(d:Eo m' L' N')(C:xH L)(D:xH L')(e:eH m'=eH m)(I : ∀ i,i<6->L'.known i=L.known i):Dt L L':=by
 have B : ∀ y,m'.T.has y=m.T.has y:=fun y=>congrFun (L_ Ab.has e) y;have J : ∀ y,m'.T.par y=m.T.par y:=fun y=>congrFun (L_ Ab.par e) y;have H : ∀ y,bA m' y=bA m y:=fun y=>congrFun (L_ Ab.R e) y;have u : ∀ o r,iL m' o r=iL m o r:=fun o r=>congrFun (congrFun (L_ Ab.gh e) o) r;have w : ∀ {m:dN} {L:fA} {N:Nat},Eo m L N -> ∀ i,i<L.nn->m.T.has (L.id i)=true/\bA m (L.id i)=L.R i:=fun {m L N} h i k=>by
  have a:m.T.has (L.id i)=true:=(h.s.T.has _).2 ⟨i,k,rfl⟩;refine⟨a,?_⟩;unfold bA;rw[d_ a,h.s.row i k]
 obtain⟨Q,z⟩:=IG (f:=L.id) (g:=L'.id) (n:=L.nn) (n':=L'.nn) h.i.rise d.i.rise (fun i k=>(d.s.T.has _).1 (by rw[B]; exact(w h i k).1)) (fun i k=>(h.s.T.has _).1 (by rw[<- B]; exact(w d i k).1));have F : ∀ {m m':dN} {L L':fA} {N N':Nat},Eo m L N->Eo m' L' N'->(∀ o r,iL m' o r=iL m o r) -> ∀ q,q<L.gn -> ∃ j,j<L'.gn/\oq (L'.g j)=oq (L.g q):=fun {m m' L L' N N'} h d u q t=>by
  have a:=(h.s.Zm t).1;rw[<- u]at a;obtain⟨j,O,l,x⟩:=lM.1 a;obtain⟨S,v,G⟩:=d.s.g2 j O;have l:m'.g j 0=L.g q 0:=l;have x:m'.g j 1=L.g q 1:=x;exact⟨S,v,by unfold oq; rw[G,l,x]⟩
 obtain⟨K,M⟩:=IG (f:=fun q=>oq (L.g q)) (g:=fun q=>oq (L'.g q)) (n:=L.gn) (n':=L'.gn) C.up D.up (F h d u) (F d h fun o r=>(u o r).symm);refine⟨by rw[<- h.s.inn,<- d.s.inn]; exact L_ Ab.inn e,by rw[<- h.s.left,<- d.s.left]; exact L_ Ab.left e,I,Q,K,fun i k => ?_,fun q t p W => ?_⟩
 ·have E:i<L'.nn:=by omega
  refine⟨z i k,?_,?_⟩
  ·rw[<- h.s.T.par i k,<- d.s.T.par i E,J,z i k]
  rw[<- (w h i k).2,<- (w d i E).2,H,z i k]
 have v:q<L'.gn:=by omega
 have P:oq (L'.g q)=oq (L.g q):=M q t;have U:=(C.wf q t).1;have V:=(D.wf q v).1;unfold oq at P;unfold iP at U V;have A:L'.g q 0=L.g q 0:=by omega
 have l:L'.g q 1=L.g q 1:=by omega
 by_cases c:2<=p
 ·have a:=(h.s.Zm t).2 p c (by omega);have b:=(d.s.Zm v).2 p c (by omega);rw[<- a,<- b,A,l,L_ Ab.g e]
 rcases(show p=0\/p=1 by omega)with rfl|rfl
 ·exact A
 exact l
theorem JO{K K':Nat->Int}{A:Ab}(h : ∀ i,i<6->K' i=K i)(a : ∀ i,i<an->aN (ev i)<6) : ∀ n,n<=an->fU ev K' A n=fU ev K A n
 | 0,_=>rfl
 | n+1,hn=>by
   have c:vR K' (ev n)=vR K (ev n):=(by unfold vR; rw[h _ (a n (by omega))]);show(if vR K' (ev n)=true then(fU ev K' A n).qR (ev n)else fU ev K' A n)=_;rw[JO h a n (by omega),c]; rfl
theorem tu.same(h:tu k ev an L)(f:tu k ev an L')(W:Ws k ev an)(j:xH L)(l:xH L')(a : ∀ i,i<6->L'.known i=L.known i):Dt L L':=by
 obtain⟨m,N,b,o,c⟩:=h.ex;obtain⟨m',N',d,p,e⟩:=f.ex;refine b.same d j l ?_ a;rw[c,e];exact JO a (fun i n=>(W.g i n).reg.2) an (A_ _)
theorem tu.next(h:tu k ev an L)(W:Ws k ev an){i:Nat}(hi:i<an)(b:L.known=fM ev i):bG L (ev i)=0/\(dh L (ev i)).known=fM ev (i+1):=by
 have a:=h.ready W hi (by rw[b]; exact W.rd i hi);refine⟨a,?_⟩;rw[yV a,b]
 funext q
 unfold aI;show _=fM ev i q+if aN (ev i)=q then 1 else 0;by_cases e:q=aN (ev i)
 ·rw[d_ e,d_ e.symm,e]
 rw[b_ e,b_ (fun q=>e q.symm),D_]
theorem Zn(W:Ws k ev an) : ∀ i,i<an->1<=(ev i).seq:=fun i a=>(W.g i a).seq.1
theorem tu.some(h:tu k ev an L)(W:Ws k ev an){i:Nat}(hi:i<an):bG L (ev i)=0\/bG L (ev i)=14\/bG L (ev i)=13:=by
 by_cases c:dH L.known (ev i)=true
 ·exact .inl (h.ready W hi c)
 right;have b:=(DL (W.rd i hi)).1;unfold bG;rw[b_ (by rw[b]; decide)];by_cases a:kY L.known (ev i)=true
 ·rw[d_ a]; exact .inl rfl
 rw[b_ a,d_ (by simpa using c)]; exact .inr rfl
end
end Rt
end
section
namespace Rt
def vL(K c:Nat->Int):Nat->Int:=fun q=>if K q<=c q then K q else c q
section
variable {ev:Nat->EvM} {an k i r:Nat} {K K':Nat->Int} {L:fA} {v:EvM}
theorem Bz(ev:Nat->EvM)(i q:Nat):fM ev (i+1) q=fM ev i q+if aN (ev i)=q then 1 else 0:=rfl
theorem tu.nextK(h:tu k ev an L)(W:Ws k ev an)(hi:i<an)(m:JY ev an K)(f : ∀ q,q<6->L.known q=vL K (fM ev i) q)(n:(ev i).seq<=K (aN (ev i))) :
 bG L (ev i)=0 /\ ∀ q,q<6->(dh L (ev i)).known q=vL K (fM ev (i+1)) q:=by
 obtain⟨a,b,c⟩:=DL (W.rd i hi);have l:=jT a;have g:L.known (aN (ev i))=fM ev i (aN (ev i)):=by rw[f _ l]; unfold vL; rw[b_ (by omega)]
 have o:dH L.known (ev i)=true:=Jv a (by rw[g]; exact b) fun q d=>by
  rw[f q d]; unfold vL;split
  ·exact m.cl i hi n q d
  ·exact c q d
 have j:=h.ready W hi o;refine⟨j,fun q d => ?_⟩;rw[yV j];unfold aI;by_cases e:q=aN (ev i)
 ·rw[d_ e,g,e];unfold vL;rw[Bz,d_ rfl,Q8 (by omega)]
 rw[b_ e,f q d];unfold vL;rw[Bz,b_ (show ¬ aN (ev i)=q from fun z=>e z.symm),D_]
where Q8 {a b:Int} (h:b<=a):(if a<=b then a else b)=b:=by split <;> omega
theorem aiA(W:Ws k ev an)(hi:i<an)(c : ∀ q,q<6->L.known q=vL K (fM ev i) q)(a : ¬ (ev i).seq<=K (aN (ev i))) : ∀ q,q<6->L.known q=vL K (fM ev (i+1)) q:=fun q d=>by
 have b:=(DL (W.rd i hi)).2.1;rw[c q d];unfold vL;rw[Bz];by_cases e:aN (ev i)=q
 ·rw[d_ e]; rw[e]at b a;rw[d_ (by omega),d_ (by omega)]
 ·rw[b_ e,D_]
theorem aiB(c:JY ev an K)(a : ∀ q,q<6->0<=K q) : ∀ q,q<6->(0:Int)=vL K (fM ev 0) q:=fun q b=>by
 unfold vL; show(0:Int)=if K q<=0 then K q else 0;have:=a q b;split <;> omega
theorem aiC(a:JY ev an K) : ∀ q,q<6->vL K (fM ev an) q=K q:=fun q b=>by unfold vL; rw[d_ (a.le q b)]
theorem aeA(W:Ws k ev an)(hi:i<an)(e : ∀ q,q<6->L.known q=K q)(d:(ev i).seq<=K (aN (ev i))):bG L (ev i)=14/\dh L (ev i)=L:=by
 have a:=(DL (W.rd i hi)).1;have c:kY L.known (ev i)=true:=by
  have f:(ev i).seq<=L.known (aN (ev i)):=by rw[e _ (jT a)]; exact d
  unfold kY; rw[a,f_ (show(ev i).seq<=L.known ((ev i).o-1).toNat from f)]; rfl
 have b:bG L (ev i)=14:=by unfold bG; rw[b_ (by rw[a]; decide),d_ c]
 exact⟨b,by unfold dh; rw[b_ (by rw[b]; decide)]⟩
theorem Wy(L:fA)(v:EvM)(q:Nat):L.known q<=(dh L v).known q:=by
 rcases om L v with ⟨_,e⟩|⟨_,e⟩
 ·rw[e]; unfold aI; split
  ·subst_vars; omega
  exact N_ _
 rw[e]; exact N_ _
theorem tu.reach(h:tu k ev an L)(W:Ws k ev an)(hr:r<an)(d : ∀ q,q<6->fM ev r q<=L.known q) : ∀ q,q<6->fM ev (r+1) q<=(dh L (ev r)).known q:=fun q l=>by
 obtain⟨a,b,c⟩:=DL (W.rd r hr);have i:=jT a;have o:=d q l;have s:=Wy L (ev r) q;rw[Bz];by_cases e:aN (ev r)=q
 ·rw[d_ e];by_cases n:(ev r).seq<=L.known q
  ·rw[e]at b; omega
  ·have j:=d _ i;have m:(ev r).seq=L.known (aN (ev r))+1:=(by rw[e]at b j ⊢; omega);have g:=h.ready W hr (Jv a m fun p f=>R_ (c p f) (d p f));rw[yV g,e];unfold aI; rw[d_ rfl,e]at *; omega
 ·rw[b_ e]; omega
theorem tu.full(h:tu k ev an L)(b : ∀ q,q<6->fM ev an q<=L.known q) : ∀ q,q<6->L.known q=fM ev an q:=fun q a=>by
 have:=h.kc.le q a; have:=b q a; omega
end
end Rt
end
namespace Rt
theorem Dt.st{L L':fA}(h:Dt L L')(d:Option Addr)(e:Nat)(a:Option Addr)(b:Nat) : ∀ p,p<20->mY (Mx L' d e a b) p=mY (Mx L d e a b) p:=fun p f=>by
 unfold mY Mx;simp only[h.inn,h.left,h.nn,h.gn];by_cases c:12<=p/\p<18
 ·rw[h.kn (p-12) (by omega)]
 ·repeat' split
  all_goals first|rfl|omega
end Rt
theorem J2.same{w:World}{s:DI}{L L':fA}(h:J2 w s L')(d:Dt L L'):J2 w (Mx L s.na s.nc s.ga s.gc) L:=by
 refine⟨rfl,?_,?_⟩
 ·have e:=h.n;rw[d.nn]at e;exact e.congr fun j k=>by
   unfold flat VK;obtain⟨a,b,c⟩:=d.n (j / 56) (by omega);rw[a,b,c]
 have e:=h.g;rw[d.gn]at e;exact e.congr fun j k=>by
  unfold flat VL ji;have g:=d.g (j / 5) (by omega) (j % 5) (J_ _ (by decide));have f:=d.g (j / 5) (by omega) 0 (by decide);have i:=d.g (j / 5) (by omega) 3 (by decide);rw[g,f,i]
theorem Zo{w:World}{d a:DI}{L L':fA}(h1:J2 w d L)(b:J2 w a L')(c:Dt L L')(g:LWf L):Calls Tryz.prog 17 #[.agg (aA 20 (mY d)),.agg (aA 20 (mY a))] w fun e w'=>e = .returned (.bool true)/\Below w.heap.size w w' :=
 yU (Pk h1 (b.same c) g) (by rw[Fx.dW (show ∀ p,p<20->mY a p=mY (Mx L a.na a.nc a.ga a.gc) p from fun p f=>by rw[b.e]; exact c.st _ _ _ _ p f)])
namespace Rt
structure qo where
 kind:Int
 node:Int
 dst:Int
 aQ:Int
 req:Int
 of:Int
def oJ(x:qo):Nat->Value:=fun p=>if p=0 then .int .u8 x.kind else if p=1 then .int .u64 x.node else if p=2 then .int .i64 x.dst else if p=3 then .int .i64 x.aQ else if p=4 then .int .u64 x.req else .int .u64 x.of
structure tC(x:qo):Prop where
 kind:0<=x.kind/\x.kind<=255
 node:iP x.node
 dst:oZ x.dst
 aQ:oZ x.aQ
 req:iP x.req
 of:iP x.of
end Rt
namespace Rt
def qQ(K:Nat->Int)(i:Int)(x:qo):EvM:=⟨i,K (i-1).toNat+1,K,x.kind,x.node,x.dst,x.aQ,x.req,x.of⟩
end Rt
theorem Zp(K:Nat->Int)(i:Int)(hr:iV i=false)(w:World) :
 Calls Tryz.prog 41 #[.agg (aA 6 (rv .u64 K)),au i] w fun e w'=>e = .returned (.tuple #[aC 0,au 10])/\Below w.heap.size w w':=by
 refine Kent Tryz.func41 21 ?_;refine ay<|oL fun f j b c d k => ?_;have a:=bB d.old (Below.refl w.heap.size w);have g:=gH b;have h:=c.lt;refine av (aC 0)<|av (au 0)<|aD<|Ws<|Wb<|ay<|av (au i)<|kQ (JC i _) aF (by rw[hr])<|av aG<|av aG<|aD<|aM<|ay<|av (aC 0)<|av (au 10)<|aD<|Wr<|bK<|sR<|aJ (.tuple #[aC 0,au 10]) ?_;exact⟨rfl,a⟩
theorem Zq(K:Nat->Int)(i:Int)(a:Nat)(ha:a<6)(h:i=(a:Int)+1)(g:AY K)(w:World) :
 Calls Tryz.prog 41 #[.agg (aA 6 (rv .u64 K)),au i] w fun e w'=>e = .returned (.tuple #[aC (K a+1),au 0])/\Below w.heap.size w w':=by
 have j:iV i=true:=by rw[h]; unfold iV; simp; omega
 have l:=g a ha;refine Kent Tryz.func41 21 ?_;refine ay<|oL fun c o f b k p => ?_;have d:=bB k.old (Below.refl w.heap.size w);have m:=gH f;have n:=b.lt;refine av (aC 0)<|av (au 0)<|aD<|Ws<|Wb<|ay<|av (au i)<|kQ (JC i _) aG (by rw[j])<|av aF<|av aF<|aD<|aK<|ay<|av (au i)<|Lv (au a) gF<|Lv (pf c a) (jI 6 1)<|Lv (aC (K a)) (aL b.aH a)<|Lv aF GR<|av aF<|aD<|aK<|Wk<|bP<|sN<|ay<|av (au i)<|Lv (au a) gF<|Lv (pf c a) (jI 6 1)<|Lv (aC (K a)) (aL b.aH a)<|Lv (aC ((K a)+1)) fF<|av (aC ((K a)+1))<|av (au 0)<|aD<|Wr<|aJ (.tuple #[aC ((K a)+1),au 0]) ?_;exact⟨rfl,d⟩
theorem aiD(v:EvM)(i c:Int)(K:Nat->Int)(a:Nat)(w:World)(b:aR w a 14 (bM v) 37)(d:Nat)(g:Nat)(f:Nat)(hi:aR w d 1 (fun _=>au i) 3)(k:aR w g 1 (fun _=>aC c) 23)(h:aR w f 6 (rv .u64 (K)) 35) :
 Calls Tryz.prog 43 #[(pt a),(pt d),(pt g),(pt f)] w fun e w'=>e = .returned (.tuple #[])/\aR w' a 14 (bM ⟨i,c,K,v.kind,v.node,v.dst,v.aQ,v.req,v.of⟩) 37/\Stp a w w':=by
 have L:=b.lt;have M:=hi.lt;have O:=k.lt;have N:=h.lt;have P:d≠a:=fun e=>M_ (Fx.Ty.only (e ▸ hi.ty) b.ty) (by decide);have Q:g≠a:=fun e=>M_ (Fx.Ty.only (e ▸ k.ty) b.ty) (by decide);have R:f≠a:=fun e=>M_ (Fx.Ty.only (e ▸ h.ty) b.ty) (by decide);refine Kent Tryz.func43 17 ?_;refine zO [0,1,2,3,6,7,4,5,8,9,10,11,12,13,14] [0,0,0,4,1,1,0,0,2,0,0,2,0,0,2] (Fx.Aq [37]) Fx.Aq.refl Fx.Aq.trans (fP := [(8,3,[3]),(11,3,[3]),(14,3,[3]),(9,8,[8]),(10,8,[8]),(11,8,[8]),(12,8,[8]),(13,8,[8]),(14,8,[8]),(12,11,[11]),(13,11,[11]),(14,11,[11])]) (by kernel_rfl) (by kernel_rfl) (by kernel_rfl) (by kernel_rfl) (by kernel_rfl) fun H m J => ?_;have F:Stp w.heap.size w H:=Sb m;have⟨n,C,D,E⟩:=jP m b hi k h;have t:=(nk a w).then F (.inr (nk a w).size);refine aY (pt a)<|aY (pt a)<|aY (pt a)<|Rs (au i) (aL C.aH 0) ?_;refine aY (pt a)<|aY (pt a)<|Rd (v:=aC c) (by rfl) (by rfl) (Fx.Aq.refl _) (fun G l=>bf (x:=fun _=>aC c) rfl rfl (by kernel_rfl) (D.I9 l (by decide)).aH (i:=0) (by omega) (by omega) rfl) ?_;refine Rd (v := .agg (aA 6 (rv .u64 (K)))) (by rfl) (by rfl) (Fx.Aq.refl _) (fun G l=>dX (x:=rv .u64 (K)) (y:=rv .u64 (K)) rfl rfl (by kernel_rfl) (by kernel_rfl) (E.I9 l (by decide)).aH (i:=0) (by omega) (by omega) (fun j _=>by rw[G_])) ?_;refine zi<|jd n 0 (au i) fun S o q V => ?_;have u:=t.then q (by omega);refine Ln ⟨Fx.Aq.I8 ((gQ q n.ty).wide (by decide)),?_⟩;refine aY (pt a)<|aY (pf a 1)<|zi<|jd o 1 (aC c) fun T p r W => ?_;have z:=u.then r (by omega);refine Ln ⟨Fx.Aq.I8 ((gQ r o.ty).wide (by decide)),?_⟩;refine aY (pt a)<|aY (pf a 2)<|zi<|eB p 2 fun U B s X => ?_;have A:=z.then s (by omega);refine Ln ⟨Fx.Aq.I8 ((gQ s p.ty).wide (by decide)),?_⟩;refine Rn (⟨.tuple #[],iN Tryz.results43,?_⟩);exact⟨rfl,B.congr (fun j I=>by rcases j with _|_|_|_|_|_|_|_|_|_|_|_|_|_|j <;> first|rfl|omega),A⟩
theorem aeB(x:qo)(i d:Int)(K:Nat->Int)(w:World)(g:Nat)(k:Nat)(h:Nat)(hi:aR w g 1 (fun _=>au i) 3)(m:aR w k 1 (fun _=>aC d) 23)(l:aR w h 6 (rv .u64 (K)) 35) :
 Calls Tryz.prog 42 #[.agg (aA 6 (oJ x)),.func (.func 43) #[] #[(pt g),(pt k),(pt h)]] w fun e w'=>e = .returned (.agg (aA 14 (bM ⟨i,d,K,x.kind,x.node,x.dst,x.aQ,x.req,x.of⟩)))/\Below w.heap.size w w':=by
 have lgi:=hi.lt;have lgs:=m.lt;have lgk:=l.lt;refine Kent Tryz.func42 22 ?_;refine ay<|oL fun c w1 y n s1 z1 => ?_;have⟨C,E,F,r⟩:=jP s1.old hi m l (Below.refl w.heap.size w);have su:=gH y;have⟨mJ,TT,yw⟩:=EF y hi.lt m.lt l.lt;have ug:=n.lt;refine rD 14 (fun a=>if a<1 then au 0 else if a<8 then aC 0 else if a<9 then .int .u8 (0)else if a<10 then aC 0 else if a<12 then au 0 else aC 0) fun O w2 z p s2 z2 => ?_;have⟨G,H,I,b,s⟩:=oQ s2.old C E F n r;have qK:=iI z r.size;have⟨aac,KU,aag,Lj⟩:=PL z C.lt E.lt F.lt n.lt;have yK:=p.lt;refine aD<|ay<|av (pt c)<|Lv (.int .u8 (x.kind)) (aL b.aH 0)<|av (pf c 1)<|Lv (aC x.node) (aL b.aH 1)<|av (pf c 2)<|Lv (au x.dst) (aL b.aH 2)<|av (pf c 3)<|Lv (au x.aQ) (aL b.aH 3)<|av (pf c 4)<|Lv (aC x.req) (aL b.aH 4)<|av (pf c 5)<|Lv (aC x.of) (aL b.aH 5)<|av (.agg (aA 14 (bC (bC (bC (bC (bC (bC (fun a=>if a<1 then au 0 else if a<8 then aC 0 else if a<9 then .int .u8 (0)else if a<10 then aC 0 else if a<12 then au 0 else aC 0) 8 1 (fun _ => .int .u8 (x.kind))) 9 1 (fun _=>aC x.node)) 10 1 (fun _=>au x.dst)) 11 1 (fun _=>au x.aQ)) 12 1 (fun _=>aC x.req)) 13 1 (fun _=>aC x.of))))<|rD 14 (fun a=>if a<1 then au 0 else if a<8 then aC 0 else if a<9 then .int .u8 (0)else if a<10 then aC 0 else if a<12 then au 0 else aC 0) fun f w3 A o s3 z3 => ?_;have⟨R,S,T,U,t⟩:=oQ s3.old G H I p s;have BQ:=iI A s.size;have⟨Vy,Vz,adP,VA,adQ⟩:=zQ A G.lt H.lt I.lt b.lt p.lt;have G9:=o.lt;refine eB o 0 (h1:=(bE (bE (bE (bE (bE (bE (fun Q _=>by show((fun a=>if a<1 then au 0 else if a<8 then aC 0 else if a<9 then .int .u8 (0)else if a<10 then aC 0 else if a<12 then au 0 else aC 0:Nat->Value) Q).oneCell'=true; simp only[]; repeat (first|rfl|split)) (fun _ _=>rfl)) (fun _ _=>rfl)) (fun _ _=>rfl)) (fun _ _=>rfl)) (fun _ _=>rfl)) (fun _ _=>rfl))) fun M V q z4 => ?_
 have W:aR M f 14 (bC (bC (bC (bC (bC (bC (fun a=>if a<1 then au 0 else if a<8 then aC 0 else if a<9 then .int .u8 (0)else if a<10 then aC 0 else if a<12 then au 0 else aC 0) 8 1 (fun _ => .int .u8 (x.kind))) 9 1 (fun _=>aC x.node)) 10 1 (fun _=>au x.dst)) 11 1 (fun _=>au x.aQ)) 12 1 (fun _=>aC x.req)) 13 1 (fun _=>aC x.of)) 37:=aP V;have X:aR M f 14 (bM ⟨0,0,fun _=>0,x.kind,x.node,x.dst,x.aQ,x.req,x.of⟩) 37:=W.congr (fun j hj=>by rcases j with _|_|_|_|_|_|_|_|_|_|_|_|_|_|j <;> first|rfl|omega)
 have P:=gQ q o.ty;have⟨Y,Z,aa⟩:=AB P R S T;have ab:=U.cB q (by omega);have u:=q.below t t.size (by omega);refine aD<|ay<|av (.func (.func 43) #[] #[(pt g),(pt k),(pt h)])<|Ao (by rfl) (Fx.Ez (args := [(pt f)]) rfl rfl rfl (all := #[(pt f),(pt g),(pt k),(pt h)]) rfl Tryz.func43 rfl rfl) rfl<|(aiD ⟨0,0,fun _=>0,x.kind,x.node,x.dst,x.aQ,x.req,x.of⟩ i d K f _ X g k h Y Z aa).mono ?_;rintro e9 w5 ⟨B,D,J⟩;refine⟨_,B,?_⟩;clear B;have ac:=ab.cB J (by omega);have v:=J.below u u.size (by omega);refine aD<|ay<|Lv (.agg (aA 14 (bM ⟨i,d,K,x.kind,x.node,x.dst,x.aQ,x.req,x.of⟩))) (fC D.aH 0)<|eB ac 0 (h1:=(fK _)) fun w6 ad L z5 => ?_;have ae:aR w6 O 14 (bM ⟨i,d,K,x.kind,x.node,x.dst,x.aQ,x.req,x.of⟩) 37:=aP ad;have nV:=D.cB L (by omega);have N:=L.below v v.size (by omega);refine aD (Wr (⟨.agg (aA 14 (bM ⟨i,d,K,x.kind,x.node,x.dst,x.aQ,x.req,x.of⟩)),rV Tryz.results42 ⟨_,rfl,aT ae.aH (by kernel_rfl) (by kernel_rfl)⟩,?_⟩));exact⟨rfl,N⟩
namespace Rt
theorem Am{z y:Nat->Value}{a b:Int}(d : ∀ j,j<14->z j=y j)(c:a=b):Ending.returned (.tuple #[.agg (aA 14 z),au a])=Ending.returned (.tuple #[.agg (aA 14 y),au b]):=by rw[Fx.dW d,c]
noncomputable def kN(L:fA)(i:Int)(x:qo):Int:=if iV i=false then 10 else bG L (qQ L.known i x)
open Classical in
noncomputable def gT(L:fA)(i:Int)(x:qo):EvM:=if kN L i x=0 then qQ L.known i x else zeroE
theorem tF{L:fA}{i:Int}{x:qo}(h:iV i=false):kN L i x=10/\gT L i x=zeroE:=by
 have:kN L i x=10:=by unfold kN; rw[d_ h]
 refine⟨this,?_⟩;unfold gT;rw[b_ (by rw[this]; decide)]
theorem jN{L:fA}{i:Int}{x:qo}(h:iV i=true):kN L i x=bG L (qQ L.known i x):=by unfold kN; rw[b_ (by rw[h]; decide)]
theorem JQ{K:Nat->Int}{i:Int}{x:qo}(b:AY K)(hx:tC x)(hi:iV i=true):gD (qQ K i x):=by
 obtain⟨a,c,f⟩:=eX hi;have g:=b a c;have e:(i-1).toNat=a:=by omega
 refine⟨⟨?_,?_⟩,⟨?_,?_⟩,fun j d => ?_,hx.kind,hx.node,hx.dst,hx.aQ,hx.req,hx.of⟩
 ·show -9223372036854775808<=i; omega
 ·show i<=9223372036854775807; omega
 ·show 0<=K (i-1).toNat+1; rw[e]; omega
 ·show K (i-1).toNat+1<=18446744073709551615; rw[e]; omega
 have:=b j d; exact⟨by show 0<=K j; omega,by show K j<=_; omega⟩
end Rt
theorem Zr(lp B N:Nat)(m:dN)(L:fA)(w:World)(h:xA w B lp m L N)(hB:1<=B)(S:iM w 0 0 8 Bt)(i:Int)(x:qo)(hr:iV i=false) :
 Calls Tryz.prog 13 #[(pt lp),au i,.agg (aA 6 (oJ x))] w fun e w'=>e = .returned (.tuple #[.agg (aA 14 (bM (gT L i x))),au (kN L i x)])/\Below w.heap.size w w':=by
 have l0:=S.lt (by omega);have lq:=h.q.lt;refine Kent Tryz.func13 39 ?_;refine ay<|xS (au i) fun g1 w1 O b s1 z1 => ?_;have⟨m2,g⟩:=eO s1.old h (Below.refl w.heap.size w);have su:=gH O;have ug:=b.lt;refine oL fun g2 w2 s d s2 z2 => ?_;have⟨m4,F,k⟩:=iy s2.old m2 b g;have qK:=iI s g.size;have KT:=bY s b.lt;have yK:=d.lt;refine rD 14 (fun a=>if a<1 then au 0 else if a<8 then aC 0 else if a<9 then .int .u8 (0)else if a<10 then aC 0 else if a<12 then au 0 else aC 0) fun P w3 t G s3 z3 => ?_;have⟨m7,m8,m9,K⟩:=jP s3.old m4 F d k;have BQ:=iI t k.size;have⟨UW,UY⟩:=uw t F.lt d.lt;have G9:=G.lt;refine av (au 0)<|aD<|Ws<|ay<|av (pt lp)<|Lv aF (Fx.mU rfl rfl rfl (by kernel_rfl))<|aD<|aK<|Wk<|sN<|ay<|av (pt lp)<|dK (Po m7) _ rfl ?_;intro w4 T;have⟨y,z,A,l⟩:=jP T m8 m9 G K;refine rD 6 (rv .u64 (fun _=>0)) fun Q w5 u c s5 z4 => ?_;have⟨Y,Z,aa,n⟩:=jP s5.old y z A l;have Qw:=iI u l.size;have⟨VD,aeC,aeD⟩:=EF u y.lt z.lt A.lt;have OI:=c.lt;refine eB c 0 fun w6 ab H z5 => ?_;have C:aR w6 Q 6 (rv .u64 ((L).known)) 35:=aP ab;have V:=gQ H c.ty;have⟨D,m23,m24⟩:=AB V Y Z aa;have M:=H.below n n.size (by omega);refine aD<|ay<|Lv (.agg (aA 6 (rv .u64 ((L).known)))) (fC C.aH 0)<|Lv (au i) (aL D.aH 0)<|dK (Zp L.known i hr _) _ rfl ?_;intro w7 U;have⟨nO,ow,E,nU,o⟩:=oQ U D m23 m24 C M;refine av (.tuple #[aC 0,au 10])<|av (aC 0)<|av (au 10)<|rD 1 (rv .u64 (fun _=>0)) fun R w8 v f s8 z6 => ?_;have⟨nG,p⟩:=eO s8.old E o;have lg5:=iI v o.size;have⟨aeE,aeF,aeG,aeH⟩:=PL v nO.lt ow.lt E.lt nU.lt;have tg5:=f.lt;refine jd f 0 (aC 0) fun w9 nV I z7 => ?_;have rQ:aR w9 R 1 (fun _=>aC 0) 23:=dD nV;have W:=gQ I f.ty;have mW:=kR W nG;have r:=I.below p p.size (by omega);refine av (au 10)<|aD<|Ws<|ay<|av (au 10)<|Lv aG (fI rfl)<|aD<|aM<|ay<|av (.agg (aA 14 (fun a=>if a<1 then au 0 else if a<8 then aC 0 else if a<9 then .int .u8 (0)else if a<10 then aC 0 else if a<12 then au 0 else aC 0)))<|av (au 10)<|eB mW 0 (h1:=(fun X _=>by show((fun a=>if a<1 then au 0 else if a<8 then aC 0 else if a<9 then .int .u8 (0)else if a<10 then aC 0 else if a<12 then au 0 else aC 0:Nat->Value) X).oneCell'=true; simp only[]; repeat (first|rfl|split))) fun tH mX s10 z8 => ?_
 have qI:aR tH P 14 (fun a=>if a<1 then au 0 else if a<8 then aC 0 else if a<9 then .int .u8 (0)else if a<10 then aC 0 else if a<12 then au 0 else aC 0) 37:=aP mX;have J:=s10.below r r.size (by omega);refine av (au 10) (aD (Wr (sR (⟨.tuple #[.agg (aA 14 (fun a=>if a<1 then au 0 else if a<8 then aC 0 else if a<9 then .int .u8 (0)else if a<10 then aC 0 else if a<12 then au 0 else aC 0)),au 10],fO Tryz.results13 ⟨_,rfl,aT qI.aH (by kernel_rfl) (by kernel_rfl)⟩ (by exact rfl),?_⟩))));exact⟨by rw[(tF hr).1,(tF hr).2]; exact Am (fun j hj=>by rcases j with _|_|_|_|_|_|_|_|_|_|_|_|_|_|j <;> first|rfl|omega) rfl,J⟩
theorem Zt(lp B N:Nat)(m:dN)(L:fA)(w:World)(h:xA w B lp m L N)(hB:1<=B)(Q:iM w 0 0 8 Bt)(i:Int)(x:qo)(hx:tC x)(a:Nat)(ha:a<6)(S:i=(a:Int)+1) :
 Calls Tryz.prog 13 #[(pt lp),au i,.agg (aA 6 (oJ x))] w fun e w'=>e = .returned (.tuple #[.agg (aA 14 (bM (gT L i x))),au (kN L i x)])/\Below w.heap.size w w':=by
 have l0:=Q.lt (by omega);have lq:=h.q.lt;have d:iV i=true:=by rw[S]; unfold iV; simp; omega
 have eia:(i-1).toNat=a:=by omega
 have hka:=h.i.kn a ha;refine Kent Tryz.func13 39 ?_;refine ay<|xS (au i) fun l w1 lY n s1 z1 => ?_;have⟨m2,y⟩:=eO s1.old h (Below.refl w.heap.size w);have su:=gH lY;have ug:=n.lt;refine oL fun g2 w2 I p s2 z2 => ?_;have⟨m4,m5,D⟩:=iy s2.old m2 n y;have qK:=iI I y.size;have KT:=bY I n.lt;have yK:=p.lt;refine rD 14 (fun b=>if b<1 then au 0 else if b<8 then aC 0 else if b<9 then .int .u8 (0)else if b<10 then aC 0 else if b<12 then au 0 else aC 0) fun P w3 J m6 s3 z3 => ?_;have⟨m7,m8,m9,b3⟩:=jP s3.old m4 m5 p D;have BQ:=iI J D.size;have⟨UW,UY⟩:=uw J m5.lt p.lt;have G9:=m6.lt;refine av (au 0)<|aD<|Ws<|ay<|av (pt lp)<|Lv aF (Fx.mU rfl rfl rfl (by kernel_rfl))<|aD<|aK<|Wk<|sN<|ay<|av (pt lp)<|dK (Po m7) _ rfl ?_;intro w4 hb1;have⟨m10,T,U,V,E⟩:=oQ hb1 m7 m8 m9 m6 b3;refine rD 6 (rv .u64 (fun _=>0)) fun g w5 K o s5 z4 => ?_;have⟨m15,m16,m17,m18,F⟩:=oQ s5.old m10 T U V E;have Qw:=iI K E.size;have⟨VD,aeC,aeD⟩:=EF K T.lt U.lt V.lt;have OI:=o.lt;refine eB o 0 fun w6 m19 s6 z5 => ?_;have W:aR w6 g 6 (rv .u64 ((L).known)) 35:=aP m19;have gY:=gQ s6 o.ty;have⟨m21,X,m23,m24⟩:=Kh gY m15 m16 m17 m18;have b6:=s6.below F F.size (by omega);refine aD<|ay<|Lv (.agg (aA 6 (rv .u64 ((L).known)))) (fC W.aH 0)<|Lv (au i) (aL X.aH 0)<|dK (Zq L.known i a ha S h.i.kn _) _ rfl ?_;intro w7 hb2;have⟨mV,Y,Z,aa,ab,G⟩:=qD hb2 m21 X m23 m24 W b6;refine av (.tuple #[aC (L.known a+1),au 0])<|av (aC (L.known a+1))<|av (au 0)<|rD 1 (rv .u64 (fun _=>0)) fun k w8 M r s8 z6 => ?_;have⟨lZ,m32,pR,nG,oF,H⟩:=qD s8.old mV Y Z aa ab G;have lg5:=iI M G.size;have⟨aeE,aeF,aeG,aeH⟩:=PL M Y.lt Z.lt aa.lt ab.lt;have tg5:=r.lt;refine jd r 0 (aC (L.known a+1)) fun w9 nV s9 z7 => ?_;have ac:aR w9 k 1 (fun _=>aC (L.known a+1)) 23:=dD nV;have jQ:=gQ s9 r.ty;have⟨qG,ad,ae,mW,af⟩:=rE jQ lZ m32 pR nG oF;have b9:=s9.below H H.size (by omega);refine av (au 0)<|aD<|Ws<|ay<|av (au 0)<|Lv aF (iX rfl rfl rfl (by decide))<|aD<|aK<|Wk<|sN<|ay<|Lv (.agg (aA 6 (oJ x))) (fC ae.aH 0)<|Lv (.func (.func 43) #[] #[(pt l),(pt k),(pt g)]) (Fx.nu (us := []) (vs := [(pt l),(pt k),(pt g)]) rfl rfl rfl)<|kV (aeB x i (L.known a+1) L.known _ l k g ad ac af) ?_;rintro e9 tH ⟨R,hb3⟩;refine⟨.agg (aA 14 (bM (qQ L.known i x))),by rw[R]; unfold qQ; rw[eia],?_⟩;clear R;have⟨mX,qI,qy,ag,rG,uW,z⟩:=jK hb3 qG ad ae mW af ac b9;refine rD 14 (fun b=>if b<1 then au 0 else if b<8 then aC 0 else if b<9 then .int .u8 (0)else if b<10 then aC 0 else if b<12 then au 0 else aC 0) fun g6 Gc O s s11 z8 => ?_;have⟨tJ,uj,A⟩:=iy s11.old mX ag z;have lg6:=iI O z.size;have⟨aqM,aqN,aqO,aqP,aqQ⟩:=zQ O qI.lt qy.lt ag.lt rG.lt uW.lt;have tg6:=s.lt;refine eB s 0 (h1:=(fK _)) fun BF sw u z9 => ?_;have sD:aR BF g6 14 (bM (qQ L.known i x)) 37:=aP sw;have qF:=gQ u s.ty;have tK:=kR qF tJ;have uz:=uj.cB u (by omega);have C:=u.below A A.size (by omega);refine aD<|Ws<|ay<|av (pt lp)<|Lv (.agg (aA 14 (bM (qQ L.known i x)))) (fC sD.aH 0)<|dK (Y5 (v:=(qQ L.known i x)) tK (JQ h.i.kn hx d) hB (Q.below C l0) (fun _ _=>rfl)) _ rfl ?_;intro Gq hb4;have⟨vO,t,f⟩:=iy hb4 uz sD C;refine av (au (bG L (qQ L.known i x)))<|aD<|ay<|av (au (bG L (qQ L.known i x))) ?_;by_cases c:(bG L (qQ L.known i x))=0
 ·refine Lv aF (jJ c)<|aD<|aK<|Wk<|sN<|ay<|Lv (.agg (aA 14 (bM (qQ L.known i x)))) (fC t.aH 0)<|eB vO 0 (h1:=(fK _)) fun Mr uY BD z10 => ?_;have vP:aR Mr P 14 (bM (qQ L.known i x)) 37:=aP uY;have yJ:=t.cB BD (by omega);have b14:=BD.below f f.size (by omega);refine av (au 0) (aD (Wr (⟨.tuple #[.agg (aA 14 (bM (qQ L.known i x))),au 0],fO Tryz.results13 ⟨_,rfl,aT vP.aH (by kernel_rfl) (by kernel_rfl)⟩ (by exact rfl),?_⟩)));exact⟨by rw[jN d,show gT L i x=qQ L.known i x by unfold gT; rw[d_ (by rw[jN d]; exact c),]]; exact Am (fun _ _=>rfl) c.symm,b14⟩
 refine Lv aG (nC c)<|aD<|aM<|ay<|av (.agg (aA 14 (fun b=>if b<1 then au 0 else if b<8 then aC 0 else if b<9 then .int .u8 (0)else if b<10 then aC 0 else if b<12 then au 0 else aC 0)))<|av (au (bG L (qQ L.known i x)))<|eB vO 0 (h1:=(fun jq _=>by show((fun b=>if b<1 then au 0 else if b<8 then aC 0 else if b<9 then .int .u8 (0)else if b<10 then aC 0 else if b<12 then au 0 else aC 0:Nat->Value) jq).oneCell'=true; simp only[]; repeat (first|rfl|split))) fun Ms xq s15 z11 => ?_
 have wB:aR Ms P 14 (fun b=>if b<1 then au 0 else if b<8 then aC 0 else if b<9 then .int .u8 (0)else if b<10 then aC 0 else if b<12 then au 0 else aC 0) 37:=aP xq;have Au:=t.cB s15 (by omega);have b15:=s15.below f f.size (by omega);refine av (au (bG L (qQ L.known i x))) (aD (Wr (sR (⟨.tuple #[.agg (aA 14 (fun b=>if b<1 then au 0 else if b<8 then aC 0 else if b<9 then .int .u8 (0)else if b<10 then aC 0 else if b<12 then au 0 else aC 0)),au (bG L (qQ L.known i x))],fO Tryz.results13 ⟨_,rfl,aT wB.aH (by kernel_rfl) (by kernel_rfl)⟩ (by exact rfl),?_⟩))));exact⟨by rw[jN d,show gT L i x=zeroE by unfold gT; rw[b_ (by rw[jN d]; exact c)]]; exact Am (fun j hj=>by rcases j with _|_|_|_|_|_|_|_|_|_|_|_|_|_|j <;> first|rfl|omega) rfl,b15⟩
theorem NT{lp B N:Nat}{m:dN}{L:fA}{w:World}(h:xA w B lp m L N)(b:1<=B)(c:iM w 0 0 8 Bt)(i:Int){x:qo}(hx:tC x){y:Nat->Value}(hy : ∀ j,j<6->y j=oJ x j) :
 Calls Tryz.prog 13 #[(pt lp),au i,.agg (aA 6 y)] w fun e w'=>e = .returned (.tuple #[.agg (aA 14 (bM (gT L i x))),au (kN L i x)])/\Below w.heap.size w w':=by
 rw[Fx.dW hy]
 cases hr:iV i with
 | false=>exact Zr lp B N m L w h b c i x hr
 | true =>
   obtain⟨a,f,d⟩:=eX hr;exact Zt lp B N m L w h b c i x hx a f d
namespace Rt
def II(L:fA)(i x q:Int):Int:=ig (fun j=>decide (eP L (aU L.t L.tn j x) i<q)) (dJ L.t L.tn x)
def qZ(L:fA)(i x q:Int):Int:=if II L i x q<0 then 0 else aU L.t L.tn (II L i x q).toNat x
def ru(L:fA)(i x q:Int):Int:=if II L i x q<0 then 0 else q-eP L (aU L.t L.tn (II L i x q).toNat x) i
theorem Mg(L:fA)(x i:Int):0<=eP L x i:=by
 unfold eP eF;split
 ·exact N_ 0
 split
 ·rename_i c;rw[S_]at c;obtain⟨a,b,e,d⟩:=og c.1;rw[d,vg (kM c.2) a b];exact(((jS _).1 c.2).2.1 a b).1
 exact N_ 0
theorem Es{L:fA}{i x q:Int}{k:Nat}(h : ∀ j,j<k -> ¬ eP L (aU L.t L.tn j x) i<q)(b:k=dJ L.t L.tn x):qZ L i x q=0/\ru L i x q=0:=by
 have:II L i x q = -1:=lD fun j a=>g_ (h j (by omega));unfold qZ ru;rw[this];exact⟨rfl,rfl⟩
theorem yD{L:fA}{i x q:Int}{k:Nat}(h : ∀ j,j<k -> ¬ eP L (aU L.t L.tn j x) i<q)(b:k<dJ L.t L.tn x)(c:eP L (aU L.t L.tn k x) i<q):qZ L i x q=aU L.t L.tn k x/\ru L i x q=q-eP L (aU L.t L.tn k x) i:=by
 have:II L i x q=(k:Int):=pz (fun j a=>g_ (h j a)) (f_ c) b;unfold qZ ru;rw[this,b_ (by omega),b_ (by omega)];exact⟨rfl,rfl⟩
theorem IJ{L:fA}{i x q:Int}{k:Nat}(h : ∀ j,j<k -> ¬ eP L (aU L.t L.tn j x) i<q)(a : ¬ eP L (aU L.t L.tn k x) i<q) : ∀ j,j<k+1 -> ¬ eP L (aU L.t L.tn j x) i<q:=fun j b=>by
 by_cases e:j=k
 ·rw[e]; exact a
 ·exact h j (by omega)
end Rt
theorem Wz(lp B N:Nat)(m:dN)(L:fA)(w:World)(h:xA w B lp m L N)(i a x:Int)(hi : -9223372036854775808<=i/\i<=9223372036854775807)(Z : -9223372036854775808<=x/\x<=9223372036854775807) :
 Calls Tryz.prog 15 #[(pt lp),au i,aC a,au x] w fun e w'=>e = .returned (.tuple #[aC (qZ L i a x),au (ru L i a x)])/\Below w.heap.size w w':=by
 have lq:=h.q.lt;refine Kent Tryz.func15 33 ?_;refine ay<|av (aC 0)<|av (au 0)<|aD<|Ws<|ay<|av (pt lp)<|av (aC a)<|kV (aem h a) ?_;rintro V w1 ⟨r,c,F,G,M⟩;refine⟨_,F,?_⟩;clear F;have⟨P,K⟩:=eO M h (Below.refl w.heap.size w);obtain⟨b,z⟩ : ∃ q,q=(dJ L.t L.tn a):=⟨_,rfl⟩;rw[<- z]at G ⊢;have aa:b<=4:=by rw[z]; exact h.i.aaf _
 refine av (au b)<|av (au 0)<|aD<|Wb<|Wo (fun f s => ∃ k:Nat,k<=b/\(∀ j,j<k -> ¬ eP L (aU L.t L.tn j a) i<x)/\f 0=(pt lp)/\f 1=au i/\f 3=au x/\f 15 = .slice r (b) (c)/\f 16=au (b:Int)/\f 17=au (k:Int)/\xA s B lp m L N/\Fx.Own s w.heap.size 23 1 (.slice r (b) (c)) b (lsP L a)/\Below w.heap.size w s) (fun f _=>((b:Int)-intOf (f 17)).toNat) ⟨0,(by omega),(fun _ h=>M_ h (z_ _)),(by rfl),Fx.ic,Fx.ic,(by rfl),Fx.ic,Fx.ic,P,G,K⟩ ?_;rintro W T ⟨k,X,l,C,D,o,E,p,g,H,I,u⟩;refine ay ?_;by_cases y:(k:Int)<(b:Int)
 ·refine Lv aG (gJ y (hx:=g) (hy:=p))<|aD<|Ws<|aM<|Wk<|sN<|Ws<|Wb<|ay ?_;obtain⟨A,n⟩:=I.addr (by omega);have J:Fx.Own T w.heap.size 23 1 (bL A b c) b (lsP L a):=I.fB (L_ (fun q=>Value.slice q b c) n);refine Lv (pf A k) (cO 1 (hx:=(E.trans (L_ (fun q=>Value.slice q (b) (c)) n))) (hi:=g))<|Lv (aC (aU L.t L.tn k a)) (aL J.aH k)<|av (aC (aU L.t L.tn k a))<|aD<|ay<|aX C<|aX D<|av (aC (aU L.t L.tn k a))<|dK (Y6 H i (aU L.t L.tn k a) (by omega)) _ rfl ?_;intro U O;have⟨Q,R,v⟩:=iy O H J u;refine av (au (eP L (aU L.t L.tn k a) i))<|aD<|ay<|av (au (eP L (aU L.t L.tn k a) i))<|aX o ?_;by_cases d:(eP L (aU L.t L.tn k a) i)<x
  ·have Y:=Mg L (aU L.t L.tn k a) i;refine Lv aG (gJ d)<|aD<|aM<|ay<|av (aC (aU L.t L.tn k a))<|aX o<|av (au (eP L (aU L.t L.tn k a) i))<|Lv (au (x-(eP L (aU L.t L.tn k a) i))) gF<|av (aC (aU L.t L.tn k a))<|av (au (x-(eP L (aU L.t L.tn k a) i)))<|aD<|Wr<|bK<|sR<|pK<|bK<|sR<|aJ (.tuple #[aC (aU L.t L.tn k a),au (x-(eP L (aU L.t L.tn k a) i))]) ?_;exact⟨by rw[(yD l (by omega) d).1,(yD l (by omega) d).2],v⟩
  refine Lv aF (gK d)<|aD<|aK<|Wk<|bP<|sN<|Wl<|Lv (au ((k:Int)+1)) (fF (hx:=g))<|av (au ((k:Int)+1))<|Ln ?_;have S:Fx.Own U w.heap.size 23 1 (.slice r (b) (c)) b (lsP L a):=R.fB (L_ (fun q=>Value.slice q b c) n.symm);refine iq ⟨k+1,(by omega),(IJ l d),C,(D.trans Fx.ic),(o.trans Fx.ic),E,(p.trans Fx.ic),Fx.ic,Q,S,v⟩ ?_;show((b:Int)-intOf (au ((k:Int)+1))).toNat<_;simp only[g,intOf]; omega
 refine Lv aF (gK y (hx:=g) (hy:=p))<|aD<|Ws<|aK<|Wx<|bW<|gP<|bX<|sN<|ay<|av (aC 0)<|av (au 0)<|aD<|Wr<|aJ (.tuple #[aC 0,au 0]) ?_;exact⟨by rw[(Es l (by omega)).1,(Es l (by omega)).2],u⟩
section
namespace Rt
def Ab.gs(A:Ab)(y:Int):Int:=A.R y 0+A.R y 1+A.R y 2+A.R y 3+A.R y 4+A.R y 5
def GA(v:EvM)(y:Int):Int:=if v.kind=1/\qY v=y\/v.kind=2/\v.node=y then v.aQ else 0
def Zu(ev:Nat->EvM)(K:Nat->Int)(y:Int):Nat->Int
 | 0=>0
 | j+1=>Zu ev K y j+if vR K (ev j)=true then GA (ev j) y else 0
section
variable {A:Ab} {ev gv:Nat->EvM} {an n k i j:Nat} {K:Nat->Int} {L:fA} {v:EvM} {y x:Int} {m:dN} {N:Nat}
theorem Ab.aeI(l:ME v):(A.qR v).gs y=A.gs y+GA v y:=by
 have o:=l.reg.2;have e : ∀ p,(A.qR v).R y p=A.R y p+A.dl v y p:=fun _=>rfl;unfold Ab.gs;rw[e,e,e,e,e,e];have s:A.dl v y 0+A.dl v y 1+A.dl v y 2+A.dl v y 3+A.dl v y 4+A.dl v y 5=GA v y:=by
  have n:(∀ p,p<6->A.dl v y p=0)->GA v y=0->A.dl v y 0+A.dl v y 1+A.dl v y 2+A.dl v y 3+A.dl v y 4+A.dl v y 5=GA v y:=fun h d=>by
   rw[d,h 0 (by decide),h 1 (by decide),h 2 (by decide),h 3 (by decide),h 4 (by decide),h 5 (by decide)]; rfl
  have k : ∀ {z:Int},(∀ p,A.dl v y p=if y=z/\p=aV v then v.aQ else 0)->GA v y=(if z=y then v.aQ else 0)->A.dl v y 0+A.dl v y 1+A.dl v y 2+A.dl v y 3+A.dl v y 4+A.dl v y 5=GA v y:=fun {z} h d=>by
   by_cases c:y=z
   ·rw[d,h,h,h,h,h,h,d_ c.symm]
    rcases(show aV v=0\/aV v=1\/aV v=2\/aV v=3\/aV v=4\/aV v=5 by omega)with q|q|q|q|q|q <;> rw[q] <;> simp[c]
   ·have a : ∀ p,A.dl v y p=0:=fun p=>by rw[h,b_ fun q=>c q.1]
    rw[d,a,a,a,a,a,a,b_ (show ¬ z=y from fun q=>c q.symm)]; rfl
  unfold Ab.dl at *;by_cases b:v.kind=1
  ·refine k (z:=qY v) (fun p=>by rw[d_ b]) ?_;unfold GA;by_cases c:qY v=y
   ·rw[d_ (.inl ⟨b,c⟩),d_ c]
   ·rw[b_ (fun q=>q.elim (fun q=>c q.2) (fun q=>by omega)),b_ c]
  by_cases f:v.kind=2
  ·refine k (z:=v.node) (fun p=>by rw[b_ b,d_ f]) ?_;unfold GA;by_cases c:v.node=y
   ·rw[d_ (.inr ⟨f,c⟩),d_ c]
   ·rw[b_ (fun q=>q.elim (fun q=>b q.1) (fun q=>c q.2)),b_ c]
  have m:GA v y=0:=b_ (fun q=>q.elim (fun q=>b q.1) (fun q=>f q.1));refine n (fun p r => ?_) m;rw[b_ b,b_ f];by_cases g:v.kind=3
  ·rw[d_ g,b_ (fun q=>by omega)]
  rw[b_ g];by_cases i:v.kind=4
  ·rw[d_ i,b_ (fun q=>by omega)]
  rw[b_ i];by_cases j:v.kind=5
  ·rw[d_ j,b_ (fun q=>by omega)]
  rw[b_ j]
 omega
theorem Zv(b : ∀ i,i<n->ME (ev i)):(fU ev K (Ww k) n).gs y=Zu ev K y n:=by
 induction n with
 | zero=>rfl
 | succ n a =>
   have a:=a fun i c=>b i (by omega);show(if vR K (ev n)=true then(fU ev K (Ww k) n).qR (ev n)else fU ev K (Ww k) n).gs y=Zu ev K y n+_;split
   ·rw[Ab.aeI (b n (by omega)),a]
   ·rw[a,D_]
theorem Eo.row(h:Eo m L N)(hi:i<L.nn):bA m (L.id i)=L.R i:=by
 unfold bA;rw[d_ ((h.s.T.has _).2 ⟨i,hi,rfl⟩),h.s.row i hi]
theorem tu.gs(h:tu k ev an L)(W:Ws k ev an)(hi:i<L.nn):sK (L.R i)=Zu ev L.known (L.id i) an:=by
 obtain⟨m,N,a,c,b⟩:=h.ex;rw[<- Zv (k:=k) (K:=L.known) (y:=L.id i) W.g,<- b,<- a.row hi];rfl
theorem tu.small(h:tu k ev an L)(W:Ws k ev an){q:Nat}(d:q<L.gn):1<=L.g q 3/\L.g q 3<=65536:=by
 obtain⟨m,N,c,e⟩:=h.tw W;obtain⟨a,b⟩:=c.t.s.Zm d;have:=c.s.g _ _ a;rw[b 3 (by decide) (by decide)]at this;exact this
end
end Rt
end
end Go.Proofs.YtcbedgfikejkoaaGreatDoor
namespace Go.Proofs.YtcbedgfikejkoaaGreatDoor
open Go.RowKit Go
namespace Rt
def aeJ(i r:Int)(x:Nat->Int):Bool:=decide (x 0=i)&&(decide (x 1=r) || decide (x 4=r))
structure UqL(L:fA)(i:Int):Prop where
 a : ∀ q,q<L.gn -> ∀ r,r≠0->aeJ i r (L.g q)=true -> ∃ j,j<L.rn (i-1).toNat/\L.rq (i-1).toNat j=r
 u : ∀ r,r≠0 -> ∀ q p,q<L.gn->p<L.gn->aeJ i r (L.g q)=true->aeJ i r (L.g p)=true->q=p
section
variable {L:fA} {N:Nat} {v:EvM} {i:Int} {y z:qo}
theorem UqL.new(k:Nat):UqL (ku k 0).core i:=⟨fun _ h=>M_ h (z_ _),fun _ _ _ _ h=>M_ h (z_ _)⟩
attribute [local irreducible] dJ cZ
end
end Rt
end Go.Proofs.YtcbedgfikejkoaaGreatDoor
namespace Go.Proofs.YtcbedgfikejkoaaGreatDoor
open Go.RowKit Rt
open Fx (Ws ev cu down)
section
namespace Rt
def KO(L:fA):Prop := ∀ q,6<=q->L.known q=0
def G5(L:fA):Prop := ∀ q,q<L.gn -> ∀ p,5<=p->L.g q p=0
structure GK(L:fA):Prop where
 g:xH L
 k:KO L
 r:G5 L
structure WG(M:WM):Prop where
 g : ∀ o,o<M.n->GK (M.ml o).core
section
variable {ev:Nat->EvM} {K:Nat->Int} {an k i c N N':Nat} {L L':fA} {v:EvM} {m:dN}
attribute [local irreducible] dJ cZ in
theorem KO.apply(h:KO L):KO (dh L v):=by
 rcases om L v with ⟨c,e⟩|⟨_,e⟩
 ·intro q a;have:=jT (DL (jh c)).1;rw[e]; unfold aI; rw[b_ (by omega)]; exact h q a
 rw[e]; exact h
attribute [local irreducible] dJ cZ in
theorem G5.apply(h:G5 L):G5 (dh L v):=by
 unfold dh;split
 ·show ∀ q,q<(iw L v).gn -> ∀ p,5<=p->(iw L v).g q p=0;unfold iw;split; · exact h
  split; · exact h
  split
  ·intro q a p b;have a:q<L.gn+1:=a;show cu L.g (down (fun i=>Da v (L.g i)) L.gn) (pU v) q p=0;have c:down (fun i=>Da v (L.g i)) L.gn<=L.gn:=Fx.vY _ _;generalize down (fun i=>Da v (L.g i)) L.gn=k at c ⊢
   rcases dU c a with rfl|⟨j,hj,ej,_,_⟩
   ·rw[dF]; unfold pU; rw[b_ (by omega),b_ (by omega),b_ (by omega),b_ (by omega)]
   rw[ej]; exact h j hj p b
  split
  ·intro q a p b;have a:q<L.gn:=a;show aI L.g (yh L v) (aI (L.g (yh L v)) 4 v.req) q p=0;generalize yh L v=k;unfold aI;by_cases e:q=k
   ·rw[d_ e];show(if p=4 then v.req else L.g k p)=0;rw[b_ (by omega),<- e]; exact h q a p b
   rw[b_ e]; exact h q a p b
  split; · exact h
  split <;> exact h
 exact h
theorem KO.eq(h:KO L)(a:KO L')(e : ∀ q,q<6->L'.known q=L.known q):L'.known=L.known:=by
 funext q
 by_cases c:q<6
 ·exact e q c
 rw[h q (by omega),a q (by omega)]
theorem GK.apply(h:GK L)(a:gD v):GK (dh L v):=⟨FV h.g a,h.k.apply,h.r.apply⟩
theorem WA(k a:Nat):GK (ku k a).core:=⟨LQ k a,fun _ _=>rfl,fun q h=>M_ h (z_ _)⟩
theorem Et(a : ∀ j,j<an->gD (ev j))(h:GK L) : ∀ j,j<=an->GK (nM ev K L j)
 | 0,_=>h
 | j+1,hj=>by
   unfold nM;split
   ·exact(Et a h j (by omega)).apply (a j (by omega))
   ·exact Et a h j (by omega)
theorem Mh(a : ∀ j,j<an->gD (ev j)) : ∀ f L,GK L->GK (iA ev an K f L)
 | 0,L,h=>by unfold Rt.iA; exact h
 | f+1,L,h=>by
   unfold Rt.iA;split
   ·exact Et a h an (A_ _)
   ·exact Mh a f _ (Et a h an (A_ _))
theorem WG.new{M:WM}(h : ∀ i,(M.ml i).core=(ku M.n 0).core):WG M:=⟨fun o _=>by rw[h]; exact WA _ _⟩
theorem WG.do{w':World}{M d:WM}{B p T o:Nat}{x:DW}(h:WG M)(l:ou w' B p d T)(i:o<M.n)(b:DoR o x M d v):WG d:=⟨fun q k=>by
 rw[b.n]at k
 rcases b.c with ⟨m,r,f,a⟩|⟨m,r,f,a,h5,h6,h7,h8⟩
 ·by_cases e:q=o
  ·rw[e]
   rcases a with a|⟨_,a⟩
   ·rw[a]; exact h.g o i
   ·rw[a]; exact Mh (fun j s=>by have:=l.wf j (by omega); rw[f]at this; exact this) _ _ (h.g o i)
  ·rw[b.oth q e]; exact h.g q k
 ·by_cases e:q=o
  ·rw[e,h5];exact(h.g o i).apply (by have:=l.wf M.an (by omega); rw[f,uL]at this; exact this)
  ·rw[b.oth q e]; exact h.g q k⟩
theorem Pv{f g:Nat->Int}{o:Int} : ∀ {n:Nat},(∀ i,i<n->f i=g i)->mP f o n=mP g o n
 | 0,_=>rfl
 | n+1,h=>by unfold mP; rw[Pv (n:=n) fun i a=>h i (by omega),h n (by omega)]
theorem tu.asks(h:tu k ev an L)(o:tu k ev an L')(W:Ws k ev an)(n : ∀ i,i<6->L'.known i=L.known i) : ∀(a:Nat) (r:Int),a<6->((∃ j,j<L'.rn a/\L'.rq a j=r) <-> ∃ j,j<L.rn a/\L.rq a j=r):=by
 obtain⟨m,N,c,q,d⟩:=h.ex;obtain⟨m',N',f,t,l⟩:=o.ex;have e:eH m'=eH m:=by
  rw[d,l];exact JO n (fun i p=>(W.g i p).reg.2) an (A_ _)
 intro a r b;rw[<- c.s.ask a r b,<- f.s.ask a r b];have:gZ m' ((a:Int)+1) r=gZ m ((a:Int)+1) r:=congrFun (congrFun (L_ Ab.ask e) _) r;rw[this]
theorem fT.to(h:fT m L)(b:Dt L L')(z:L'.known=L.known)(ha : ∀(a:Nat) (r:Int),a<6->((∃ j,j<L'.rn a/\L'.rq a j=r) <-> ∃ j,j<L.rn a/\L.rq a j=r))(r:G5 L)(A:G5 L'):fT m L':=by
 have o : ∀ {i},i<L'.nn->i<L.nn:=fun {i} q=>by rw[<- b.nn]; exact q
 have s : ∀ {i},i<L'.gn->i<L.gn:=fun {i} q=>by rw[<- b.gn]; exact q
 have t : ∀ q,q<L.gn->L'.g q=L.g q:=fun q l=>by
  funext p
  by_cases c:p<5
  ·exact b.g q l p c
  ·rw[r q l p (by omega),A q (by rw[b.gn]; exact l) p (by omega)]
 refine⟨⟨fun k=>(h.T.has k).trans ⟨fun⟨i,d,e⟩=>⟨i,by rw[b.nn]; exact d,by rw[(b.n i d).1]; exact e⟩,fun⟨i,d,e⟩=>⟨i,o d,by rw[<- (b.n i (o d)).1]; exact e⟩⟩,by rw[b.nn]; exact h.T.n,fun i d=>by rw[(b.n i (o d)).1,(b.n i (o d)).2.1]; exact h.T.par i (o d)⟩,
  by rw[b.inn]; exact h.inn,by rw[b.left]; exact h.left,by rw[z]; exact h.known,fun i d=>by rw[(b.n i (o d)).1,(b.n i (o d)).2.2]; exact h.row i (o d),fun a ha=>by rw[b.nn,Pv (f:=L'.id) (g:=L.id) fun i d=>(b.n i d).1]; exact h.own a ha,
  h.gi,by rw[b.gn]; exact h.gn,fun q l=>by rw[t q (s l)]; exact h.g1 q (s l),fun j y => ?_,fun a r w=>(h.ask a r w).trans (ha a r w).symm,h.ga,fun p q x l u v => ?_⟩
 ·obtain⟨q,l,e⟩:=h.g2 j y;exact⟨q,by rw[b.gn]; exact l,by rw[t q l]; exact e⟩
 rw[t p (s x),t q (s l)]at u v;exact h.li p q (s x) (s l) u v
def Zw(c i n:Nat):Nat:=if c=n then n else i+1
theorem WB(h:c=i\/c=an)(hi:i<an):Zw c i an=i+1\/Zw c i an=an:=by unfold Zw; split <;> omega
theorem aeK(h:tu k ev an L)(W:Ws k ev an)(hi:i<an)(b:JY ev an K)(a : ∀ q,q<6->L.known q=vL K (fM ev c) q)(j:c=i\/c=an)(d:(ev i).seq<=K (aN (ev i))) : ∀ q,q<6->(dh L (ev i)).known q=vL K (fM ev (Zw c i an)) q:=by
 unfold Zw;by_cases e:c=an
 ·rw[d_ e];subst e;rw[(aeA W hi (fun q f=>(a q f).trans (aiC b q f)) d).2]; exact a
 rw[b_ e];have g:c=i:=by omega
 subst g;exact(h.nextK W hi b a d).2
theorem aeL(W:Ws k ev an)(hi:i<an)(a : ∀ q,q<6->L.known q=vL K (fM ev c) q)(f:c=i\/c=an)(d : ¬ (ev i).seq<=K (aN (ev i))) : ∀ q,q<6->L.known q=vL K (fM ev (Zw c i an)) q:=by
 unfold Zw;by_cases e:c=an
 ·rw[d_ e,<- e]; exact a
 rw[b_ e];have b:c=i:=by omega
 subst b;exact aiA W hi a d
end
end Rt
open Rt
theorem xA.to{w:World}{B lp N N':Nat}{m:dN}{L L':fA}(h:xA w B lp m L N)(c:fT m L')(a:Inv L' N')(b:xH L'):xA w B lp m L' N':=⟨h.q,c,a.toInv0,a.s,b⟩
end
end Go.Proofs.YtcbedgfikejkoaaGreatDoor
