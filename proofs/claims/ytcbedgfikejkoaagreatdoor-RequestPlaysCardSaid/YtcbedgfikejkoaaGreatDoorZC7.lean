/-
  What the proof of the law rests on, part 7: walks of functions, and plain laws; each says its conditions itself.
-/
import Derived.Test.YtcbedgfikejkoaaGreatDoorZC6
set_option maxRecDepth 20000
set_option linter.unusedVariables false
set_option maxHeartbeats 1600000
set_option linter.unusedSimpArgs false
namespace Go.Proofs.YtcbedgfikejkoaaGreatDoor
open Go.RowKit Rt
open Fx (Lv sN Ln Ws Qv Wl Wr Sb Wk Wb Wx Wo Qn zi zP fQ zQ xM zO rv aA aP bC ev Stp flat dF bf kQ bL cells_one jm iM bS cB bZ gW iG)
namespace Rt
def Dk(L:eP)(c:Option Addr)(d:Nat)(a:Option Addr)(b:Nat):Ef:=⟨L.inn,L.left,L.known,c,L.nn,d,a,L.gn,b⟩
def WX(L:eP):Nat->Nat->Value:=fun k=>mZ (L.id k) (L.par k) (L.R k)
def GU(L:eP):Nat->Nat->Value:=fun k=>jf (L.g k)
structure LWf(L:eP):Prop where
 n : ∀ k,k<L.nn->iX (L.id k)/\iX (L.par k) /\ ∀ p,p<54->qc (L.R k p)
 g : ∀ k,k<L.gn->qc (L.g k 0)/\iX (L.g k 1)/\iX (L.g k 2)/\qc (L.g k 3)/\iX (L.g k 4)
 k : ∀ i,i<6->iX (L.known i)
 bn:L.nn<=900000
 bg:L.gn<=900000
theorem afp{n:Int}(h:iX n):(Lit.int .u64 n).wf=true:=Fx.uy h
theorem ard{n:Int}(h:qc n):(Lit.int .i64 n).wf=true:=Fx.SG h
theorem Mw{n:Int}(h:iX n):pF (some .u64) (.int .u64 n)=some (.int .u64 n):=by simp[pF,afp h]
theorem WY{n:Int}(h:qc n):pF (some .i64) (.int .i64 n)=some (.int .i64 n):=by simp[pF,ard h]
theorem EL(b:Nat->Bool):Fx.Kd (List.replicate 6 none) (fun j => .bool (b j)):=fun i a=>⟨.bool (b i),by rw[List.getElem_replicate]; rfl⟩
theorem aby{id par:Int}{R:Nat->Int}(h:iX id/\iX par /\ ∀ p,p<54->qc (R p)):Fx.Kd (some .u64::some .u64::List.replicate 54 (some .i64)) (mZ id par R):=fun i a=>by
 match i,a with
 | 0,_=>exact⟨_,Mw h.1⟩
 | 1,_=>exact⟨_,Mw h.2.1⟩
 | i+2,a =>
   have b:i<54:=(by simp at a; omega);have e:(some IntKind.u64::some IntKind.u64::List.replicate 54 (some IntKind.i64))[i+2]=some .i64:=(by rw[List.getElem_cons_succ,List.getElem_cons_succ,List.getElem_replicate]);rw[e,NJ _ _ _ (p:=i) rfl];exact⟨_,WY (h.2.2 i b)⟩
theorem abz{x:Nat->Int}(h:qc (x 0)/\iX (x 1)/\iX (x 2)/\qc (x 3)/\iX (x 4)):Fx.Kd [some .i64,some .u64,some .u64,some .i64,some .u64] (jf x):=fun i a=>by
 match i,a with
 | 0,_=>exact⟨_,WY h.1⟩
 | 1,_=>exact⟨_,Mw h.2.1⟩
 | 2,_=>exact⟨_,Mw h.2.2.1⟩
 | 3,_=>exact⟨_,WY h.2.2.2.1⟩
 | 4,_=>exact⟨_,Mw h.2.2.2.2⟩
theorem LWf.of{L:eP}{N:Nat}(a:Inv0 L N)(o:AV L)(m:yu L)(A:N<=900000):LWf L where
 n:=fun k c=>by
  have y:=a.pos k c;have z:=a.top k c;have f:=nI (a.may k c);refine⟨⟨by omega,by omega⟩,?_,fun p r=>by have:=f p r; exact⟨by omega,by omega⟩⟩
  rcases a.up k c with e|⟨j,b,e⟩
  ·rw[e]; exact⟨by omega,by omega⟩
  ·have h:=a.pos j b;have l:=a.top j b;rw[<- e]; exact⟨by omega,by omega⟩
 g:=fun k c=>by
  obtain⟨d,u,v,w,x⟩:=o.gb k c;obtain⟨s,t⟩:=m.wf k c;obtain⟨j,b,e⟩:=iZ.1 d;rw[a.CV]at b;rw[(a.tid j b).1]at e;have h:=a.pos j b;have l:=a.top j b;exact⟨⟨by omega,by omega⟩,s,by rw[<- e]; exact⟨by omega,by omega⟩,⟨by omega,by omega⟩,t⟩
 k:=fun i q=>by have:=a.kn i q; exact⟨by omega,by omega⟩
 bn:=by have:=a.nn; omega
 bg:=by have:=a.gn; omega
end Rt
structure KD(w:World)(s:Ef)(L:eP):Prop where
 e:s=Dk L s.na s.nc s.ga s.gc
 n:kQ w s.na L.nn 56 (flat 56 (WX L))
 g:kQ w s.ga L.gn 5 (flat 5 (GU L))
theorem KD.XZ{w:World}{p:Nat}{m:kV}(h:Cx w p m):KD w m.s m.core:=⟨rfl,h.an,h.ag⟩
theorem KD.of{w:World}{B:Nat}{m:dQ}{s:Ef}{l:List Int}{p:List Ke}{L:eP}{N:Nat}(h:StQ w B m s l p)(d:fV m L)(r:Inv0 L N)(q:yu L):KD w s L:=by
 have e:=StC.of d r q h.ls h.gs;have f:s.nn=L.nn:=by rw[h.nn,e.nn]
 have i:s.gn=L.gn:=by rw[h.gn,e.gn]
 refine⟨?_,?_,?_⟩
 ·cases s
  unfold Dk;have a:=h.inn;have b:=h.left;have c:=h.known;simp only at a b c f i ⊢;rw[a,b,c,d.inn,d.left,d.known,f,i]
 ·have:=h.n.arr;rw[f]at this;refine kQ.um this<|bL fun k o j _ => ?_;obtain⟨a,b,c⟩:=e.n k o;unfold WS WX;rw[b,c,a]
 have:=h.g.arr;rw[i]at this;refine kQ.um this<|bL fun k o j _ => ?_;unfold X7 GU;rw[e.g k o]
theorem afq(L:eP)(t A m x:Option Addr)(u B o y:Nat)(w:World)(l:LWf L)(hN1:kQ w t L.nn 56 (flat 56 (WX L)))(hN2:kQ w A L.nn 56 (flat 56 (WX L)))(hG1:kQ w m L.gn 5 (flat 5 (GU L)))(hG2:kQ w x L.gn 5 (flat 5 (GU L))) :
 Calls Tryz.prog 17 #[.agg (aA 20 (lS (Dk L t u m o))),.agg (aA 20 (lS (Dk L A B x y)))] w fun e w'=>e = .returned (.bool true)/\Below w.heap.size w w':=by
 have hbn:=l.bn;have hbg:=l.bg;refine Kent Tryz.func17 80 ?_;refine ay<|om fun c w1 kM S s1 z1 => ?_;have V:=bD s1.old (Below.refl w.heap.size w);have qZ:=gI kM;have sF:=S.lt;refine om fun d w2 ae s s2 z2 => ?_;have⟨z,b2⟩:=fC s2.old S V;have pK:=iw ae V.size;have Fj:=cu ae S.lt;have xR:=s.lt;refine av aF<|aD<|Ws<|ay<|av (pt c)<|Lv (.agg (aA 6 (fun j => .bool (L.inn j)))) (eT z.aH 0 (fun j h=>by rw[G_]; exact AA _ h))<|av (pt d)<|Lv (.agg (aA 6 (fun j => .bool (L.inn j)))) (eT s.aH 0 (fun j h=>by rw[G_]; exact AA _ h))<|Lv aF (Fx.Ch (n:=6) (ks:=List.replicate 6 none) (X:=fun j => .bool (L.inn j)) (Y:=fun j => .bool (L.inn j)) 12 true rfl rfl rfl (Fx.EU (fun _ _=>rfl)) (EL _) (EL _) rfl (by kernel_rfl) (by kernel_rfl) (by kernel_rfl) (by kernel_rfl) (by kernel_rfl))<|av aF<|av (pf c 6)<|Lv (.agg (aA 6 (fun j => .bool (L.left j)))) (eT z.aH 6 (fun j h=>BG (p:=j) _ h (by omega)))<|av (pf d 6)<|Lv (.agg (aA 6 (fun j => .bool (L.left j)))) (eT s.aH 6 (fun j h=>BG (p:=j) _ h (by omega)))<|Lv aF (Fx.Ch (n:=6) (ks:=List.replicate 6 none) (X:=fun j => .bool (L.left j)) (Y:=fun j => .bool (L.left j)) 12 true rfl rfl rfl (Fx.EU (fun _ _=>rfl)) (EL _) (EL _) rfl (by kernel_rfl) (by kernel_rfl) (by kernel_rfl) (by kernel_rfl) (by kernel_rfl))<|av aF<|av aF<|av (pf c 12)<|Lv (.agg (aA 6 (rv .u64 L.known))) (eT z.aH 12 (fun j h=>iY (p:=j) _ h (by omega)))<|av (pf d 12)<|Lv (.agg (aA 6 (rv .u64 L.known))) (eT s.aH 12 (fun j h=>iY (p:=j) _ h (by omega)))<|Lv aF (Fx.Ch (n:=6) (ks:=List.replicate 6 (some .u64)) (X:=rv .u64 L.known) (Y:=rv .u64 L.known) 12 true rfl rfl rfl (Fx.EU (fun _ _=>rfl)) (Fx.KH fun i Q=>afp (l.k i Q)) (Fx.KH fun i Q=>afp (l.k i Q)) rfl (by kernel_rfl) (by kernel_rfl) (by kernel_rfl) (by kernel_rfl) (by kernel_rfl))<|av aF<|av aF<|av (pf c 18)<|Lv (.slice t (L.nn) (u)) (aL z.aH 18)<|av (au L.nn)<|av (pf d 18) ?_;refine Lv (.slice A (L.nn) (B)) (aL s.aH 18)<|av (au L.nn)<|Lv aF (iN rfl)<|av aF<|av aF<|av (pf c 19)<|Lv (.slice m (L.gn) (o)) (aL z.aH 19)<|av (au L.gn)<|av (pf d 19)<|Lv (.slice x (L.gn) (y)) (aL s.aH 19)<|av (au L.gn)<|Lv aF (iN rfl)<|av aF<|aD<|aK<|Wk<|sN<|Ws<|ay<|av (au 0)<|aD<|Wb<|Wo (fun f v => ∃ k:Nat,k<=L.nn/\f 2=(pt c)/\f 3=(pt d)/\f 5=au (k:Int)/\aP v c 20 (lS (Dk L t u m o)) 50/\aP v d 20 (lS (Dk L A B x y)) 50/\Below w.heap.size w v) (fun f _=>(L.nn-(intOf (f 5)).toNat)) ⟨0,by omega,(by rfl),(by rfl),Fx.ic,z,s,b2⟩ ?_;rintro f1 C ⟨k,hk,J,O,E,K,U,H⟩;refine Ws<|ay<|aW E<|Lv (pf c 18) (gP J 18)<|Lv (.slice t (L.nn) (u)) (aL K.aH 18)<|av (au L.nn) ?_;by_cases ac:(k:Int)<(L.nn:Int)
 ·refine Lv aG (gY ac)<|aD<|aM<|Wk<|sN<|Ws<|Wb<|Ws ?_;refine vG<|Qv (pf c 18) (fun b a=>gP J 18)<|Qv (.slice t (L.nn) (u)) (fun b a=>aL (K.aH.dr a) 18)<|eF E ?_;obtain⟨W,ZX,eq1,m6⟩:=(hN1.up H rfl) (by omega);have VA:W<C.heap.size:=m6.lt (by omega);refine Qv (pf W (56*k+ZX)) (fun b a=>dh 56 (hx:=(rfl.trans (L_ (fun q=>Value.slice q (L.nn) (u)) eq1))))<|Qv (.agg (aA 56 (WX L k))) (fun b a=>eT (m6.dr a) (56*k) (fun R r=>Fx.iH (k:=k) (by omega) r))<|Qv (pf d 18) (fun b a=>gP O 18)<|Qv (.slice A (L.nn) (B)) (fun b a=>aL (U.aH.dr a) 18)<|eF E ?_;obtain⟨Z,oq2,FU,m7⟩:=(hN2.up H rfl) (by omega);have aiZ:Z<C.heap.size:=m7.lt (by omega);refine Qv (pf Z (56*k+oq2)) (fun b a=>dh 56 (hx:=(rfl.trans (L_ (fun q=>Value.slice q (L.nn) (B)) FU))))<|Qv (.agg (aA 56 (WX L k))) (fun b a=>eT (m7.dr a) (56*k) (fun R r=>Fx.iH (k:=k) (by omega) r))<|Qv aF (fun b a=>Fx.Ch (n:=56) (ks:=((some .u64)::(some .u64)::List.replicate 54 (some .i64))) (X:=WX L k) (Y:=WX L k) 12 true rfl rfl rfl (Fx.EU (fun _ _=>rfl)) (aby (l.n k (by omega))) (aby (l.n k (by omega))) rfl (by kernel_rfl) (by kernel_rfl) (by kernel_rfl) (by kernel_rfl) (by kernel_rfl))<|Qn ?_;rintro _ ⟨G,rfl⟩;obtain⟨Cv,M⟩ : ∃ b,b=World.drewN C G:=⟨_,rfl⟩;rw[<- M];have s3:Stp C.heap.size C Cv:=by rw[M]; exact Sb (jB C G)
  have⟨m8,m9,b4⟩:=gL s3.old K U H;clear M;refine sN<|aK<|Wk<|bS<|sN<|Wl<|aW E<|Lv (au ((k:Int)+1)) fH<|av (au ((k:Int)+1))<|Ln<|iG ⟨k+1,by omega,J,O,Fx.ic,m8,m9,b4⟩ ?_;show(L.nn-(intOf (au ((k:Int)+1))).toNat)<_;simp only[E,intOf]; omega
 refine Lv aF (gZ ac)<|aD<|aK<|Wx<|cB<|gW<|bZ<|sN<|Ws<|ay<|av (au 0)<|aD<|Wb<|Wo (fun f v => ∃ k:Nat,k<=L.gn/\f 2=(pt c)/\f 3=(pt d)/\f 6=au (k:Int)/\aP v c 20 (lS (Dk L t u m o)) 50/\aP v d 20 (lS (Dk L A B x y)) 50/\Below w.heap.size w v) (fun f _=>(L.gn-(intOf (f 6)).toNat)) ⟨0,by omega,J,O,Fx.ic,K,U,H⟩ ?_;rintro f2 D ⟨k,hk,P,h5,F,T,m13,I⟩;refine Ws<|ay<|aW F<|Lv (pf c 19) (gP P 19)<|Lv (.slice m (L.gn) (o)) (aL T.aH 19)<|av (au L.gn) ?_;by_cases ad:(k:Int)<(L.gn:Int)
 ·refine Lv aG (gY ad)<|aD<|aM<|Wk<|sN<|Ws<|Wb<|Ws ?_;refine vG<|Qv (pf c 19) (fun b a=>gP P 19)<|Qv (.slice m (L.gn) (o)) (fun b a=>aL (T.aH.dr a) 19)<|eF F ?_;obtain⟨aa,oq3,X6,m14⟩:=(hG1.up I rfl) (by omega);have arf:aa<D.heap.size:=m14.lt (by omega);refine Qv (pf aa (5*k+oq3)) (fun b a=>dh 5 (hx:=(rfl.trans (L_ (fun q=>Value.slice q (L.gn) (o)) X6))))<|Qv (.agg (aA 5 (GU L k))) (fun b a=>eT (m14.dr a) (5*k) (fun R r=>Fx.iH (k:=k) (by omega) r))<|Qv (pf d 19) (fun b a=>gP h5 19)<|Qv (.slice x (L.gn) (y)) (fun b a=>aL (m13.aH.dr a) 19)<|eF F ?_;obtain⟨ab,oq4,eq4,m15⟩:=(hG2.up I rfl) (by omega);have axT:ab<D.heap.size:=m15.lt (by omega);refine Qv (pf ab (5*k+oq4)) (fun b a=>dh 5 (hx:=(rfl.trans (L_ (fun q=>Value.slice q (L.gn) (y)) eq4))))<|Qv (.agg (aA 5 (GU L k))) (fun b a=>eT (m15.dr a) (5*k) (fun R r=>Fx.iH (k:=k) (by omega) r))<|Qv aF (fun b a=>Fx.Ch (n:=5) (ks := [(some .i64),(some .u64),(some .u64),(some .i64),(some .u64)]) (X:=GU L k) (Y:=GU L k) 12 true rfl rfl rfl (Fx.EU (fun _ _=>rfl)) (abz (l.g k (by omega))) (abz (l.g k (by omega))) rfl (by kernel_rfl) (by kernel_rfl) (by kernel_rfl) (by kernel_rfl) (by kernel_rfl))<|Qn ?_;rintro _ ⟨G,rfl⟩;obtain⟨wq2,N⟩ : ∃ b,b=World.drewN D G:=⟨_,rfl⟩;rw[<- N];have s4:Stp D.heap.size D wq2:=by rw[N]; exact Sb (jB D G)
  have⟨m16,m17,b6⟩:=gL s4.old T m13 I;clear N;refine sN<|aK<|Wk<|bS<|sN<|Wl<|aW F<|Lv (au ((k:Int)+1)) fH<|av (au ((k:Int)+1))<|Ln<|iG ⟨k+1,by omega,P,h5,Fx.ic,m16,m17,b6⟩ ?_;show(L.gn-(intOf (au ((k:Int)+1))).toNat)<_;simp only[F,intOf]; omega
 refine Lv aF (gZ ad)<|aD<|aK<|Wx<|cB<|gW<|bZ<|sN<|ay<|av aG<|aD<|Wr<|aJ aG ?_;exact⟨rfl,I⟩
theorem Qh{w:World}{b c:Ef}{L:eP}(h1:KD w b L)(a:KD w c L)(d:LWf L):Calls Tryz.prog 17 #[.agg (aA 20 (lS b)),.agg (aA 20 (lS c))] w fun e w'=>e = .returned (.bool true)/\Below w.heap.size w w':=by
 rw[h1.e,a.e];exact afq L _ _ _ _ _ _ _ _ w d h1.n a.n h1.g a.g
namespace Rt
def Na(x y:Value):Nat->Value:=fun q=>if q=0 then x else y
theorem aja(x y v:Value):dF (Na x y) 0 v=Na v y:=by funext q; unfold dF Na; split <;> rfl
theorem ajb(x y v:Value) : ∀ j,j<2->dF (Na x y) 1 v j=Na x v j:=fun j a=>by
 unfold dF Na
 rcases j with _|_|j
 ·rfl
 ·rfl
 ·omega
def Hf(a:Nat->Nat):Nat->Value:=fun i=>(pt (a i))
def I7(w:World)(B n:Nat)(b:Nat->Nat)(a:Nat->kV):Prop := ∀ i,i<n->rX w B (b i) (a i)
theorem I7.up{w w':World}{B n:Nat}{b:Nat->Nat}{a:Nat->kV}(h:I7 w B n b a)(c:Below w.heap.size w w'):I7 w' B n b a:=fun i d=>(h i d).up c
instance {w w':World} {B n:Nat} {c:Nat->Nat} {a:Nat->kV}:Rt.Tr w w' (I7 w B n c a) (I7 w' B n c a):=⟨fun b h=>h.up b⟩
theorem I7.lu{w w':World}{B n:Nat}{c:Nat->Nat}{b:Nat->kV}{a:List TypeId}(h:I7 w B n c b)(e:jm a w w')(f:(Lp.all fun T => !a.contains T)=true):I7 w' B n c b:=fun i d=>(h i d).lu e f
instance {w w':World} {B n:Nat} {d:Nat->Nat} {c:Nat->kV} {a:List TypeId}:Rt.Tc a w w' (I7 w B n d c) (I7 w' B n d c) (Lp.all fun T => !a.contains T):=⟨fun b h e=>h.lu b (by simpa using e)⟩
theorem I7.put{w:World}{B n o p:Nat}{b:Nat->Nat}{a:Nat->kV}{m:kV}(h:I7 w B n b a)(d:rX w B p m):I7 w B n (aI b o p) (aI a o m):=fun i c=>by
 unfold aI;by_cases e:i=o
 ·rw[d_ e,d_ e]; exact d
 ·rw[b_ e,b_ e]; exact h i c
theorem I7.snoc{w:World}{B n p:Nat}{b:Nat->Nat}{a:Nat->kV}{m:kV}(h:I7 w B n b a)(c:rX w B p m):I7 w B (n+1) (aI b n p) (aI a n m):=fun i d=>by
 unfold aI;by_cases e:i=n
 ·rw[d_ e,d_ e]; exact c
 ·rw[b_ e,b_ e]; exact h i (by omega)
theorem afs{n p:Nat}{a:Nat->Nat}{z:Nat->Value} : ∀ j,j<(n+1)*1->iM (Hf a) (n*1) (bC z (0*1) 1 (fun _=>(pt p))) j=Hf (aI a n p) j:=by
 intro j b;unfold iM Hf aI;by_cases h:j<n*1
 ·rw[d_ h,b_ (by omega)]
 rw[b_ h,d_ (by omega)];unfold bC;rw[d_ (by omega)]
theorem WZ{o p:Nat}{a:Nat->Nat}:dF (Hf a) o (pt p)=Hf (aI a o p):=by
 funext j; unfold dF Hf aI
 by_cases h:j=o
 ·rw[d_ h,d_ h]
 rw[b_ h,b_ h]
theorem aft{n:Nat}{e:Nat->EvM}{v:EvM}{z:Nat->Value} : ∀ j,j<(n+1)*14->iM (evX e) (n*14) (bC z (0*14) 14 (bJ v)) j=evX (aI e n v) j:=fun j a =>
 (Fx.yD j a).trans (bL (fun i _ q _=>by unfold Fx.rR aI; split <;> rfl) j a)
structure WM where
 n:Nat
 la:Option Addr
 lc:Nat
 pl:Nat->Nat
 ml:Nat->kV
 an:Nat
 aa:Option Addr
 ac:Nat
 ev:Nat->EvM
end Rt
structure oN(w:World)(B p:Nat)(M:WM)(T:Nat):Prop where
 c:aP w p 2 (Na (.slice M.la M.n M.lc) (.slice M.aa M.an M.ac)) 78
 l:Fx.Own w B 29 1 (.slice M.la M.n M.lc) M.n (Hf M.pl)
 a:Fx.Own w B 37 14 (.slice M.aa M.an M.ac) M.an (evX M.ev)
 g:I7 w B M.n M.pl M.ml
 inv : ∀ i,i<M.n->Inv (M.ml i).core T
 wf : ∀ k,k<M.an->gD (M.ev k)
 may : ∀ k,k<M.an->bR (M.ev k)=true
 sm : ∀ k,k<M.an->sw (M.ev k)
 cz:Cz M.n M.an M.ev fun o=>(M.ml o).s.known
 pB:B<=p
 n1:1<=M.n
 n6:M.n<=6
theorem oN.up{w w':World}{B p T:Nat}{M:WM}(h:oN w B p M T)(b:Below w.heap.size w w'):oN w' B p M T := { h with c:=h.c.bW (Sb b) (u_ h.c.lt),l:=h.l.up b,a:=h.a.up b,g:=h.g.up b }
instance {w w':World} {B p T:Nat} {M:WM}:Rt.Tr w w' (oN w B p M T) (oN w' B p M T):=⟨fun b h=>h.up b⟩
theorem ZY{w:World}{B p k a:Nat}(d:aP w p 27 (kN (jP k a)) 56)(f:aP w a 1 (fun _ => .slice none 0 0) 156)(h1:B<=p)(b:B<=a):rX w B p (jP k a) where
 c:=d
 n:=xM _ _ _ _ _
 g:=xM _ _ _ _ _
 tc:=f
 t:=xM _ _ _ _ _
 r:=⟨fun _ _=>xM _ _ _ _ _,fun _ _ _ _ _ _ e=>by cases e⟩
 pB:=h1
 tB:=b
 bn:=K_ _
 bg:=K_ _
 bt:=K_ _
 br:=fun _ _=>K_ _
theorem Rt.BZ(k a:Nat):Inv (jP k a).core 0 where
 CV:=rfl
 nn:=K_ _
 tid:=fun _ h=>M_ h (z_ _)
 rise:=fun _ _ _ h=>M_ h (z_ _)
 pos:=fun _ h=>M_ h (z_ _)
 top:=fun _ h=>M_ h (z_ _)
 up:=fun _ h=>M_ h (z_ _)
 dep:=fun _=>⟨0,K_ _,by show(-1:Int)<0; decide⟩
 gn:=A_ _
 rn:=fun _ _=>A_ _
 may:=fun _ h=>M_ h (z_ _)
 g47:=fun _ h=>M_ h (z_ _)
 kn:=fun _ _=>⟨N_ _,by show(0:Int)<_; decide⟩
 s:=⟨fun _ h=>M_ h (z_ _),fun _ h=>M_ h (z_ _)⟩
 b:=⟨fun _ _=>N_ _,fun _ h=>M_ h (z_ _),fun _ _ _ h=>M_ h (z_ _)⟩
set_option maxRecDepth 20000 in
theorem OB(n:Nat)(w:World)(V:1<=n)(W:n<=6) :
 Calls Tryz.prog 27 #[au (n:Int)] w fun e w' => ∃ p M,e = .returned (pt p)/\M.n=n/\M.an=0/\(∀ i,(M.ml i).core=(jP n 0).core)/\oN w' w.heap.size p M 0/\Below w.heap.size w w':=by
 refine Kent Tryz.func27 30 ?_;refine ay<|av (.pointer none)<|aD<|ay<|av (.agg (aA 2 (fun _ => .slice none 0 0)))<|om fun b P kM X s1 z1 => ?_;have b1:=bD s1.old (Below.refl w.heap.size w);have qZ:=gI kM;have sF:=X.lt;refine av (pt b)<|aD<|Ws<|ay<|av (au 0)<|aD<|Wb ?_;have m2:aP P b 2 (Na (.slice none 0 0) (.slice none 0 0)) 78:=X.congr (fun j _=>by unfold Na; split <;> rfl)
 have m3:Fx.Own P w.heap.size 29 1 (.slice none 0 0) 0 (Hf (fun _=>0)):=xM _ _ _ _ _;have m4:I7 P w.heap.size 0 (fun _=>0) (fun _=>jP n 0):=fun _ h=>M_ h (z_ _);refine Wo (fun f G => ∃ k:Nat,∃ a:Option Addr,∃ u:Nat,∃ t:Nat->Nat,∃ r:Nat->kV,k<=n/\(∀ i,∃ z,r i=jP n z)/\f 0=au (n:Int)/\f 3=(pt b)/\f 4=au (k:Int)/\aP G b 2 (Na (.slice a k u) (.slice none 0 0)) 78/\Fx.Own G w.heap.size 29 1 (.slice a (k) (u)) k (Hf t)/\I7 G w.heap.size k t r/\Below w.heap.size w G) (fun f _=>(n-(intOf (f 4)).toNat)) ⟨0,none,0,(fun _=>0),(fun _=>jP n 0),by omega,(fun _=>⟨0,rfl⟩),Fx.ic,(by rfl),Fx.ic,m2,m3,m4,b1⟩ ?_;rintro f1 w2 ⟨k,a,u,t,r,hk,F,J,E,K,m5,m6,m7,A⟩;refine Ws<|ay<|aW K<|aW J ?_;by_cases S:(k:Int)<(n:Int)
 ·refine Lv aG (gY S)<|aD<|aM<|Wk<|sN<|Ws<|Wb<|ay<|aW J<|kU (ahx n _ V W) ?_;rintro e9 w3 ⟨d,O,T,hp3,_,hb3,hc3,ht3,arh⟩;refine⟨.tuple #[(pt d),au 0],T,?_⟩;clear T;have⟨N,m9,m10,Q⟩:=jw hb3 m5 m6 m7 A;have hL1:rX w3 w.heap.size d (jP n O):=ZY hc3 ht3 (m_ A.size hp3) (m_ A.size arh);refine av (.tuple #[(pt d),au 0])<|av (pt d)<|av (au 0)<|av (pt d)<|av (au 0)<|aD<|Wl<|aW E<|aW E<|av (pt b)<|av (pt b)<|Lv (.slice a (k) (u)) (aL N.aH 0)<|av (pt d)<|zi (vs := [(0,(pt d))]) (s:=1) (zc:=fun _ => .pointer none) (y:=bC (fun j => .pointer none) (0*1) 1 (fun _=>(pt d))) (by rfl) rfl rfl Tryz.underlying75 (by kernel_rfl) (by rfl) (by rfl) (by kernel_rfl) (by rw[bf (off:=0*1) (s:=1) (y:=fun _=>(pt d)) rfl (cells_one (by rfl)) (by rfl)]; rfl) rfl fun g2 w4 I Y s3 z2 => ?_;have⟨m12,L,m14,m15,H⟩:=lJ s3.old N m9 m10 hL1 Q;have pK:=iw I Q.size;have F9:=cu I N.lt;have AX:(.slice a (k) (u):Value).ownBlock≠some g2:=by rw[I]; exact m9.kP (A_ _)
  have xR:=Y.lt;refine zP (B:=w.heap.size) (s:=1) (bytes:=8) (k:=k) (m:=1) (v := .slice a (k) (u)) (x:=Hf t) (by rfl) rfl rfl rfl Tryz.underlying75 (by kernel_rfl) (by kernel_rfl) rfl rfl L Y.aH (zB (fun _=>rfl)) (by omega) (by omega) (by omega) H.size fun D C w5 ho1 U wR hlt1 => ?_;have fO:=zQ U L;have⟨Z,m18,m19⟩:=Bp fO m12 m14 m15;have m16:Fx.Own w5 w.heap.size 29 1 (bO D (k+1) C) (k+1) (Hf (aI t k d)):=(ho1.congr (fun j hj=>afs j hj));have R:Below w.heap.size w w5:=zO H U H.size (fun q hq=>(L.ge hq).1);refine av (pt b)<|av (pt b)<|jv Z 0 (bO D (k+1) C) fun w6 m20 s4 z3 => ?_;have m21:aP w6 b 2 (Na (bO D (k+1) C) (.slice none 0 0)) 78:=m20.to (aja _ _ _);have jJ:=fQ s4 Z.ty;have⟨m22,m23,m24⟩:=Bp jJ m18 m19 m16;have b6:=s4.below R R.size (by omega);refine Ln<|bS<|sN<|Wl<|aW K<|Lv (au ((k:Int)+1)) fH<|av (au ((k:Int)+1))<|Ln ?_;have mM:I7 w6 w.heap.size (k+1) (aI t k d) (aI r k (jP n O)):=m22.snoc m23
  skip
  refine iG ⟨k+1,(some ⟨D,0,none⟩),C,(aI t k d),(aI r k (jP n O)),by omega,(fun i=>by unfold aI; split <;> first|exact⟨_,rfl⟩|exact F i),(J.trans Fx.ic),E,Fx.ic,m21,m24,mM,b6⟩ ?_
  show(n-(intOf (au ((k:Int)+1))).toNat)<_;simp only[K,intOf]; omega
 refine Lv aF (gZ S)<|aD<|aK<|Wx<|cB<|gW<|bZ<|sN<|ay<|aW E<|av (pt b)<|aD<|Wr<|aJ (pt b) ?_;obtain rfl:k=n:=by omega
 exact⟨b,⟨k,a,u,t,r,0,none,0,fun _=>⟨0,0,fun _=>0,0,0,0,0,0,0⟩⟩,rfl,rfl,rfl,(fun i=>by obtain⟨z,e⟩:=F i; show(r i).core=_; rw[e]; rfl),{ c:=m5,l:=m6,a:=xM _ _ _ _ _,g:=m7,inv:=fun i _=>by obtain⟨z,e⟩:=F i; show Inv (r i).core 0; rw[e]; exact BZ k z,wf:=fun _ h=>M_ h (z_ _),may:=fun _ h=>M_ h (z_ _),sm:=fun _ h=>M_ h (z_ _),cz:=Cz.zero k (fun o _=>by obtain⟨z,e⟩:=F o; show(r o).s.known=_; rw[e]; rfl),pB:=qZ,n1:=V,n6:=W },A⟩
end Go.Proofs.YtcbedgfikejkoaaGreatDoor
namespace Go.Proofs.YtcbedgfikejkoaaGreatDoor
open Go.RowKit Go Rt
namespace Rt
section
variable {L:eP} {N:Nat} {v:EvM}
theorem OC(b:Inv0 L N)(h:AV L):AV (bT L v):=by
 unfold bT;by_cases c:bA L v=0
 ·rw[d_ c];have a:=(DI (iU c)).1;have d:dW L v=0:=by
   unfold bA at c;rw[b_ (by rw[a]; decide)]at c;split at c; · cases c
   split at c; · cases c
   split at c; · cases c
   exact c
  have:=IE b h a d;exact⟨this.us,this.gb⟩
 rw[b_ c]; exact h
def Gq(L:eP)(x i:Int):Int:=if L.node x<0 then 0 else gF (L.R (L.node x).toNat) i
theorem OD(i:Int):gF Gi i=0:=by
 unfold gF;by_cases c:(iC i&&may Gi)=true
 ·rw[d_ c];rw[S_]at c;obtain⟨a,d,e,b⟩:=sj c.1;have:=zy (nI c.2) a d;rw[b,this]; rfl
 rw[b_ c]
theorem fV.local{m:dQ}(h:fV m L)(a:Inv0 L N)(x i:Int):gF (aY m x) i=Gq L x i:=by
 unfold aY Gq;by_cases c:L.node x<0
 ·rw[b_ (by rw[(h.Mt a x).2 c]; decide),d_ c]; exact OD i
 rw[d_ ((h.node a x).2 (by omega)),b_ c,h.rk a (by omega)]
structure I8(m m':dQ):Prop where
 et:m'.tp=m.tp
 em:m'.mb=m.mb
 ep:m'.pb=m.pb
 er:m'.rb=m.rb
 eg:m'.gb=m.gb
 ea:m'.ab=m.ab
end
end Rt
structure xX(w:World)(B lp:Nat)(m:dQ)(L:eP)(N:Nat):Prop where
 q:mG w B lp m
 s:fV m L
 i:Inv0 L N
 u:AV L
 g:yu L
section
variable {w w':World} {B lp:Nat} {m:dQ} {L:eP} {N:Nat} {v:EvM}
theorem xX.up(h:xX w B lp m L N)(a:Below w.heap.size w w'):xX w' B lp m L N := { h with q:=h.q.up a }
instance:Rt.Tr w w' (xX w B lp m L N) (xX w' B lp m L N):=⟨fun b h=>h.up b⟩
theorem xX.lu{a:List TypeId}(h:xX w B lp m L N)(b:Fx.jm a w w')(c:(a.contains 114 || a.contains 165)=false):xX w' B lp m L N := { h with q:=h.q.lu b c }
instance {a:List TypeId}:Rt.Tc a w w' (xX w B lp m L N) (xX w' B lp m L N) (!(a.contains 114 || a.contains 165)):=⟨fun b h e=>h.lu b (by simpa using e)⟩
theorem xX.weak{a:Nat}(h:xX w B lp m L N)(b:a<=B):xX w a lp m L N := { h with q:=h.q.weak b }
theorem xX.mono{N':Nat}(h:xX w B lp m L N)(a:N<=N'):xX w B lp m L N' := { h with i:=h.i.mono a }
theorem xX.wf(h:xX w B lp m L N)(a:N<=900000):LWf L:=LWf.of h.i h.u h.g a
theorem mG.yZ(h:mG w B lp m)(a:Fx.jR (Ry m lp w.heap.size) w w')(c:B<=w.heap.size):Below B w w':=⟨a.os,a.tape,a.output,a.size,fun k d=>a.block k (by omega) fun b=>by
 rcases b with b|b
 ·have:=(h.ltS b).1; omega
 ·omega⟩
theorem mG.typed(h:mG w B lp m)(d:Fx.jR (Ry m lp w.heap.size) w w'):Fx.zm [114] w w':=⟨d.os,d.tape,d.output,d.size,fun k T b e=>d.block k b.ltw fun f=>by
 rcases f with (rfl|rfl|rfl|rfl|rfl|rfl)|f
 ·have:=Fx.Ty.only h.c.ty b;rw[this]at e; simp at e
 ·exact h.t.map.sV b
 ·exact h.p.sV b
 ·exact h.r.sV b
 ·exact h.g.sV b
 ·exact h.a.sV b
 ·have:=b.ltw; omega⟩
theorem RO{B:Nat}{a b c:World}(h:Below a.heap.size a b)(e:Below B b c)(d:a.heap.size<=B):Below a.heap.size a c:=h.trans (e.mono d)
theorem nZ{P:Program}{g:Nat}{a b:Array Value}{w:World}{R:Ending->World->Prop}(h:Calls P g b w R)(e:a=b):Calls P g a w R:=e ▸ h
theorem Qi{x:Value}{y:Nat->Value}(hy : ∀ j,j<14->y j=bJ v j):(#[x,.agg (Fx.aA 14 y)]:Array Value) = #[x,.agg (Fx.aA 14 (bJ v))]:=L_ (fun z=>(#[x,.agg z]:Array Value)) (Fx.dO hy)
theorem abA(k:Nat)(d:1<=k/\k<=6)(w:World):Calls Tryz.prog 29 #[au (k:Int)] w fun e w' => ∃ lp m,e = .returned (.tuple #[(pt lp),au 0])/\xX w' w.heap.size lp m (jP k 0).core 0/\Below w.heap.size w w' :=
 (aiS k d w).mono fun e w' ⟨lp,m,c,⟨n,i,j,l,h,g,a⟩,f,b⟩=>⟨lp,m,c,⟨f,by rw[a]; exact fV.new ..,(BZ k 0).toInv0,(BZ k 0).s,Mv k 0⟩,b⟩
theorem Qj(h:xX w B lp m L N)(b:gD v)(c:1<=B)(d:Fx.iV w 0 0 8 A8){y:Nat->Value}(hy : ∀ j,j<14->y j=bJ v j) :
 Calls Tryz.prog 20 #[(pt lp),.agg (Fx.aA 14 y)] w fun e w'=>e = .returned (au (bA L v))/\xX w' B lp (ji m v) (bT L v) (N+1)/\Fx.jR (Ry m lp w.heap.size) w w':=by
 have a:=h.s.apply h.q.t.inv h.i v;refine nZ ((ZF m lp B w h.q v b (h.s.sound h.q.t.inv h.i) c d).mono fun e w' ⟨k,l,f⟩=>⟨by rw[k,a.1],⟨l,a.2,AU h.i,OC h.i h.u,Gm h.g b⟩,f⟩) (Qi hy)
theorem Z0(h:xX w B lp m L N)(g:gD v)(a:1<=B)(b:Fx.iV w 0 0 8 A8){y:Nat->Value}(hy : ∀ j,j<14->y j=bJ v j) :
 Calls Tryz.prog 19 #[(pt lp),.agg (Fx.aA 14 y)] w fun e w'=>e = .returned (au (bA L v))/\Below w.heap.size w w':=by
 have f:=h.s.apply h.q.t.inv h.i v;refine nZ ((aqL m lp B w h.q v g (h.s.sound h.q.t.inv h.i) a b).mono fun e w' ⟨d,c⟩=>⟨by rw[d,f.1],c⟩) (Qi hy)
theorem Qk(h:xX w B lp m L N):Calls Tryz.prog 21 #[(pt lp)] w fun e w'=>e = .returned (.agg (Fx.aA 6 (Fx.rv .u64 L.known)))/\Below w.heap.size w w':=by
 rw[<- h.s.known]; exact ZG m lp B w h.q
theorem Z4(h:xX w B lp m L N)(i x:Int)(hi : -9223372036854775808<=i/\i<=9223372036854775807):Calls Tryz.prog 31 #[(pt lp),au i,aC x] w fun e w'=>e = .returned (au (Gq L x i))/\Below w.heap.size w w':=by
 rw[<- h.s.local h.i]; exact ZH m lp B w h.q i x hi
structure Nb(w:World)(B:Nat)(s:Ef)(L:eP):Prop where
 e:s=Dk L s.na s.nc s.ga s.gc
 n:Fx.Own w B 84 56 (.slice s.na L.nn s.nc) L.nn (Fx.flat 56 (WX L))
 g:Fx.Own w B 106 5 (.slice s.ga L.gn s.gc) L.gn (Fx.flat 5 (GU L))
theorem Nb.r{s:Ef}(h:Nb w B s L):KD w s L:=⟨h.e,h.n.arr,h.g.arr⟩
theorem Nb.up{s:Ef}(h:Nb w B s L)(a:Below w.heap.size w w'):Nb w' B s L:=⟨h.e,h.n.up a,h.g.up a⟩
instance {s:Ef}:Rt.Tr w w' (Nb w B s L) (Nb w' B s L):=⟨fun b h=>h.up b⟩
theorem Nb.lu{s:Ef}{a:List TypeId}(h:Nb w B s L)(c:Fx.jm a w w')(b:(a.contains 84 || a.contains 106)=false):Nb w' B s L:=by
 rw[Bool.or_eq_false_iff]at b;exact⟨h.e,h.n.lu c b.1,h.g.lu c b.2⟩
instance {s:Ef} {a:List TypeId}:Rt.Tc a w w' (Nb w B s L) (Nb w' B s L) (!(a.contains 84 || a.contains 106)):=⟨fun b h e=>h.lu b (by simpa using e)⟩
theorem Nb.yG{s:Ef}{a:List TypeId}(h:Nb w B s L)(c:Fx.zm a w w')(b:(a.contains 84 || a.contains 106)=false):Nb w' B s L:=by
 rw[Bool.or_eq_false_iff]at b;exact⟨h.e,h.n.yG c b.1,h.g.yG c b.2⟩
theorem Kg(h:xX w B lp m L N)(z:N<=900000):Calls Tryz.prog 18 #[(pt lp)] w fun e w' => ∃ s,e = .returned (.agg (Fx.aA 20 (lS s)))/\Nb w' w.heap.size s L/\Below w.heap.size w w':=by
 refine(ZU m lp B w h.q (by rw[h.s.gn]; have:=h.i.gn; omega)).mono fun e w' ⟨s,l,y,x,a,v⟩=>⟨s,x,?_,v⟩;have b:=StC.of h.s h.i h.g a.ls a.gs;have o:s.nn=L.nn:=by rw[a.nn,b.nn]
 have p:s.gn=L.gn:=by rw[a.gn,b.gn]
 have f:=a.n;have d:=a.g;rw[o]at f;rw[p]at d;refine⟨(KD.of a h.s h.i h.g).e,f.congr (Fx.bL fun k c j _ => ?_),d.congr (Fx.bL fun k c j _ => ?_)⟩
 ·obtain⟨r,t,u⟩:=b.n k c;unfold WS WX;rw[t,u,r]
 unfold X7 GU;rw[b.g k c]
end
end Go.Proofs.YtcbedgfikejkoaaGreatDoor
namespace Go.Proofs.YtcbedgfikejkoaaGreatDoor
open Go.RowKit Rt
open Fx (aZ dD gJ dR gy Lv sN Ln Ws Qv Wl Rp Wc Wr Sb Wk rV sR Rs Rd Wb qW Qn zi zP fQ zQ uj vw wm zn zY rv aA aP bC ev Stp aN dF aR bf jR je bK cells_one jm bB nE jU bS)
namespace Rt
def Sl:Int:=1099511627777
theorem W9{m:dQ}(b:m.T.ok)(v:EvM):(ji m v).T.ok:=by
 unfold ji;by_cases c:cK m v=0
 ·rw[d_ c];have f:=qL c;have a:=(qM c).2.1;have g:=oJ f;show(jh m v).T.ok;unfold fM at a;unfold jh;by_cases d:v.kind=1
  ·rw[d_ d]at a ⊢;have e:m.T.err (oq v) v.node=0:=by
    unfold jy at a;split at a
    ·cases a
    ·exact a
   exact Ce.put b e (by unfold oq; omega)
  rw[b_ d]
  repeat' split
  all_goals exact b
 rw[b_ c]; exact b
structure Dl(m:dQ)(L:eP)(N:Nat):Prop where
 s:fV m L
 t:m.T.ok
 i:Inv0 L N
theorem Dl.new(k:Nat):Dl (yt k 0 0 0 0 0 0) (jP k 0).core 0:=⟨fV.new ..,Ce.zero _ _,(BZ k 0).toInv0⟩
theorem Dl.apply{m:dQ}{L:eP}{N:Nat}(h:Dl m L N)(v:EvM):Dl (ji m v) (bT L v) (N+1):=⟨(h.s.apply h.t h.i v).2,W9 h.t v,AU h.i⟩
theorem Dl.err{m:dQ}{L:eP}{N:Nat}(h:Dl m L N)(v:EvM){c:Int}(e:cK m v=c):bA L v=c:=(h.s.apply h.t h.i v).1.symm.trans e
theorem Dl.loc{m:dQ}{L:eP}{N:Nat}(h:Dl m L N)(x i:Int){c:Int}(e:gF (aY m x) i=c):Gq L x i=c:=(h.s.local h.i x i).symm.trans e
end Rt
namespace Rt
structure Eo where
 who:Nat
 meet:Bool
 other:Nat
 kind:Nat
 node:Nat
 dst:Nat
 aT:Nat
 req:Nat
 of:Nat
structure Gr(x:Eo):Prop where
 who:x.who<=255
 other:x.other<=255
 kind:x.kind<=255
 node:x.node<=255
 dst:x.dst<=255
 aT:x.aT<=65535
 req:x.req<=255
 of:x.of<=255
def Gs(x:Eo):Nat->Value:=fun p=>if p=0 then .int .u8 (x.who:Int)else if p=1 then .bool x.meet else if p=2 then .int .u8 (x.other:Int)else if p=3 then .int .u8 (x.kind:Int)else if p=4 then .int .u8 (x.node:Int)else if p=5 then .int .u8 (x.dst:Int)else if p=6 then .int .u16 (x.aT:Int)else if p=7 then .int .u8 (x.req:Int)else .int .u8 (x.of:Int)
theorem Hg{k n r:Nat}(e:r=k % n):Int.tmod (k:Int) (n:Int)=(r:Int):=by
 rw[Int.tmod_eq_emod_of_nonneg (by omega),e];exact(Int.natCast_emod k n).symm
theorem EM(V:EvM)(x:Int) : ∀ j,j<14->dF (bJ V) 9 (aC x) j=bJ { V with node:=x } j:=fun j a=>by
 rcases j with _|_|_|_|_|_|_|_|_|_|_|_|_|_|j <;> first|rfl|omega
theorem Xa(V:EvM)(x:Int) : ∀ j,j<14->dF (bJ V) 10 (au x) j=bJ ⟨V.o,V.seq,V.deps,V.kind,V.node,x,V.aT,V.req,V.of⟩ j:=fun j a=>by
 rcases j with _|_|_|_|_|_|_|_|_|_|_|_|_|_|j <;> first|rfl|omega
theorem Gt(V:EvM)(x:Int) : ∀ j,j<14->dF (bJ V) 11 (au x) j=bJ { V with aT:=x } j:=fun j a=>by
 rcases j with _|_|_|_|_|_|_|_|_|_|_|_|_|_|j <;> first|rfl|omega
theorem Xb(V:EvM)(x:Int) : ∀ j,j<14->dF (bJ V) 12 (aC x) j=bJ { V with req:=x } j:=fun j a=>by
 rcases j with _|_|_|_|_|_|_|_|_|_|_|_|_|_|j <;> first|rfl|omega
theorem ajd(V:EvM)(x:Int) : ∀ j,j<14->dF (bJ V) 13 (aC x) j=bJ { V with of:=x } j:=fun j a=>by
 rcases j with _|_|_|_|_|_|_|_|_|_|_|_|_|_|j <;> first|rfl|omega
end Rt
set_option maxRecDepth 20000 in
set_option maxHeartbeats 2000000 in
theorem Z5(M:WM)(B p T:Nat)(x:Eo)(w:World)(Z:oN w B p M T)(hx:Gr x) :
 Calls Tryz.prog 57 #[(pt p),.agg (aA 9 (Gs x))] w fun e w' => ∃ V,gD V/\sw V/\(V.o=((x.who % M.n:Nat):Int)+1/\V.seq=(M.ml (x.who % M.n)).s.known (x.who % M.n)+1/\V.deps=(M.ml (x.who % M.n)).s.known)/\e = .returned (.agg (aA 14 (bJ V)))/\Below w.heap.size w w':=by
 have hWc:=Z.c;have hWl:=Z.l;have hWa:=Z.a;have hWg:=Z.g;have hn1:=Z.n1;have hn6:=Z.n6;have hpB:=Z.pB;have YR:p<w.heap.size:=hWc.lt;have hxw:=hx.who;have hxo:=hx.other;have hxk:=hx.kind;have hxn:=hx.node;have hxt:=hx.dst;have hxa:=hx.aT;have hxr:=hx.req;have hxf:=hx.of;refine Kent Tryz.func57 143 ?_;refine ay<|om fun G w1 kM m1 s1 z1 => ?_;have⟨m2,m3,m4,m5,b1⟩:=lJ s1.old hWc hWl hWa hWg (Below.refl w.heap.size w);have qZ:=gI kM;have mJ:=cu kM hWc.lt;have sF:=m1.lt;refine oC 14 zQ0 fun U w2 vB m6 s2 z2 => ?_;have⟨m7,m8,m9,m10,m11,b2⟩:=qY s2.old m2 m3 m4 m5 m1 b1;have pK:=iw vB b1.size;have Iq:=cu vB m2.lt;have L6:(.slice M.aa (M.an) (M.ac):Value).ownBlock≠some U:=by rw[vB]; exact m4.kP (A_ _)
 have F8:=cu vB m1.lt;have xR:=m6.lt;refine aD<|Ws ?_;obtain⟨o,eo⟩ : ∃ r,r=x.who % M.n:=⟨_,rfl⟩;have ho:o<M.n:=by rw[eo]; exact J_ _ (by omega)
 refine vG<|aU (pt G)<|Qv (.int .u8 (x.who:Int)) (fun E D=>aL (m11.aH.dr D) 0)<|Qv (au x.who) (fun E D=>dD rfl rfl (by kernel_rfl) Tryz.underlying3 (je (by omega) rfl))<|aU (pt p)<|aU (pt p)<|aU (pt p)<|Qv (.slice M.la (M.n) (M.lc)) (fun E D=>aL (m7.aH.dr D) 0)<|aU (au M.n)<|Qv (au o) (fun E D=>Fx.yB rfl rfl rfl (by omega) (Hg eo))<|aU (au o)<|Qn ?_;rintro _ ⟨qd,rfl⟩;obtain⟨Cv,qh⟩ : ∃ E,E=World.drewN w2 qd:=⟨_,rfl⟩;rw[<- qh];have s3:Stp w2.heap.size w2 Cv:=by rw[qh]; exact Sb (jB w2 qd)
 have⟨m12,m13,m14,m15,m16,m17,b3⟩:=kg s3.old m7 m8 m9 m10 m11 m6 b2;clear qh;refine sN<|ay<|av (pt p)<|av (pt p)<|av (pt p)<|Lv (.slice M.la (M.n) (M.lc)) (aL m12.aH 0)<|av (au o) ?_;obtain⟨GN,eq1⟩:=m13.addr (by omega);have m18:Fx.Own Cv B 29 1 (bO GN M.n M.lc) M.n (Hf M.pl):=m13.fU (L_ (fun q=>Value.slice q M.n M.lc) eq1);refine Lv (pf GN o) (dh 1 (hx:=(rfl.trans (L_ (fun q=>Value.slice q (M.n) (M.lc)) eq1))))<|Lv (pt (M.pl o)) (aL m18.aH o)<|av (pt (M.pl o))<|aD<|Ws ?_;obtain⟨H,aje⟩ : ∃ r,r=x.kind % 7:=⟨_,rfl⟩;have axX:H<7:=by rw[aje]; exact J_ _ (by omega)
 have Z6:=m15 o (by omega);have Gu:=Z6.c;have ajf:=Z6.n;have hkn:=(Z.inv o (by omega)).kn;have hko:=hkn o (by omega);have hko:0<=(M.ml o).s.known o/\(M.ml o).s.known o<1099511627776:=hko;have hU : ∀ k,k<(M.ml o).s.nn->iX ((M.ml o).id k):=fun k hk=>by have Y:=(Z.inv o (by omega)).pos k hk; have I:=(Z.inv o (by omega)).top k hk; exact⟨by show(0:Int)<=(M.ml o).core.id k; omega,by show(M.ml o).core.id k<=_; omega⟩
 have hbn:=(Z.g o (by omega)).bn;refine qW (T:=37) (T':=37) (a := .tmp 7) (v := .tmp 44) (m:=14) (z:=fun h=>if h<1 then au 0 else if h<8 then aC 0 else if h<9 then .int .u8 (0)else if h<10 then aC 0 else if h<12 then au 0 else aC 0) (y:=bC (bC (bC (bC zQ0 0 1 (fun _=>au ((o:Int)+1))) 1 1 (fun _=>aC ((M.ml o).s.known o+1))) 2 6 (rv .u64 ((M.ml o).s.known))) 8 1 (fun _ => .int .u8 ((H:Int)+1))) (u := .agg (aA 14 (bC (bC (bC (bC zQ0 0 1 (fun _=>au ((o:Int)+1))) 1 1 (fun _=>aC ((M.ml o).s.known o+1))) 2 6 (rv .u64 ((M.ml o).s.known))) 8 1 (fun _ => .int .u8 ((H:Int)+1))))) 20 21 (List.replicate 22 (0,2,[],[])) #[au (o:Int),au ((o:Int)+1),(pt (M.pl o)),au (o:Int),(pt (M.pl o)),(pt (M.pl o)),(pf (M.pl o) 12),(pf (M.pl o) (o+12)),aC ((M.ml o).s.known o),aC ((M.ml o).s.known o+1),(pt (M.pl o)),(pt (M.pl o)),(pt (M.pl o)),(pf (M.pl o) 12),.agg (aA 6 (rv .u64 ((M.ml o).s.known))),(pf G 3),.int .u8 (x.kind:Int),.int .u8 (H:Int),.int .u8 ((H:Int)+1),.agg (aA 14 (bC (bC (bC (bC zQ0 0 1 (fun _=>au ((o:Int)+1))) 1 1 (fun _=>aC ((M.ml o).s.known o+1))) 2 6 (rv .u64 ((M.ml o).s.known))) 8 1 (fun _ => .int .u8 ((H:Int)+1)))),undef,undef] (by kernel_rfl) (by kernel_rfl) (by kernel_rfl) (by kernel_rfl) (by kernel_rfl) (by kernel_rfl) rfl (by kernel_rfl) rfl rfl (by kernel_rfl) (fun A=>(show ev _ (.tmp 7)=(pt A)from by kernel_rfl)) (fun A=>(show ev _ (.tmp 44) = .agg (aA 14 (bC (bC (bC (bC zQ0 0 1 (fun _=>au ((o:Int)+1))) 1 1 (fun _=>aC ((M.ml o).s.known o+1))) 2 6 (rv .u64 ((M.ml o).s.known))) 8 1 (fun _ => .int .u8 ((H:Int)+1))))from by kernel_rfl)) (bK _ _) (bB (bB (bB (bB (fun jq _=>by show(zQ0 jq).oneCell'=true; simp only[zQ0]; repeat (first|rfl|split)) (fun _ _=>rfl)) (fun _ _=>rfl)) (fun _ _=>rfl)) (fun _ _=>rfl)) (by kernel_rfl) (fun A => ?_) ?_
 ·refine⟨?_,?_,?_,?_,?_,?_,?_,?_,?_,?_,?_,?_,?_,?_,?_,?_,?_,?_,?_,?_,?_,?_,trivial⟩
  ·exact .inr (.inr mI)
  ·exact .inr (.inr (oP (au ((o:Int)+1)) fun E D=>Fx.Hq rfl (show ev _ (.tmp 25)=au (o:Int)from by kernel_rfl) (show ev _ (.const (au 1))=au 1 from by kernel_rfl) Fx.io))
  ·exact .inr (.inr mI)
  ·exact .inr (.inr mI)
  ·exact .inr (.inr mI)
  ·exact .inr (.inr mI)
  ·exact .inr (.inr mI)
  ·exact .inr (.inr (oP (pf (M.pl o) (o+12)) fun E D=>gJ rfl (show ev _ (.tmp 31)=(pf (M.pl o) 12)from by kernel_rfl) (show ev _ (.tmp 28)=au (o:Int)from by kernel_rfl) Tryz.underlying35 (s:=1) (by kernel_rfl) (by omega) (by omega) (by omega)))
  ·exact .inr (.inr (oP (aC ((M.ml o).s.known o)) fun E D=>aZ (x:=kN (M.ml o)) rfl (show ev _ (.tmp 32)=(pf (M.pl o) (o+12))from by kernel_rfl) (by kernel_rfl) (Gu.aH.below D (by have:=Gu.lt; omega)) (i:=o+12) (by omega) (by omega) (jX _ (by omega) (iY _ (by omega) (by omega)))))
  ·exact .inr (.inr (oP (aC ((M.ml o).s.known o+1)) fun E D=>Fx.Hq rfl (show ev _ (.tmp 33)=aC ((M.ml o).s.known o)from by kernel_rfl) (show ev _ (.const (aC 1))=aC 1 from by kernel_rfl) (jU (by omega) (by omega))))
  ·exact .inr (.inr mI)
  ·exact .inr (.inr mI)
  ·exact .inr (.inr mI)
  ·exact .inr (.inr mI)
  ·exact .inr (.inr (oP (.agg (aA 6 (rv .u64 ((M.ml o).s.known)))) fun E D=>dR (x:=kN (M.ml o)) (y:=rv .u64 ((M.ml o).s.known)) rfl (show ev _ (.tmp 38)=(pf (M.pl o) 12)from by kernel_rfl) (by kernel_rfl) (by kernel_rfl) (Gu.aH.below D (by have:=Gu.lt; omega)) (i:=12) (by omega) (by omega) (fun j C=>jX _ (by omega) (iY _ C (by omega)))))
  ·exact .inr (.inr mI)
  ·exact .inr (.inr (oP (.int .u8 (x.kind:Int)) fun E D=>aZ (x:=Gs x) rfl (show ev _ (.tmp 40)=(pf G 3)from by kernel_rfl) (by kernel_rfl) (m16.aH.below D (by have:=m16.lt; omega)) (i:=3) (by omega) (by omega) rfl))
  ·exact .inr (.inr (oP (.int .u8 (H:Int)) fun E D=>Fx.yB rfl (show ev _ (.tmp 41) = .int .u8 (x.kind:Int)from by kernel_rfl) (show ev _ (.const (.int .u8 (7))) = .int .u8 (7)from by kernel_rfl) (by omega) (Hg aje)))
  ·exact .inr (.inr (oP (.int .u8 ((H:Int)+1)) fun E D=>Fx.Hq rfl (show ev _ (.const (.int .u8 (1))) = .int .u8 (1)from by kernel_rfl) (show ev _ (.tmp 42) = .int .u8 (H:Int)from by kernel_rfl) (Fx.u8e (by omega) (by omega))))
  ·exact .inr (.inr (oP (.agg (aA 14 (bC (bC (bC (bC zQ0 0 1 (fun _=>au ((o:Int)+1))) 1 1 (fun _=>aC ((M.ml o).s.known o+1))) 2 6 (rv .u64 ((M.ml o).s.known))) 8 1 (fun _ => .int .u8 ((H:Int)+1))))) fun E D=>gy (vs := [(0,au ((o:Int)+1)),(1,aC ((M.ml o).s.known o+1)),(2,.agg (aA 6 (rv .u64 ((M.ml o).s.known)))),(3,.int .u8 ((H:Int)+1))]) (places := #[(0,1),(1,1),(2,6),(8,1),(9,1),(10,1),(11,1),(12,1),(13,1)]) (m:=14) (x:=fun h=>if h<1 then au 0 else if h<8 then aC 0 else if h<9 then .int .u8 (0)else if h<10 then aC 0 else if h<12 then au 0 else aC 0) rfl (Fx.SN (show ev _ (.tmp 26)=au ((o:Int)+1)from by kernel_rfl) (show ev _ (.tmp 34)=aC ((M.ml o).s.known o+1)from by kernel_rfl) (show ev _ (.tmp 39) = .agg (aA 6 (rv .u64 ((M.ml o).s.known)))from by kernel_rfl) (show ev _ (.tmp 43) = .int .u8 ((H:Int)+1)from by kernel_rfl)) Tryz.underlying37 (by kernel_rfl) (by kernel_rfl) (by rw[bf (off:=0) (s:=1) (y:=fun _=>au ((o:Int)+1)) (by kernel_rfl) (cells_one (by rfl)) (by rfl)]; rw[bf (off:=1) (s:=1) (y:=fun _=>aC ((M.ml o).s.known o+1)) (by kernel_rfl) (cells_one (by rfl)) (by rfl)]; rw[bf (off:=2) (s:=6) (y:=rv .u64 ((M.ml o).s.known)) (by kernel_rfl) (bK _ _) (by rfl)]; rw[bf (off:=8) (s:=1) (y:=fun _ => .int .u8 ((H:Int)+1)) (by kernel_rfl) (cells_one (by rfl)) (by rfl)]; rfl)))
  ·exact .inl rfl
  exact .inr (.inl rfl)
 rintro A w3 f1 hf1 Ae m19 hb1;have Ou:p≠A:=u_ (n_ (m12.lt) Ae);have ark:G≠A:=u_ (n_ (m16.lt) Ae);have WK:U≠A:=u_ (n_ (m17.lt) Ae);have afv:GN≠A:=u_ (n_ (m18.lt) Ae);have ajg:(M.pl o)≠A:=u_ (n_ (Gu.lt) Ae);have WL:(.slice M.aa (M.an) (M.ac):Value).ownBlock≠some A:=fun e=>by have:=(m14.ge e).2; omega
 have⟨m22,m23,m24,mM,oo,b4⟩:=qY hb1 m15 m16 m17 m18 ajf b3;have Ae:w.heap.size<=A:=m_ b3.size Ae;have Ed:=m19.lt;have q1:f1 3=(pt G):=by rw[hf1]; kernel_rfl
 have q2:f1 4=(pt U):=by rw[hf1]; kernel_rfl
 have q3:f1 6=(pt (M.pl o)):=by rw[hf1]; kernel_rfl
 have q4:f1 7=(pt A):=by rw[hf1]; kernel_rfl
 clear hf1;refine sN<|Ws ?_;obtain⟨d,eV0⟩ : ∃ V:EvM,V=(⟨(o:Int)+1,(M.ml o).s.known o+1,(M.ml o).s.known,(H:Int)+1,0,0,0,0,0⟩:EvM):=⟨_,rfl⟩;have hz1:iX 0:=⟨by decide,by decide⟩;have hz2:qc 0:=⟨by decide,by decide⟩;have t:gD d:=by rw[eV0]; exact⟨⟨by show(_:Int)<=(o:Int)+1; omega,by show(o:Int)+1<=_; omega⟩,⟨by show(0:Int)<=(M.ml o).s.known o+1; omega,by show(M.ml o).s.known o+1<=_; omega⟩,fun i hi=>⟨(hkn i hi).1,by have q:(M.ml o).s.known i<1099511627776:=(hkn i hi).2; show(M.ml o).s.known i<=_; omega⟩,⟨by show(0:Int)<=(H:Int)+1; omega,by show(H:Int)+1<=255; omega⟩,hz1,hz2,hz2,hz1,hz1⟩
 have ou:aP w3 A 14 (bJ d) 37:=m19.congr (fun j C=>by rw[eV0]; rcases j with _|_|_|_|_|_|_|_|_|_|_|_|_|_|j <;> first|rfl|omega|exact L_ (Value.int .u8) (by omega))
 have X:sw d:=by rw[eV0]; exact⟨by show(0:Int)<=_; decide,by show(0:Int)<=_; decide⟩
 have hd0:d.o=(o:Int)+1/\d.seq=(M.ml o).s.known o+1/\d.deps=(M.ml o).s.known:=by rw[eV0]; exact⟨rfl,rfl,rfl⟩
 have ek0:d.kind=(H:Int)+1:=by rw[eV0]
 refine Wl<|av (aC 0)<|aD ?_;have nG:Fx.Own w3 B 29 1 (.slice M.la (M.n) (M.lc)) M.n (Hf M.pl):=mM.fU (L_ (fun q=>Value.slice q M.n M.lc) eq1.symm);refine zn (fun f w_ => ∃ nd:Int,iX nd/\f 3=(pt G)/\f 4=(pt U)/\f 7=(pt A)/\f 8=aC nd/\aP w_ G 9 (Gs x) 72/\aP w_ U 14 zQ0 37/\aP w_ A 14 (bJ d) 37/\Below w.heap.size w w_) ?_ ?_
 ·refine Ws ?_;have Z7:=m22 o (by omega);have Xc:=Z7.c;have auk:=Z7.n;refine Wl<|aW q3<|av (pt (M.pl o))<|av (pt (M.pl o))<|av (pf (M.pl o) 18)<|Lv (.slice (M.ml o).s.na ((M.ml o).s.nn) ((M.ml o).s.nc)) (aL Xc.aH 18)<|av (au (((M.ml o).s.nn:Nat):Int))<|Lv (.bool (decide (0<(((M.ml o).s.nn:Nat):Int)))) (Fx.Sz rfl rfl rfl)<|aD<|Wc (b:=decide (0<(((M.ml o).s.nn:Nat):Int))) rfl (fun c51 => ?_)<|fun c51 => ?_
  ·have c51:=h_ c51;obtain⟨X8,aji⟩ : ∃ r,r=x.node % (M.ml o).s.nn:=⟨_,rfl⟩;have arl:X8<(M.ml o).s.nn:=(by rw[aji]; exact J_ _ (by omega));refine vG<|eF q3<|aU (pt (M.pl o))<|aU (pt (M.pl o))<|aU (pf (M.pl o) 18)<|Qv (.slice (M.ml o).s.na ((M.ml o).s.nn) ((M.ml o).s.nc)) (fun E D=>aL (Xc.aH.dr D) 18)<|Qv (pf G 4) (fun E D=>gP q1 4)<|Qv (.int .u8 (x.node:Int)) (fun E D=>aL (m23.aH.dr D) 4)<|Qv (au x.node) (fun E D=>dD rfl rfl (by kernel_rfl) Tryz.underlying3 (je (by omega) rfl))<|eF q3<|aU (pt (M.pl o))<|aU (pt (M.pl o))<|aU (pf (M.pl o) 18)<|Qv (.slice (M.ml o).s.na ((M.ml o).s.nn) ((M.ml o).s.nc)) (fun E D=>aL (Xc.aH.dr D) 18)<|aU (au (((M.ml o).s.nn:Nat):Int))<|Qv (au X8) (fun E D=>Fx.yB rfl rfl rfl (by omega) (Hg aji)) ?_;obtain⟨Vl,FU⟩:=oo.addr (by omega);have nk:Fx.Own w3 B 84 56 (.slice (some ⟨Vl,0,none⟩) ((M.ml o).s.nn) ((M.ml o).s.nc)) ((M.ml o).s.nn) (Kw (M.ml o)):=oo.fU (L_ (fun q=>Value.slice q ((M.ml o).s.nn) ((M.ml o).s.nc)) FU);refine Qv (pf Vl (56*X8)) (fun E D=>dh 56 (hx:=(rfl.trans (L_ (fun q=>Value.slice q ((M.ml o).s.nn) ((M.ml o).s.nc)) FU))))<|aU (pf Vl (56*X8))<|Qv (aC ((M.ml o).id X8)) (fun E D=>aL (nk.aH.dr D) (56*X8) (Fx.gX (k:=X8) (j:=0) (by omega) (by omega) rfl))<|aU (aC ((M.ml o).id X8))<|Qn ?_;rintro _ ⟨qd,rfl⟩;obtain⟨wq2,tL⟩ : ∃ E,E=World.drewN w3 qd:=⟨_,rfl⟩;rw[<- tL];have s5:Stp w3.heap.size w3 wq2:=(by rw[tL]; exact Sb (jB w3 qd));have⟨nH,nR,qy,tZ,b5⟩:=lJ s5.old m23 m24 ou nk b4;clear tL;have mP:Fx.Own wq2 B 84 56 (.slice (M.ml o).s.na ((M.ml o).s.nn) ((M.ml o).s.nc)) ((M.ml o).s.nn) (Kw (M.ml o)):=tZ.fU (L_ (fun q=>Value.slice q ((M.ml o).s.nn) ((M.ml o).s.nc)) FU.symm);exact nE ⟨((M.ml o).id X8),(hU X8 arl),q1,q2,q4,Fx.ic,nH,nR,qy,b5⟩
  have c51:=j_ c51;refine Wk ?_;exact nE ⟨0,⟨by decide,by decide⟩,q1,q2,q4,Fx.ic,m23,m24,ou,b4⟩
 rintro f2 w4 ⟨nd,Ql,Y,I,F,h4,mQ,mV,K,J⟩;refine Ws<|ay<|Lv (pf A 8) (gP F 8)<|Lv (.int .u8 (d.kind)) (aL K.aH 8)<|aD<|Wb<|ay ?_;by_cases c73:d.kind=1
 ·refine Lv aG (dP c73)<|av aG<|aD<|aM<|Ws<|Ws ?_;obtain⟨r76,ajj⟩ : ∃ r,r=x.node % 2:=⟨_,rfl⟩;have axY:r76<2:=by rw[ajj]; exact J_ _ (by omega)
  refine Wl<|Lv (pf G 4) (gP Y 4)<|Lv (.int .u8 (x.node:Int)) (aL mQ.aH 4)<|Lv (.int .u8 (r76:Int)) (Fx.yB rfl rfl rfl (by omega) (Hg ajj)) ?_;by_cases c77:(r76:Int)=1
  ·refine Lv aG (dP c77)<|aD<|aM<|Wl<|aW h4<|Lv (pf A 9) (gP F 9)<|jv K 9 (aC nd) fun w5 qb s6 z3 => ?_;obtain⟨L,eV1⟩ : ∃ V:EvM,V=⟨d.o,d.seq,d.deps,d.kind,nd,d.dst,d.aT,d.req,d.of⟩:=⟨_,rfl⟩;have Mx:gD L:=(by rw[eV1]; exact⟨t.o,t.seq,t.deps,t.kind,Ql,t.dst,t.aT,t.req,t.of⟩);have aro:L.o=(o:Int)+1/\L.seq=(M.ml o).s.known o+1/\L.deps=(M.ml o).s.known:=(by rw[eV1]; exact hd0);have arp:sw L:=(by rw[eV1]; exact⟨X.aT,X.req⟩);have oV:aP w5 A 14 (bJ L) 37:=qb.congr (fun j C=>by rw[eV1]; exact EM _ _ j C);have fO:=fQ s6 K.ty;have sG:=iW fO mQ;have uQ:=mV.bW s6 (by omega);have b7:=s6.below J J.size (by omega);refine aD<|Wl<|Lv (pf G 6) (gP Y 6)<|Lv (.int .u16 (x.aT:Int)) (aL sG.aH 6)<|Lv (au x.aT) (dD rfl rfl (by kernel_rfl) Tryz.underlying2 (je (by omega) rfl))<|Lv (pf A 11) (gP F 11)<|jv oV 11 (au x.aT) fun w6 sH s7 z4 => ?_;obtain⟨V2,eV2⟩ : ∃ V:EvM,V=⟨L.o,L.seq,L.deps,L.kind,L.node,L.dst,(x.aT:Int),L.req,L.of⟩:=⟨_,rfl⟩;have arq:gD V2:=(by rw[eV2]; exact⟨Mx.o,Mx.seq,Mx.deps,Mx.kind,Mx.node,Mx.dst,(show qc (x.aT:Int)from⟨by omega,by omega⟩),Mx.req,Mx.of⟩);have ars:V2.o=(o:Int)+1/\V2.seq=(M.ml o).s.known o+1/\V2.deps=(M.ml o).s.known:=(by rw[eV2]; exact aro);have aru:sw V2:=(by rw[eV2]; exact⟨by show(x.aT:Int)<=65536; omega,arp.req⟩);have qD:aP w6 A 14 (bJ V2) 37:=sH.congr (fun j C=>by rw[eV2]; exact Gt _ _ j C);have uR:=uQ.bW s7 (by omega);have b8:=s7.below b7 b7.size (by omega);refine Ln<|bS<|sN<|ay<|Lv (.agg (aA 14 (bJ V2))) (eT qD.aH 0 (ha:=F))<|dG uR 0 (ha:=I) (h1:=(eH _)) fun w7 sJ s8 z5 => ?_;have uS:aP w7 U 14 (bJ V2) 37:=aN sJ;have uf:=qD.bW s8 (by omega);have b9:=s8.below b8 b8.size (by omega);refine aD (Wr (⟨.agg (aA 14 (bJ V2)),rV Tryz.results57 ⟨_,I,aR uS.aH (by kernel_rfl) (by kernel_rfl)⟩,?_⟩));exact⟨V2,arq,aru,by rw[<- eo]; exact ars,rfl,b9⟩
  refine Lv aF (eO c77)<|aD<|aK<|Wk<|sN<|Wl<|Lv (pf G 6) (gP Y 6)<|Lv (.int .u16 (x.aT:Int)) (aL mQ.aH 6)<|Lv (au x.aT) (dD rfl rfl (by kernel_rfl) Tryz.underlying2 (je (by omega) rfl))<|Lv (pf A 11) (gP F 11)<|jv K 11 (au x.aT) fun w8 sK s9 z6 => ?_;obtain⟨V3,eV3⟩ : ∃ V:EvM,V=⟨d.o,d.seq,d.deps,d.kind,d.node,d.dst,(x.aT:Int),d.req,d.of⟩:=⟨_,rfl⟩;have arv:gD V3:=by rw[eV3]; exact⟨t.o,t.seq,t.deps,t.kind,t.node,t.dst,(show qc (x.aT:Int)from⟨by omega,by omega⟩),t.req,t.of⟩
  have arw:V3.o=(o:Int)+1/\V3.seq=(M.ml o).s.known o+1/\V3.deps=(M.ml o).s.known:=by rw[eV3]; exact hd0
  have arx:sw V3:=by rw[eV3]; exact⟨by show(x.aT:Int)<=65536; omega,X.req⟩
  have ug:aP w8 A 14 (bJ V3) 37:=sK.congr (fun j C=>by rw[eV3]; exact Gt _ _ j C);have rz:=mV.bW s9 (by omega);have b10:=s9.below J J.size (by omega);refine Ln<|bS<|sN<|ay<|Lv (.agg (aA 14 (bJ V3))) (eT ug.aH 0 (ha:=F))<|dG rz 0 (ha:=I) (h1:=(eH _)) fun w9 uo s10 z7 => ?_;have pJ:aP w9 U 14 (bJ V3) 37:=aN uo;have m64:=ug.bW s10 (by omega);have b11:=s10.below b10 b10.size (by omega);refine aD (Wr (⟨.agg (aA 14 (bJ V3)),rV Tryz.results57 ⟨_,I,aR pJ.aH (by kernel_rfl) (by kernel_rfl)⟩,?_⟩));exact⟨V3,arv,arx,by rw[<- eo]; exact arw,rfl,b11⟩
 refine Lv aF (eO c73)<|av aF<|aD<|aK<|ay ?_;by_cases c85:d.kind=2
 ·refine Lv aG (dP c85)<|av aG<|aD<|aM<|ay<|aW h4<|Lv (pf A 9) (gP F 9)<|jv K 9 (aC nd) fun rW wT s11 z8 => ?_;obtain⟨P,eV4⟩ : ∃ V:EvM,V=⟨d.o,d.seq,d.deps,d.kind,nd,d.dst,d.aT,d.req,d.of⟩:=⟨_,rfl⟩;have MB:gD P:=by rw[eV4]; exact⟨t.o,t.seq,t.deps,t.kind,Ql,t.dst,t.aT,t.req,t.of⟩
  have arz:P.o=(o:Int)+1/\P.seq=(M.ml o).s.known o+1/\P.deps=(M.ml o).s.known:=by rw[eV4]; exact hd0
  have arA:sw P:=by rw[eV4]; exact⟨X.aT,X.req⟩
  have wu:aP rW A 14 (bJ P) 37:=wT.congr (fun j C=>by rw[eV4]; exact EM _ _ j C);have yg:=fQ s11 K.ty;have uT:=iW yg mQ;have yh:=mV.bW s11 (by omega);have b12:=s11.below J J.size (by omega);refine aD<|Wl<|Lv (pf G 6) (gP Y 6)<|Lv (.int .u16 (x.aT:Int)) (aL uT.aH 6)<|Lv (au x.aT) (dD rfl rfl (by kernel_rfl) Tryz.underlying2 (je (by omega) rfl))<|Lv (au ((x.aT:Int)+1)) fH<|Lv (pf A 11) (gP F 11)<|jv wu 11 (au ((x.aT:Int)+1)) fun Ec sM s12 z9 => ?_;obtain⟨V5,eV5⟩ : ∃ V:EvM,V=⟨P.o,P.seq,P.deps,P.kind,P.node,P.dst,(x.aT:Int)+1,P.req,P.of⟩:=⟨_,rfl⟩;have arB:gD V5:=by rw[eV5]; exact⟨MB.o,MB.seq,MB.deps,MB.kind,MB.node,MB.dst,(show qc ((x.aT:Int)+1)from⟨by omega,by omega⟩),MB.req,MB.of⟩
  have arC:V5.o=(o:Int)+1/\V5.seq=(M.ml o).s.known o+1/\V5.deps=(M.ml o).s.known:=by rw[eV5]; exact arz
  have arD:sw V5:=by rw[eV5]; exact⟨by show(x.aT:Int)+1<=65536; omega,arA.req⟩
  have wz:aP Ec A 14 (bJ V5) 37:=sM.congr (fun j C=>by rw[eV5]; exact Gt _ _ j C);have wB:=yh.bW s12 (by omega);have b13:=s12.below b12 b12.size (by omega);refine Ln<|bS<|sN<|ay<|Lv (.agg (aA 14 (bJ V5))) (eT wz.aH 0 (ha:=F))<|dG wB 0 (ha:=I) (h1:=(eH _)) fun Bd wC s13 z10 => ?_;have Ah:aP Bd U 14 (bJ V5) 37:=aN wC;have zR:=wz.bW s13 (by omega);have b14:=s13.below b13 b13.size (by omega);refine aD (Wr (⟨.agg (aA 14 (bJ V5)),rV Tryz.results57 ⟨_,I,aR Ah.aH (by kernel_rfl) (by kernel_rfl)⟩,?_⟩));exact⟨V5,arB,arD,by rw[<- eo]; exact arC,rfl,b14⟩
 refine Lv aF (eO c85)<|av aF<|aD<|aK<|ay ?_;by_cases c94:d.kind=3
 ·refine Lv aG (dP c94)<|av aG<|aD<|aM<|ay<|aW h4<|Lv (pf A 9) (gP F 9)<|jv K 9 (aC nd) fun Fh yJ Af z11 => ?_;obtain⟨Q,eV6⟩ : ∃ V:EvM,V=⟨d.o,d.seq,d.deps,d.kind,nd,d.dst,d.aT,d.req,d.of⟩:=⟨_,rfl⟩;have MC:gD Q:=by rw[eV6]; exact⟨t.o,t.seq,t.deps,t.kind,Ql,t.dst,t.aT,t.req,t.of⟩
  have arE:Q.o=(o:Int)+1/\Q.seq=(M.ml o).s.known o+1/\Q.deps=(M.ml o).s.known:=by rw[eV6]; exact hd0
  have arF:sw Q:=by rw[eV6]; exact⟨X.aT,X.req⟩
  have zw:aP Fh A 14 (bJ Q) 37:=yJ.congr (fun j C=>by rw[eV6]; exact EM _ _ j C);have adM:=fQ Af K.ty;have xQ:=iW adM mQ;have wU:=mV.bW Af (by omega);have b15:=Af.below J J.size (by omega);refine aD<|ay<|Lv (pf G 6) (gP Y 6)<|Lv (.int .u16 (x.aT:Int)) (aL xQ.aH 6)<|Lv (au x.aT) (dD rfl rfl (by kernel_rfl) Tryz.underlying2 (je (by omega) rfl))<|Lv (au ((x.aT:Int)+1)) fH<|Lv (pf A 11) (gP F 11)<|jv zw 11 (au ((x.aT:Int)+1)) fun K8 wV s15 z12 => ?_;obtain⟨R,eV7⟩ : ∃ V:EvM,V=⟨Q.o,Q.seq,Q.deps,Q.kind,Q.node,Q.dst,(x.aT:Int)+1,Q.req,Q.of⟩:=⟨_,rfl⟩;have ME:gD R:=by rw[eV7]; exact⟨MC.o,MC.seq,MC.deps,MC.kind,MC.node,MC.dst,(show qc ((x.aT:Int)+1)from⟨by omega,by omega⟩),MC.req,MC.of⟩
  have arG:R.o=(o:Int)+1/\R.seq=(M.ml o).s.known o+1/\R.deps=(M.ml o).s.known:=by rw[eV7]; exact arE
  have arH:sw R:=by rw[eV7]; exact⟨by show(x.aT:Int)+1<=65536; omega,arF.req⟩
  have yK:aP K8 A 14 (bJ R) 37:=wV.congr (fun j C=>by rw[eV7]; exact Gt _ _ j C);have ajk:=fQ s15 zw.ty;have Ar:=iW ajk xQ;have yL:=wU.bW s15 (by omega);have b16:=s15.below b15 b15.size (by omega);refine aD<|Wl<|Lv (pf G 7) (gP Y 7)<|Lv (.int .u8 (x.req:Int)) (aL Ar.aH 7)<|Lv (aC x.req) (dD rfl rfl (by kernel_rfl) Tryz.underlying23 (jU (by omega) rfl))<|Lv (aC ((x.req:Int)+1)) fH<|Lv (pf A 12) (gP F 12)<|jv yK 12 (aC ((x.req:Int)+1)) fun Kv BA s16 z13 => ?_;obtain⟨V8,eV8⟩ : ∃ V:EvM,V=⟨R.o,R.seq,R.deps,R.kind,R.node,R.dst,R.aT,(x.req:Int)+1,R.of⟩:=⟨_,rfl⟩;have arI:gD V8:=by rw[eV8]; exact⟨ME.o,ME.seq,ME.deps,ME.kind,ME.node,ME.dst,ME.aT,(show iX ((x.req:Int)+1)from⟨by omega,by omega⟩),ME.of⟩
  have arJ:V8.o=(o:Int)+1/\V8.seq=(M.ml o).s.known o+1/\V8.deps=(M.ml o).s.known:=by rw[eV8]; exact arG
  have arK:sw V8:=by rw[eV8]; exact⟨arH.aT,by show(x.req:Int)+1<=256; omega⟩
  have Bf:aP Kv A 14 (bJ V8) 37:=BA.congr (fun j C=>by rw[eV8]; exact Xb _ _ j C);have Au:=yL.bW s16 (by omega);have b17:=s16.below b16 b16.size (by omega);refine Ln<|bS<|sN<|ay<|Lv (.agg (aA 14 (bJ V8))) (eT Bf.aH 0 (ha:=F))<|dG Au 0 (ha:=I) (h1:=(eH _)) fun w16 Av Ie z14 => ?_;have BD:aP w16 U 14 (bJ V8) 37:=aN Av;have Eh:=Bf.bW Ie (by omega);have b18:=Ie.below b17 b17.size (by omega);refine aD (Wr (⟨.agg (aA 14 (bJ V8)),rV Tryz.results57 ⟨_,I,aR BD.aH (by kernel_rfl) (by kernel_rfl)⟩,?_⟩));exact⟨V8,arI,arK,by rw[<- eo]; exact arJ,rfl,b18⟩
 refine Lv aF (eO c94)<|av aF<|aD<|aK<|ay ?_;by_cases ajl:d.kind=4
 ·refine Lv aG (dP ajl)<|av aG<|aD<|aM<|ay<|Lv (pf G 7) (gP Y 7)<|Lv (.int .u8 (x.req:Int)) (aL mQ.aH 7)<|Lv (aC x.req) (dD rfl rfl (by kernel_rfl) Tryz.underlying23 (jU (by omega) rfl))<|Lv (aC ((x.req:Int)+1)) fH<|Lv (pf A 12) (gP F 12)<|jv K 12 (aC ((x.req:Int)+1)) fun Sd CB M8 z15 => ?_;obtain⟨S,eV9⟩ : ∃ V:EvM,V=⟨d.o,d.seq,d.deps,d.kind,d.node,d.dst,d.aT,(x.req:Int)+1,d.of⟩:=⟨_,rfl⟩;have MF:gD S:=by rw[eV9]; exact⟨t.o,t.seq,t.deps,t.kind,t.node,t.dst,t.aT,(show iX ((x.req:Int)+1)from⟨by omega,by omega⟩),t.of⟩
  have arL:S.o=(o:Int)+1/\S.seq=(M.ml o).s.known o+1/\S.deps=(M.ml o).s.known:=by rw[eV9]; exact hd0
  have ajm:sw S:=by rw[eV9]; exact⟨X.aT,by show(x.req:Int)+1<=256; omega⟩
  have Dz:aP Sd A 14 (bJ S) 37:=CB.congr (fun j C=>by rw[eV9]; exact Xb _ _ j C);have ajn:=fQ M8 K.ty;have AB:=iW ajn mQ;have GJ:=mV.bW M8 (by omega);have b19:=M8.below J J.size (by omega);refine aD<|Wl<|Lv (pf G 8) (gP Y 8)<|Lv (.int .u8 (x.of:Int)) (aL AB.aH 8)<|Lv (aC x.of) (dD rfl rfl (by kernel_rfl) Tryz.underlying23 (jU (by omega) rfl))<|Lv (aC ((x.of:Int)+1)) fH<|Lv (pf A 13) (gP F 13)<|jv Dz 13 (aC ((x.of:Int)+1)) fun TR EA s19 z16 => ?_;obtain⟨X9,Z8⟩ : ∃ V:EvM,V=⟨S.o,S.seq,S.deps,S.kind,S.node,S.dst,S.aT,S.req,(x.of:Int)+1⟩:=⟨_,rfl⟩;have ajo:gD X9:=by rw[Z8]; exact⟨MF.o,MF.seq,MF.deps,MF.kind,MF.node,MF.dst,MF.aT,MF.req,(show iX ((x.of:Int)+1)from⟨by omega,by omega⟩)⟩
  have ajp:X9.o=(o:Int)+1/\X9.seq=(M.ml o).s.known o+1/\X9.deps=(M.ml o).s.known:=by rw[Z8]; exact arL
  have ajq:sw X9:=by rw[Z8]; exact⟨ajm.aT,ajm.req⟩
  have GL:aP TR A 14 (bJ X9) 37:=EA.congr (fun j C=>by rw[Z8]; exact ajd _ _ j C);have xu:=GJ.bW s19 (by omega);have b20:=s19.below b19 b19.size (by omega);refine Ln<|bS<|sN<|ay<|Lv (.agg (aA 14 (bJ X9))) (eT GL.aH 0 (ha:=F))<|dG xu 0 (ha:=I) (h1:=(eH _)) fun w19 yO s20 z17 => ?_;have xw:aP w19 U 14 (bJ X9) 37:=aN yO;have qG:=GL.bW s20 (by omega);have ND:=s20.below b20 b20.size (by omega);refine aD (Wr (⟨.agg (aA 14 (bJ X9)),rV Tryz.results57 ⟨_,I,aR xw.aH (by kernel_rfl) (by kernel_rfl)⟩,?_⟩));exact⟨X9,ajo,ajq,by rw[<- eo]; exact ajp,rfl,ND⟩
 refine Lv aF (eO ajl)<|av aF<|aD<|aK<|ay ?_;by_cases ajr:d.kind=5
 ·refine Lv aG (dP ajr)<|av aG<|aD<|aM<|ay<|aW h4<|Lv (pf A 9) (gP F 9)<|jv K 9 (aC nd) fun XY qj s21 z18 => ?_;obtain⟨N,Z9⟩ : ∃ V:EvM,V=⟨d.o,d.seq,d.deps,d.kind,nd,d.dst,d.aT,d.req,d.of⟩:=⟨_,rfl⟩;have DX:gD N:=by rw[Z9]; exact⟨t.o,t.seq,t.deps,t.kind,Ql,t.dst,t.aT,t.req,t.of⟩
  have ajs:N.o=(o:Int)+1/\N.seq=(M.ml o).s.known o+1/\N.deps=(M.ml o).s.known:=by rw[Z9]; exact hd0
  have ajt:sw N:=by rw[Z9]; exact⟨X.aT,X.req⟩
  have rE:aP XY A 14 (bJ N) 37:=qj.congr (fun j C=>by rw[Z9]; exact EM _ _ j C);have aju:=fQ s21 K.ty;have qH:=iW aju mQ;have rY:=mV.bW s21 (by omega);have M6:=s21.below J J.size (by omega);refine aD<|ay<|Lv (pf G 6) (gP Y 6)<|Lv (.int .u16 (x.aT:Int)) (aL qH.aH 6)<|Lv (au x.aT) (dD rfl rfl (by kernel_rfl) Tryz.underlying2 (je (by omega) rfl))<|Lv (au ((x.aT:Int)+1)) fH<|Lv (pf A 11) (gP F 11)<|jv rE 11 (au ((x.aT:Int)+1)) fun w21 tN s22 z19 => ?_;obtain⟨O,aac⟩ : ∃ V:EvM,V=⟨N.o,N.seq,N.deps,N.kind,N.node,N.dst,(x.aT:Int)+1,N.req,N.of⟩:=⟨_,rfl⟩;have DY:gD O:=by rw[aac]; exact⟨DX.o,DX.seq,DX.deps,DX.kind,DX.node,DX.dst,(show qc ((x.aT:Int)+1)from⟨by omega,by omega⟩),DX.req,DX.of⟩
  have ajv:O.o=(o:Int)+1/\O.seq=(M.ml o).s.known o+1/\O.deps=(M.ml o).s.known:=by rw[aac]; exact ajs
  have abB:sw O:=by rw[aac]; exact⟨by show(x.aT:Int)+1<=65536; omega,ajt.req⟩
  have vO:aP w21 A 14 (bJ O) 37:=tN.congr (fun j C=>by rw[aac]; exact Gt _ _ j C);have ajw:=fQ s22 rE.ty;have rZ:=iW ajw qH;have uV:=rY.bW s22 (by omega);have Yt:=s22.below M6 M6.size (by omega);refine aD ?_;obtain⟨W,er6⟩ : ∃ r,r=x.dst % 6:=⟨_,rfl⟩;have hr6:W<6:=by rw[er6]; exact J_ _ (by omega)
  refine Wl<|Lv (pf G 5) (gP Y 5)<|Lv (.int .u8 (x.dst:Int)) (aL rZ.aH 5)<|Lv (au x.dst) (dD rfl rfl (by kernel_rfl) Tryz.underlying3 (je (by omega) rfl))<|Lv (au W) (Fx.yB rfl rfl rfl (by omega) (Hg er6))<|Lv (au ((W:Int)+1)) fH<|Lv (pf A 10) (gP F 10)<|jv vO 10 (au ((W:Int)+1)) fun w22 zS s23 z20 => ?_;obtain⟨Ya,aad⟩ : ∃ V:EvM,V=⟨O.o,O.seq,O.deps,O.kind,O.node,(W:Int)+1,O.aT,O.req,O.of⟩:=⟨_,rfl⟩;have ajy:gD Ya:=by rw[aad]; exact⟨DY.o,DY.seq,DY.deps,DY.kind,DY.node,(show qc ((W:Int)+1)from⟨by omega,by omega⟩),DY.aT,DY.req,DY.of⟩
  have ajz:Ya.o=(o:Int)+1/\Ya.seq=(M.ml o).s.known o+1/\Ya.deps=(M.ml o).s.known:=by rw[aad]; exact ajv
  have ajA:sw Ya:=by rw[aad]; exact⟨abB.aT,abB.req⟩
  have vP:aP w22 A 14 (bJ Ya) 37:=zS.congr (fun j C=>by rw[aad]; exact Xa _ _ j C);have CF:=uV.bW s23 (by omega);have Yu:=s23.below Yt Yt.size (by omega);refine Ln<|bS<|sN<|ay<|Lv (.agg (aA 14 (bJ Ya))) (eT vP.aH 0 (ha:=F))<|dG CF 0 (ha:=I) (h1:=(eH _)) fun w23 yj s24 z21 => ?_;have uW:aP w23 U 14 (bJ Ya) 37:=aN yj;have yP:=vP.bW s24 (by omega);have b25:=s24.below Yu Yu.size (by omega);refine aD (Wr (⟨.agg (aA 14 (bJ Ya)),rV Tryz.results57 ⟨_,I,aR uW.aH (by kernel_rfl) (by kernel_rfl)⟩,?_⟩));exact⟨Ya,ajy,ajA,by rw[<- eo]; exact ajz,rfl,b25⟩
 refine Lv aF (eO ajr)<|av aF<|aD<|aK<|ay ?_;by_cases ajB:d.kind=6
 ·refine Lv aG (dP ajB)<|av aG<|aD<|aM ?_;obtain⟨W,er6⟩ : ∃ r,r=x.dst % 6:=⟨_,rfl⟩;have hr6:W<6:=by rw[er6]; exact J_ _ (by omega)
  refine Wl<|Lv (pf G 5) (gP Y 5)<|Lv (.int .u8 (x.dst:Int)) (aL mQ.aH 5)<|Lv (au x.dst) (dD rfl rfl (by kernel_rfl) Tryz.underlying3 (je (by omega) rfl))<|Lv (au W) (Fx.yB rfl rfl rfl (by omega) (Hg er6))<|Lv (au ((W:Int)+1)) fH<|Lv (pf A 10) (gP F 10)<|jv K 10 (au ((W:Int)+1)) fun w24 yQ s25 z22 => ?_;obtain⟨Yb,aae⟩ : ∃ V:EvM,V=⟨d.o,d.seq,d.deps,d.kind,d.node,(W:Int)+1,d.aT,d.req,d.of⟩:=⟨_,rfl⟩;have ajC:gD Yb:=by rw[aae]; exact⟨t.o,t.seq,t.deps,t.kind,t.node,(show qc ((W:Int)+1)from⟨by omega,by omega⟩),t.aT,t.req,t.of⟩
  have ajD:Yb.o=(o:Int)+1/\Yb.seq=(M.ml o).s.known o+1/\Yb.deps=(M.ml o).s.known:=by rw[aae]; exact hd0
  have ajE:sw Yb:=by rw[aae]; exact⟨X.aT,X.req⟩
  have uX:aP w24 A 14 (bJ Yb) 37:=yQ.congr (fun j C=>by rw[aae]; exact Xa _ _ j C);have JM:=mV.bW s25 (by omega);have b26:=s25.below J J.size (by omega);refine Ln<|bS<|sN<|ay<|Lv (.agg (aA 14 (bJ Yb))) (eT uX.aH 0 (ha:=F))<|dG JM 0 (ha:=I) (h1:=(eH _)) fun w25 FD s26 z23 => ?_;have BI:aP w25 U 14 (bJ Yb) 37:=aN FD;have G6:=uX.bW s26 (by omega);have b27:=s26.below b26 b26.size (by omega);refine aD (Wr (⟨.agg (aA 14 (bJ Yb)),rV Tryz.results57 ⟨_,I,aR BI.aH (by kernel_rfl) (by kernel_rfl)⟩,?_⟩));exact⟨Yb,ajC,ajE,by rw[<- eo]; exact ajD,rfl,b27⟩
 refine Lv aF (eO ajB)<|av aF<|aD<|aK<|Wk<|bS<|sN<|ay<|Lv (.agg (aA 14 (bJ d))) (eT K.aH 0 (ha:=F))<|dG mV 0 (ha:=I) (h1:=(eH _)) fun w26 CJ s27 z24 => ?_;have AJ:aP w26 U 14 (bJ d) 37:=aN CJ;have Lu:=K.bW s27 (by omega);have b28:=s27.below J J.size (by omega);refine aD (Wr (⟨.agg (aA 14 (bJ d)),rV Tryz.results57 ⟨_,I,aR AJ.aH (by kernel_rfl) (by kernel_rfl)⟩,?_⟩));exact⟨d,t,X,by rw[<- eo]; exact hd0,rfl,b28⟩
theorem Rt.RP{L:eP}{v:EvM}(h:bA L v=0):bR v=true:=by
 unfold bA at h;split at h; · cases h
 rename_i h1; simpa using h1
structure Rt.DoR(o:Nat)(x:Eo)(M M':WM)(v:EvM):Prop where
 n:M'.n=M.n
 oth : ∀ q,q≠o->M'.ml q=M.ml q
 c:(v=zeroE/\M'.an=M.an/\M'.ev=M.ev/\((M'.ml o).core=(M.ml o).core\/x.meet=true/\(M'.ml o).core=F5 M.ev M.an (M.ml (x.other % M.n)).s.known (M.ml o).core))\/(x.meet=false/\M'.an=M.an+1/\M'.ev=aI M.ev M.an v/\bA (M.ml o).core v=0/\(M'.ml o).core=bT (M.ml o).core v/\v.o=(o:Int)+1/\v.seq=(M.ml o).s.known o+1/\v.deps=(M.ml o).s.known)
theorem Rt.zI{L:eP}{v:EvM}(h:bA L v=0):(bT L v).known=aI L.known (aO v) (L.known (aO v)+1):=by
 rcases oK L v with ⟨_,a⟩|⟨h1,_⟩
 ·exact a
 exact M_ h h1
theorem Rt.vX:gD zeroE:=by
 have z:iX 0:=⟨by decide,by decide⟩;have y:qc 0:=⟨by decide,by decide⟩;exact⟨y,z,fun _ _=>z,⟨by decide,by decide⟩,z,y,y,z,z⟩
def Yc(p:Nat)(M:WM)(k:Nat):Prop:=k=p\/(Value.slice M.la M.n M.lc).ownBlock=some k\/(Value.slice M.aa M.an M.ac).ownBlock=some k
def aaf(w:World)(p:Nat)(M a:WM):Prop := ∀ k,Yc p a k->Yc p M k\/w.heap.size<=k
theorem oN.ge{w:World}{B p T:Nat}{M:WM}(h:oN w B p M T) : ∀ k,Yc p M k->B<=k/\k<w.heap.size:=fun k b=>by
 rcases b with rfl|e|e
 ·exact⟨h.pB,h.c.lt⟩
 ·exact h.l.ge e
 ·exact h.a.ge e
theorem oN.yZ{w w':World}{B p T:Nat}{M:WM}(h:oN w B p M T)(a:B<=w.heap.size)(c:jR (Yc p M) w w'):Below B w w':=Fx.jR.below (Below.refl B w) c (fun k b=>(h.ge k b).1) a
theorem aaf.app{w b:World}{p g:Nat}{M a:WM}(i:(Value.slice M.aa M.an M.ac).ownBlock=some g\/g=b.heap.size)(l:w.heap.size<=b.heap.size)(h1:a.la=M.la:=by rfl)(c:a.n=M.n:=by rfl)(d:a.lc=M.lc:=by rfl)(f:(Value.slice a.aa a.an a.ac).ownBlock=some g:=by rfl):aaf w p M a:=fun k j=>by
 rcases j with h|h|h
 ·exact .inl (.inl h)
 ·rw[h1,c,d]at h; exact .inl (.inr (.inl h))
 ·have e:g=k:=C_ (f.symm.trans h)
  rcases i with h5|h5
  ·exact .inl (.inr (.inr (e ▸ h5)))
  ·exact .inr (by omega)
set_option maxRecDepth 20000 in
set_option maxHeartbeats 2000000 in
theorem ajF(M:WM)(B p T:Nat)(x:Eo)(w:World)(d:oN w B p M T)(hB:B<=w.heap.size)(hx:Gr x)(han:M.an<=60)(hT:T<=890000) :
 Calls Tryz.prog 28 #[(pt p),.agg (aA 9 (Gs x))] w fun e w' => ∃ v,e = .returned (.agg (aA 14 (bJ v)))/\gD v /\ ∃ O,oN w' B p O (T+3660)/\DoR (x.who % M.n) x M O v/\O.an<=M.an+1/\(x.meet=true->O.an=M.an)/\jR (Yc p M) w w'/\aaf w p M O:=by
 have hWc:=d.c;have hWl:=d.l;have hWa:=d.a;have hWg:=d.g;have hn1:=d.n1;have hn6:=d.n6;have hpB:=d.pB;have YR:p<w.heap.size:=hWc.lt;have hxw:=hx.who;have hxo:=hx.other;have hxk:=hx.kind;have hxn:=hx.node;have hxt:=hx.dst;have hxa:=hx.aT;have hxr:=hx.req;have hxf:=hx.of;refine Kent Tryz.func28 94 ?_;refine ay<|om fun g1 w1 kM m1 s1 z1 => ?_;have⟨m2,f,m4,m5,m6⟩:=lJ s1.old hWc hWl hWa hWg d;have b1:=(vw (Yc p M) w).then s1 (.inr (vw (Yc p M) w).size);have qZ:w.heap.size<=g1:=by rw[kM]; exact(vw (Yc p M) w).size
 have mJ:=cu kM hWc.lt;have sF:=m1.lt;refine oC 14 zQ0 fun R w2 ad m7 s2 z2 => ?_;have⟨m8,m9,m10,m11,m12,m13⟩:=qY s2.old m2 f m4 m5 m6 m1;have b2:=b1.then s2 (.inr b1.size);have pK:=iw ad b1.size;have Vz:=cu ad m2.lt;have Gg:(.slice M.aa (M.an) (M.ac):Value).ownBlock≠some R:=by rw[ad]; exact m4.kP (A_ _)
 have AX:=cu ad m1.lt;have xR:=m7.lt;refine aD<|Ws ?_;obtain⟨o,Q⟩ : ∃ r,r=x.who % M.n:=⟨_,rfl⟩;have ho:o<M.n:=by rw[Q]; exact J_ _ (by omega)
 refine vG<|aU (pt g1)<|Qv (.int .u8 (x.who:Int)) (fun D C=>aL (m13.aH.dr C) 0)<|Qv (au x.who) (fun D C=>dD rfl rfl (by kernel_rfl) Tryz.underlying3 (je (by omega) rfl))<|aU (pt p)<|aU (pt p)<|aU (pt p)<|Qv (.slice M.la (M.n) (M.lc)) (fun D C=>aL (m8.aH.dr C) 0)<|aU (au M.n)<|Qv (au o) (fun D C=>Fx.yB rfl rfl rfl (by omega) (Hg Q))<|aU (au o)<|Qn ?_;rintro _ ⟨qd,rfl⟩;obtain⟨Cv,qh⟩ : ∃ D,D=World.drewN w2 qd:=⟨_,rfl⟩;rw[<- qh];have s3:Stp w2.heap.size w2 Cv:=by rw[qh]; exact Sb (jB w2 qd)
 have⟨m14,m15,m16,m17,m18,Y,m20⟩:=kg s3.old m8 m9 m10 m11 m12 m13 m7;have Z:=b2.then s3 (.inr b2.size);clear qh;refine sN<|Ws<|ay<|av (pf g1 1) ?_;by_cases H:x.meet=true
 ·refine Lv aG (aL Y.aH 1 ((show _=Value.bool x.meet from rfl).trans (L_ Value.bool H)))<|aD<|aM<|Ws ?_;obtain⟨A,afw⟩ : ∃ r,r=x.other % M.n:=⟨_,rfl⟩;have aya:A<M.n:=by rw[afw]; exact J_ _ (by omega)
  have Z6:=m17 A (by omega);have Gu:=Z6.c;have Z7:=m17 o (by omega);refine ko [0,1,2,4,5,6,7,9,12,13,14,16,17,18,20,23,24,25,3,8,10,11,15,19,21,22,26,27,28,29,30,31,32,33,34,35,36,37] [0,0,0,1,0,0,0,0,4,0,0,4,0,0,0,4,0,0,0,4,0,4,0,0,0,0,4,0,0,0,4,0,0,0,4,2,0,3] [(37,3,[3]),(35,8,[11,10,8]),(37,8,[8]),(35,11,[11]),(37,11,[11]),(35,15,[15]),(37,15,[15]),(35,19,[34,33,32,31,30,29,19]),(37,19,[19]),(35,21,[34,33,32,31,30,29,28,22,21]),(37,21,[21]),(35,26,[34,33,32,31,30,29,28,27,26]),(37,26,[26]),(35,30,[34,33,32,31,30]),(37,30,[30]),(35,34,[34]),(37,34,[34]),(36,35,[35]),(37,35,[35])] fun qC dN iE => ?_;have s4:Stp Cv.heap.size Cv qC:=Sb dN;have⟨G,m22,m23,m24,mM,mU,oo,ou⟩:=nO dN m14 m15 m16 m17 Y m20 Gu Z7;have b4:=Z.then s4 (.inr Z.size);refine aX (pt p)<|aX (pt p)<|aX (pt p)<|aX (au o)<|aX (pt p)<|aX (pt p)<|aX (pt p)<|aX (au o)<|aX (pt p)<|aX (pt p)<|aX (pf p 1)<|aX (pt p)<|aX (pt p)<|aX (pt p)<|aX (pf g1 2)<|aX (pt p)<|aX (pt p)<|aX (pt p)<|Rd (v := .slice M.la (M.n) (M.lc)) (by rfl) (by rfl) (uj _) (fun D C=>aZ (x:=Na (.slice M.la (M.n) (M.lc)) (.slice M.aa (M.an) (M.ac))) rfl rfl (by kernel_rfl) (G.aH.below C (by have:=G.lt; omega)) (i:=0) (by omega) (by omega) rfl) ?_;refine Rs (.slice M.la (M.n) (M.lc)) (aL G.aH 0) ?_;obtain⟨S,J⟩:=m22.addr (by omega);have nG:Fx.Own qC B 29 1 (bO S M.n M.lc) M.n (Hf M.pl):=m22.fU (L_ (fun q=>Value.slice q M.n M.lc) J);refine Rp (pf S o) (fun _=>dh 1 (hx:=(rfl.trans (L_ (fun q=>Value.slice q (M.n) (M.lc)) J))))<|Rs (pt (M.pl o)) (aL nG.aH o) ?_;refine Rs (.slice M.aa (M.an) (M.ac)) (aL G.aH 1) ?_;refine Rs (.slice M.la (M.n) (M.lc)) (aL G.aH 0) ?_;refine Rs (.int .u8 (x.other:Int)) (aL mM.aH 2) ?_;refine Rp (au x.other) (fun D=>dD rfl rfl (by kernel_rfl) Tryz.underlying3 (je (by omega) rfl))<|Rs (.slice M.la (M.n) (M.lc)) (aL G.aH 0) ?_;refine aX (au M.n)<|Rp (au A) (fun D=>Fx.yB rfl rfl rfl (by omega) (Hg afw))<|Rp (pf S A) (fun _=>dh 1 (hx:=(rfl.trans (L_ (fun q=>Value.slice q (M.n) (M.lc)) J))))<|Rs (pt (M.pl A)) (aL nG.aH A) ?_;refine aX (pt (M.pl A))<|aX (pt (M.pl A))<|aX (pf (M.pl A) 12)<|Rs (.agg (aA 6 (rv .u64 ((M.ml A).s.known)))) (eT oo.aH 12 (fun j W=>jX _ (by omega) (iY _ W (by omega)))) ?_;refine yw<|kU (Zh (M.ml o) B (M.pl o) T M.aa M.an M.ac M.ev ((M.ml A).s.known) _ ou (d.inv o (by omega)) m23.arr d.wf d.may d.sm han hT) ?_;rintro e9 w3 ⟨t,f,E,hlc,hI3,hL1,hb1⟩;refine⟨(pt t),E,?_⟩;clear E;have s5:=Sb hb1;have⟨nk,lI,m32,nH,mO⟩:=lJ hb1 G m23 m24 mU nG;have b5:=b4.then s5 (.inr b4.size);refine Ln ⟨s5.old,?_⟩;refine Rp (pf S o) (fun _=>dh 1 (hx:=(rfl.trans (L_ (fun q=>Value.slice q (M.n) (M.lc)) J))))<|ig<|qR mO o (pt t) fun w4 qy s6 z3 => ?_;have fO:=fQ s6 mO.KN;have⟨pX,pY,tZ,mQ,pI⟩:=rT fO nk lI m32 nH hL1;have b6:=b5.then s6 (.inl (.inr (.inl (by rw[J]; rfl))));have qb:Fx.Own w4 B 29 1 (bO S M.n M.lc) M.n (Hf (aI M.pl o t)):=qy.congr (fun F _=>congrFun WZ F);refine Ln<|bQ<|ay<|av (.agg (aA 14 zQ0))<|dG mQ 0 (h1:=(fun F _=>by show(zQ0 F).oneCell'=true; simp only[zQ0]; repeat (first|rfl|split))) fun w5 oV s7 z4 => ?_
  have sG:aP w5 R 14 zQ0 37:=aN oV;have jJ:=fQ s7 mQ.ty;have uQ:=iW jJ pX;have sH:=pY.bW s7 Gg;have⟨qD,sJ,uS⟩:=Bp jJ tZ pI qb;have b7:=b6.then s7 (.inr pK);refine aD (Wr (sR (⟨.agg (aA 14 zQ0),rV Tryz.results28 ⟨_,rfl,aR sG.aH (by kernel_rfl) (by kernel_rfl)⟩,?_⟩)));have wo:Fx.Own w5 B 29 1 (.slice M.la (M.n) (M.lc)) M.n (Hf (aI M.pl o t)):=uS.fU (L_ (fun q=>Value.slice q M.n M.lc) J.symm);exact⟨zeroE,L_ (fun z=>Ending.returned (Value.agg z)) (Fx.dO (y:=bJ zeroE) fun j W=>by rcases j with _|_|_|_|_|_|_|_|_|_|_|_|_|_|j <;> first|rfl|omega),vX,{ M with pl:=aI M.pl o t,ml:=aI M.ml o f },{ c:=uQ,l:=wo,a:=sH,g:=qD.put sJ,inv:=(fun i U=>by show Inv (aI M.ml o f i).core _; unfold aI; split; exact hI3; exact(d.inv i U).mono (by omega)),wf:=d.wf,may:=d.may,sm:=d.sm,cz:=d.cz.learn (o:=o) (by omega) (L:=(M.ml o).core) rfl (fun q u=>by show(aI M.ml o f q).s.known=_; unfold aI; rw[b_ u]) (by show(aI M.ml o f o).s.known=_; unfold aI; rw[d_ rfl]; exact L_ eP.known hlc),pB:=hpB,n1:=hn1,n6:=hn6 },(by rw[<- Q]; exact⟨rfl,fun q u=>by show aI M.ml o f q=_; unfold aI; rw[b_ u],.inl ⟨rfl,rfl,rfl,.inr ⟨H,by rw[<- afw]; show(aI M.ml o f o).core=_; unfold aI; rw[d_ rfl]; exact hlc⟩⟩⟩),(by show M.an<=M.an+1; omega),(fun _=>rfl),b7,fun _ h => .inl h⟩
 rw[T_]at H;refine Lv aF (aL Y.aH 1 ((show _=Value.bool x.meet from rfl).trans (L_ Value.bool H)))<|aD<|aK<|Wk<|sN<|ay<|av (pt p)<|Lv (.agg (aA 9 (Gs x))) (eT Y.aH 0)<|kU (Z5 M B p T x _ m18 hx) ?_;rintro e9 w6 ⟨V,hV,hVs,hVd,E,hb2⟩;refine⟨_,E,?_⟩;clear E;rw[<- Q]at hVd;have s8:=Sb hb2;have⟨uf,sK,ug,wS,uo,pJ⟩:=qY hb2 m14 m15 m16 m17 Y m20;have b8:=Z.then s8 (.inr Z.size);refine oC 14 zQ0 fun g3 w7 ae uh s9 z5 => ?_;have⟨m64,wT,wu,uT,yh,sM⟩:=qY s9.old uf sK ug wS uo pJ;have b9:=b8.then s9 (.inr b8.size);have Ae:=iw ae b8.size;have arN:=cu ae uf.lt;have OE:(.slice M.aa (M.an) (M.ac):Value).ownBlock≠some g3:=by rw[ae]; exact ug.kP (A_ _)
 have⟨arO,arP⟩:=oQ ae uo.lt pJ.lt;have Ed:=uh.lt;refine dG uh 0 (h1:=(eH _)) fun w8 wz s10 z6 => ?_;have uH:aP w8 g3 14 (bJ V) 37:=aN wz;have nQ:=fQ s10 uh.ty;have⟨wB,wC⟩:=xZ nQ m64 wT;have Ah:=wu.bW s10 OE;have⟨wD,zR⟩:=xZ nQ uT yh;have yJ:=sM.bW s10 (by omega);have b10:=b9.then s10 (.inr Ae);refine aD<|Ws ?_;have arQ:=wD o (by omega);refine ko [0,1,2,4,3,5,6,7,8,9,10,11,12,13] [0,0,0,4,0,0,4,4,3,0,0,0,0,0] [(8,3,[6,5,3]),(8,6,[6]),(8,7,[7]),(9,8,[8]),(10,8,[9,8]),(11,8,[9,8]),(12,8,[8]),(13,8,[8])] fun Cr gK nU => ?_;have s11:Stp w8.heap.size w8 Cr:=Sb gK;have⟨zw,xQ,wU,wV,yK,Ar,yL,BA⟩:=nO gK wB wC Ah wD zR yJ uH arQ;have b11:=b10.then s11 (.inr b10.size);refine aX (pt p)<|aX (pt p)<|aX (pt p)<|aX (au o)<|Rs (.slice M.la (M.n) (M.lc)) (aL zw.aH 0) ?_;obtain⟨Vl,K⟩:=xQ.addr (by omega);have Bf:Fx.Own Cr B 29 1 (bO Vl M.n M.lc) M.n (Hf M.pl):=xQ.fU (L_ (fun q=>Value.slice q M.n M.lc) K);refine Rp (pf Vl o) (fun _=>dh 1 (hx:=(rfl.trans (L_ (fun q=>Value.slice q (M.n) (M.lc)) K))))<|Rs (pt (M.pl o)) (aL Bf.aH o) ?_;refine Rs (.agg (aA 14 (bJ V))) (eT yL.aH 0) ?_;refine ig<|kU (EC (M.ml o) B (M.pl o) T V _ BA hV (d.inv o (by omega)).w (by omega)) ?_;rintro e9 w9 ⟨t,f,E,hc3,hL2,hb3⟩;refine⟨.tuple #[(pt t),au (bA (M.ml o).core V)],E,?_⟩;clear E;have s12:=Sb hb3;have⟨Bg,Au,Av,BD,Fp,Eh,CB⟩:=kg hb3 zw wU wV yK Ar yL Bf;have b12:=b11.then s12 (.inr b11.size);refine Ln<|aX (.tuple #[(pt t),au (bA (M.ml o).core V)])<|aX (pt t)<|aX (au (bA (M.ml o).core V))<|aX (pt t)<|aX (au (bA (M.ml o).core V))<|bQ<|Ws<|ay<|av (au (bA (M.ml o).core V)) ?_;by_cases I:(bA (M.ml o).core V)=0
 ·refine Lv aF (iN I)<|aD<|aK<|Wk<|sN<|ay<|av (pt p)<|av (pt p)<|av (pt p)<|Lv (.slice M.la (M.n) (M.lc)) (aL Bg.aH 0)<|av (au o)<|av (pt t)<|Lv (pf Vl o) (dh 1 (hx:=(rfl.trans (L_ (fun q=>Value.slice q (M.n) (M.lc)) K))))<|qR CB o (pt t) fun rW Dz s13 z7 => ?_;have ru:=fQ s13 CB.KN;have⟨AB,GJ,EA,GL,GZ,xu,yO⟩:=Ta ru Bg Au Av BD Fp Eh hL2;have b13:=b12.then s13 (.inl (.inr (.inl (by rw[K]; rfl))));have xw:Fx.Own rW B 29 1 (bO Vl M.n M.lc) M.n (Hf (aI M.pl o t)):=Dz.congr (fun F _=>congrFun WZ F);refine aD<|Ws ?_;have uU:Fx.Own rW B 29 1 (.slice M.la (M.n) (M.lc)) M.n (Hf (aI M.pl o t)):=xw.fU (L_ (fun q=>Value.slice q M.n M.lc) K.symm);refine zY [0,1,2,3,4,5,6,7,8,9,10] [0,0,0,0,1,4,2,2,0,0,3] (jm [37]) wm Fx.jm.trans (fK := [(10,4,[4]),(6,5,[5]),(7,5,[6,5]),(10,5,[5]),(7,6,[6]),(8,6,[6]),(9,6,[6]),(10,6,[6]),(8,7,[7]),(9,7,[7]),(10,7,[7])]) (by kernel_rfl) (by kernel_rfl) (by kernel_rfl) (by kernel_rfl) (by kernel_rfl) fun R9 mK Bv => ?_;have Af:Stp rW.heap.size rW R9:=Sb mK;have⟨qG,qj,rE,qH,rY,tN,vO,rZ⟩:=nO mK AB GJ EA GL GZ xu yO uU;have b14:=b13.then Af (.inr b13.size);refine aX (pt p)<|aX (pt p)<|aX (pt p)<|aX (pf p 1)<|Rd (v := .slice M.aa (M.an) (M.ac)) (by rfl) (by rfl) (wm _) (fun D C=>aZ (x:=Na (.slice M.la (M.n) (M.lc)) (.slice M.aa (M.an) (M.ac))) rfl rfl (by kernel_rfl) (qG.lu C (by decide)).aH (i:=1) (by omega) (by omega) rfl) ?_;refine Rs (.agg (aA 14 (bJ V))) (eT tN.aH 0) ?_;refine yw<|zi (vs := [(0,.agg (aA 14 (bJ V)))]) (s:=14) (zc:=fun b=>if b<1 then au 0 else if b<8 then aC 0 else if b<9 then .int .u8 (0)else if b<10 then aC 0 else if b<12 then au 0 else aC 0) (y:=bC (fun j=>zQ0 (j % 14)) (0*14) 14 (bJ V)) (by rfl) rfl rfl Tryz.underlying76 (by kernel_rfl) (by rfl) (by rfl) (by kernel_rfl) (by rw[bf (off:=0*14) (s:=14) (y:=bJ V) rfl (bK _ _) (by rfl)]; rfl) rfl fun g4 Ec af uV s15 z8 => ?_;have⟨zS,vP,zT,yj,uW,rF,yP⟩:=kg s15.old qG qj rE rY tN vO rZ;have b15:=b14.then s15 (.inr b14.size);have PE:=iw af b14.size;have Y0:=cu af qG.lt;have Y1:(.slice M.aa (M.an) (M.ac):Value).ownBlock≠some g4:=by rw[af]; exact qj.kP (A_ _)
  have⟨alE,alF,Y2⟩:=Bq af qH.lt rY.lt tN.lt;have NS:=uV.lt;refine Ln ⟨Fx.jm.of_below s15.old,?_⟩;refine yw<|zP (B:=B) (s:=14) (bytes:=112) (k:=M.an) (m:=1) (v := .slice M.aa (M.an) (M.ac)) (x:=evX M.ev) (by rfl) rfl rfl rfl Tryz.underlying76 (by kernel_rfl) (by kernel_rfl) rfl rfl vP uV.aH (zB (fun j=>(show(bJ V j).oneCell'=true by unfold bJ; repeat (first|rfl|split)))) (by omega) (by omega) (by omega) (m_ hB b15.size) fun N ab Bd ho1 hg1 wR hlt1 => ?_
  have yc:=zQ hg1 vP;have⟨uX,CG⟩:=xZ yc zS zT;have FD:=yj.grown hg1 Gg;have alG:R≠N:=fun e=>wR.elim (fun P=>Gg (by rw[e]; exact P)) (fun P=>by have:=yj.lt; omega);have BI:=uW.grown hg1 OE;have alH:g3≠N:=fun e=>wR.elim (fun P=>OE (by rw[e]; exact P)) (fun P=>by have:=uW.lt; omega);have⟨FE,G6⟩:=xZ yc rF yP;have yQ:Fx.Own Bd B 37 14 (bO N (M.an+1) ab) (M.an+1) (evX (aI M.ev M.an V)):=(ho1.congr (fun j W=>aft j W));have b16:jR (Yc p M) w Bd:=Fx.jR.grow b15 hg1 (fun q u => .inl (.inr (.inr u)));refine Ln ⟨yc,?_⟩;refine aX (pt p)<|aX (pf p 1)<|ig<|jv uX 1 (bO N (M.an+1) ab) fun Fh CJ s16 z9 => ?_;have AJ:aP Fh p 2 (Na (.slice M.la (M.n) (M.lc)) (bO N (M.an+1) ab)) 78:=CJ.congr (ajb _ _ _);have yg:=fQ s16 uX.ty;have⟨JV,FH,FI,G7,G8,CK⟩:=S9 yg CG FD BI FE G6 yQ;have b17:=b16.then s16 (.inl (.inl rfl));refine Ln<|bQ<|ay<|Lv (.agg (aA 14 (bJ V))) (eT FI.aH 0)<|dG FH 0 (h1:=(eH _)) fun K8 FJ Ie z10 => ?_;have CO:aP K8 R 14 (bJ V) 37:=aN FJ;have BH:=fQ Ie FH.ty;have FV:=iW BH JV;have AL:=FI.bW Ie (by omega);have⟨CP,BJ⟩:=xZ BH G7 G8;have JN:=CK.acf Ie (by omega);have U4:=iW BH AJ;have b18:=b17.then Ie (.inr pK);refine aD (Wr (⟨.agg (aA 14 (bJ V)),rV Tryz.results28 ⟨_,rfl,aR CO.aH (by kernel_rfl) (by kernel_rfl)⟩,?_⟩));have hinv:Inv f.core (T+3660):=by rw[hc3]; exact(IG hVs (d.inv o (by omega))).mono (by omega)
  have eRo:aO V=o:=by unfold aO; omega
  have hk3:f.s.known=aI (M.ml o).s.known o ((M.ml o).s.known o+1):=(L_ eP.known hc3).trans (by rw[zI I,eRo]; rfl);exact⟨V,rfl,hV,{ M with pl:=aI M.pl o t,ml:=aI M.ml o f,an:=M.an+1,aa:=some ⟨N,0,none⟩,ac:=ab,ev:=aI M.ev M.an V },{ c:=U4,l:=BJ,a:=JN,g:=FV.put CP,inv:=(fun i U=>by show Inv (aI M.ml o f i).core _; unfold aI; split; exact hinv; exact(d.inv i U).mono (by omega)),wf:=(fun k X=>by have hk2:k<M.an+1:=X; show gD (aI M.ev M.an V k); unfold aI; split; exact hV; exact d.wf k (by omega)),may:=(fun k X=>by have hk2:k<M.an+1:=X; show bR (aI M.ev M.an V k)=true; unfold aI; split; exact RP I; exact d.may k (by omega)),sm:=(fun k X=>by have hk2:k<M.an+1:=X; show sw (aI M.ev M.an V k); unfold aI; split; exact hVs; exact d.sm k (by omega)),cz:=d.cz.event (o:=o) (by omega) (iU I) eRo hVd.2.2 (fun q u=>by show(aI M.ml o f q).s.known=_; unfold aI; rw[b_ u]) (by show(aI M.ml o f o).s.known=_; unfold aI; rw[d_ rfl]; exact hk3),pB:=hpB,n1:=hn1,n6:=hn6 },(by rw[<- Q]; exact⟨rfl,fun q u=>by show aI M.ml o f q=_; unfold aI; rw[b_ u],.inr ⟨H,rfl,rfl,I,by show(aI M.ml o f o).core=_; unfold aI; rw[d_ rfl]; exact hc3,hVd⟩⟩),A_ _,(fun u=>by rw[H]at u; cases u),b18,aaf.app wR b15.size⟩
 refine Lv aG (jZ I)<|aD<|aM<|ay<|av (.agg (aA 14 zQ0))<|dG Fp 0 (h1:=(fun F _=>by show(zQ0 F).oneCell'=true; simp only[zQ0]; repeat (first|rfl|split))) fun Kv Vj M8 z11 => ?_
 have U5:aP Kv R 14 zQ0 37:=aN Vj;have FB:=fQ M8 Fp.ty;have U6:=iW FB Bg;have adF:=Au.bW M8 Gg;have U7:=iW FB Av;have U8:=Eh.bW M8 (by omega);have Q7:=iW FB CB;have b19:=b12.then M8 (.inr pK);refine aD (Wr (sR (⟨.agg (aA 14 zQ0),rV Tryz.results28 ⟨_,rfl,aR U5.aH (by kernel_rfl) (by kernel_rfl)⟩,?_⟩)));have Va:Fx.Own Kv B 29 1 (.slice M.la (M.n) (M.lc)) M.n (Hf M.pl):=Q7.fU (L_ (fun q=>Value.slice q M.n M.lc) K.symm);exact⟨zeroE,L_ (fun z=>Ending.returned (Value.agg z)) (Fx.dO (y:=bJ zeroE) fun j W=>by rcases j with _|_|_|_|_|_|_|_|_|_|_|_|_|_|j <;> first|rfl|omega),vX,M,{ c:=U6,l:=Va,a:=adF,g:=U7,inv:=fun i U=>(d.inv i U).mono (by omega),wf:=d.wf,may:=d.may,sm:=d.sm,cz:=d.cz,pB:=hpB,n1:=hn1,n6:=hn6 },⟨rfl,fun _ _=>rfl,.inl ⟨rfl,rfl,rfl,.inl rfl⟩⟩,by omega,(fun _=>rfl),b19,fun _ h => .inl h⟩
theorem ajG(M:WM)(B p T:Nat)(x:Eo)(w:World)(c:oN w B p M T)(b:B<=w.heap.size)(hx:Gr x)(m:M.an<=60)(l:T<=890000) :
 Calls Tryz.prog 28 #[(pt p),.agg (aA 9 (Gs x))] w fun e w' => ∃ v,e = .returned (.agg (aA 14 (bJ v)))/\gD v /\ ∃ a,oN w' B p a (T+3660)/\DoR (x.who % M.n) x M a v/\a.an<=M.an+1/\(x.meet=true->a.an=M.an)/\Below B w w' :=
 (ajF M B p T x w c b hx m l).mono fun _ _ ⟨v,d,f,a,g,h,i,j,k,_⟩=>⟨v,d,f,a,g,h,i,j,c.yZ b k⟩
end Go.Proofs.YtcbedgfikejkoaaGreatDoor
namespace Go.Proofs.YtcbedgfikejkoaaGreatDoor
open Go.RowKit Go.WideShapes Go.ChangeShapes Go.Deep Rt
def Xd:Value->Bool | .bool b=>b|_=>false
theorem KC.int{k:IntKind}{v:Value}(h:KC (some k) v):v = .int k (intOf v)/\(Lit.int k (intOf v)).wf=true:=by
 obtain⟨n,rfl,a⟩:=h; exact⟨rfl,a⟩
theorem KC.bool{v:Value}(h:KC none v):v = .bool (Xd v):=by
 obtain⟨b,rfl⟩:=h; rfl
theorem wf_u8{n:Int}(h:(Lit.int .u8 n).wf=true):0<=n/\n<=255:=by simp[Lit.wf,IntKind.min,IntKind.max,IntKind.bits,IntKind.signed]at h; omega
theorem wf_u16{n:Int}(h:(Lit.int .u16 n).wf=true):0<=n/\n<=65535:=by simp[Lit.wf,IntKind.min,IntKind.max,IntKind.bits,IntKind.signed]at h; omega
theorem Xe{n:Int}(h:(Lit.int .u8 n).wf=true) : ∃ m:Nat,n=(m:Int)/\m<=255:=by
 have:=wf_u8 h; exact⟨n.toNat,by omega,by omega⟩
theorem Fx.kQ.congr{w:World}{a:Option Addr}{n s:Nat}{x y:Nat->Value}(h:Fx.kQ w a n s x)(e : ∀ p,p<n*s->x p=y p):Fx.kQ w a n s y:=fun f=>by
 obtain⟨b,j,d,g⟩:=h f;exact⟨b,j,d,fun i c=>by rw[<- e i c]; exact g i c⟩
def Xf:List (Option IntKind) := [some .u8,none,some .u8,some .u8,some .u8,some .u8,some .u16,some .u8,some .u8]
def Xg(X:Nat->Value):Eo:=⟨(intOf (X 0)).toNat,Xd (X 1),(intOf (X 2)).toNat,(intOf (X 3)).toNat,(intOf (X 4)).toNat,(intOf (X 5)).toNat,(intOf (X 6)).toNat,(intOf (X 7)).toNat,(intOf (X 8)).toNat⟩
theorem MG{X:Nat->Value}(h : ∀(j:Nat) (k:Option IntKind),Xf[j]? = some k->KC k (X j)):Gr (Xg X) /\ ∀ j,j<9->X j=Gs (Xg X) j:=by
 have a : ∀ j,Xf[j]? = some (some .u8)->X j = .int .u8 ((intOf (X j)).toNat:Int)/\(intOf (X j)).toNat<=255:=fun j d=>by
  obtain⟨e,b⟩:=(h j _ d).int;have:=wf_u8 b;exact⟨by rw[Int.toNat_of_nonneg this.1]; exact e,by omega⟩
 have c:X 6 = .int .u16 ((intOf (X 6)).toNat:Int)/\(intOf (X 6)).toNat<=65535:=by
  obtain⟨e,b⟩:=(h 6 (some .u16) rfl).int;have:=wf_u16 b;exact⟨by rw[Int.toNat_of_nonneg this.1]; exact e,by omega⟩
 refine⟨⟨(a 0 rfl).2,(a 2 rfl).2,(a 3 rfl).2,(a 4 rfl).2,(a 5 rfl).2,c.2,(a 7 rfl).2,(a 8 rfl).2⟩,fun j d => ?_⟩
 rcases j with _|_|_|_|_|_|_|_|_|j
 ·exact(a 0 rfl).1
 ·exact(h 1 none rfl).bool
 ·exact(a 2 rfl).1
 ·exact(a 3 rfl).1
 ·exact(a 4 rfl).1
 ·exact(a 5 rfl).1
 ·exact c.1
 ·exact(a 7 rfl).1
 ·exact(a 8 rfl).1
 omega
section
variable {H:Type} {enc:TypeId × Value->H} {P:Program} {w:World}
theorem RQ{t e:TypeId}{a:Option Addr}{len cap D:Nat}{d:DataW H}{r:List MemPlace}(q:P.underlying t=some (.slice e))(b:xH P D e=some Xf)(l:P.cellsOf e=9)
 (h:DataW.Trod enc P w 0 (fun _=>true) true t (.slice a len cap) d r) : ∃ g:Nat->Eo,(∀ i,i<len->Gr (g i))/\Fx.kQ w a len 9 (Fx.flat 9 fun k=>Gs (g k)):=by
 obtain⟨v,n⟩:=h;obtain⟨s,x,u,f,_,_,X,c,m⟩:=I6 q b l (by decide) n;simp[Value.cells]at f;obtain⟨rfl,rfl,rfl⟩:=f;exact⟨fun i=>Xg (X i),fun i o=>(MG (c i o)).1,m.congr (Fx.bL fun k b j p=>(MG (c k b)).2 j p)⟩
end
theorem bdU{n:Int}(h:(Lit.int .u64 n).wf=true):iX n:=by have:=afn h; unfold iX; omega
theorem bdI{n:Int}(h:(Lit.int .i64 n).wf=true):qc n:=by have:=WW h; unfold qc; omega
end Go.Proofs.YtcbedgfikejkoaaGreatDoor
namespace Go.Proofs.YtcbedgfikejkoaaGreatDoor
open Go.RowKit Rt
open Fx (aZ dR jo Lv sN Ln Ws Wr Sb Wk rV sR Rs Rn Rd Wb zX fQ nM zY rv aA aP bC aQ ev Stp aN flat aR iV jd bB dI bM bS fE)
theorem ajH{B:Nat}{a b c:World}(h:Below a.heap.size a b)(e:Below B b c)(d:a.heap.size<=B):Below a.heap.size a c:=h.trans (e.mono d)
theorem rX.yG{w w':World}{B p:Nat}{m:kV}{e:List TypeId}(h:rX w B p m)(b:Fx.zm e w w')(k:(Lp.all fun T => !e.contains T)=true):rX w' B p m:=by
 have a : ∀ d∈Lp,e.contains d=false:=fun d f=>by
  have:=List.all_eq_true.1 k d f
  simpa using this
 exact { h with
  c:=h.c.yG b (a _ (by decide)),n:=h.n.yG b (a _ (by decide)),g:=h.g.yG b (a _ (by decide)),tc:=h.tc.yG b (a _ (by decide)),t:=h.t.yG b (a _ (by decide)),r:=⟨fun i j=>(h.r.1 i j).yG b (a _ (by decide)),h.r.2⟩ }
section
namespace Rt
structure Ab where
 inn:Nat->Bool
 left:Nat->Bool
 own:Nat->Int
 has:Int->Bool
 par:Int->Int
 R:Int->Nat->Int
 gh:Int->Int->Bool
 g:Int->Int->Nat->Int
 ask:Int->Int->Bool
def Ab.up(A:Ab)(x:Int):Nat->Int
 | 0=>x
 | i+1=>A.par (A.up x i)
def Ab.on(A:Ab)(x y:Int):Bool:=A.has y&&(List.range 6).any fun i=>decide (A.up x i=y)
def rP(v:EvM):Int:=jF v.o v.seq
def aV(v:EvM):Nat:=(v.o-1).toNat
def dV(v:EvM):Nat:=(v.dst-1).toNat
def Ab.dl(A:Ab)(v:EvM)(y:Int)(p:Nat):Int :=
 if v.kind=1 then(if y=rP v/\p=aV v then v.aT else 0)
 else if v.kind=2 then(if y=v.node/\p=aV v then v.aT else 0)
 else if v.kind=3 then(if A.on v.node y=true/\p=6+aV v then v.aT else 0)
 else if v.kind=4 then(if A.on (A.g v.o v.of 2) y=true/\p=12+aV v then A.g v.o v.of 3 else 0)
 else if v.kind=5 then(if y=v.node/\p=18+(6*aV v+dV v)then v.aT else 0)
 else 0
def Ab.rH(A:Ab)(v:EvM):Ab where
 inn:=fun j=>A.inn j || (decide (v.kind=6)&&decide (j=dV v))
 left:=fun j=>A.left j || (decide (v.kind=7)&&decide (j=aV v))
 own:=fun j=>A.own j+if v.kind=1/\j=aV v then 1 else 0
 has:=fun y=>A.has y || (decide (v.kind=1)&&decide (y=rP v))
 par:=fun y=>if v.kind=1/\y=rP v then v.node else A.par y
 R:=fun y p=>A.R y p+A.dl v y p
 gh:=fun o r=>A.gh o r || (decide (v.kind=3)&&(decide (o=v.o)&&decide (r=v.req)))
 g:=fun o r j=>if v.kind=3/\o=v.o/\r=v.req then(if j=2 then v.node else if j=3 then v.aT else 0)else if v.kind=4/\o=v.o/\r=v.of/\j=4 then v.req else A.g o r j
 ask:=fun o r=>A.ask o r || ((decide (v.kind=3) || decide (v.kind=4))&&(decide (o=v.o)&&decide (r=v.req)))
structure Ab.Ok(A:Ab):Prop where
 z:A.has 0=false
 p : ∀ y,A.has y=true->A.par y=0\/A.has (A.par y)=true
 p0 : ∀ y,A.has y=false->A.par y=0
 g : ∀ o r,A.gh o r=true->A.has (A.g o r 2)=true
 r0 : ∀ y p,A.has y=false->A.R y p=0
structure Ab.Pre(A:Ab)(v:EvM):Prop where
 n1:v.kind=1->A.has (rP v)=false/\rP v≠0/\(v.node=0\/A.has v.node=true)
 n2:v.kind=2->A.has v.node=true
 n3:v.kind=3->A.has v.node=true/\A.gh v.o v.req=false
 n4:v.kind=4->A.gh v.o v.of=true
 n5:v.kind=5->A.has v.node=true
section
variable {A B:Ab} {u v:EvM} {y:Int}
theorem Ab.I9(h:A.Ok){x:Int}(hx:A.has x=true) : ∀ i,A.up x i=0\/A.has (A.up x i)=true
 | 0 => .inr hx
 | i+1=>by
   show A.par (A.up x i)=0\/A.has (A.par (A.up x i))=true
   rcases Ab.I9 h hx i with e|e
   ·left; rw[e]; exact h.p0 0 h.z
   ·exact h.p _ e
theorem Ab.Ca(hy:A.has y=true):(A.rH v).has y=true:=by show(A.has y || _)=true; rw[hy]; rfl
theorem Ab.Qm(c:A.Pre v)(hy:A.has y=true):(A.rH v).par y=A.par y:=by
 show(if v.kind=1/\y=rP v then v.node else A.par y)=A.par y;rw[b_];rintro ⟨a,b⟩;have:=(c.n1 a).1;rw[<- b,hy]at this; cases this
theorem Ab.Xh(c:A.Pre v):(A.rH v).par 0=A.par 0:=by
 show(if v.kind=1/\(0:Int)=rP v then v.node else A.par 0)=A.par 0;rw[b_];rintro ⟨a,b⟩;exact(c.n1 a).2.1 b.symm
theorem Ab.Xi(h:A.Ok)(a:A.Pre v){x:Int}(hx:A.has x=true) : ∀ i,(A.rH v).up x i=A.up x i
 | 0=>rfl
 | i+1=>by
   show(A.rH v).par ((A.rH v).up x i)=A.par (A.up x i);rw[Ab.Xi h a hx i]
   rcases Ab.I9 h hx i with e|e
   ·rw[e]; exact Ab.Xh a
   ·exact Ab.Qm a e
theorem Ab.Xj(h:A.Ok)(b:A.Pre v){x:Int}(hx:A.has x=true)(y:Int):(A.rH v).on x y=A.on x y:=by
 unfold Ab.on;have e:((List.range 6).any fun i=>decide ((A.rH v).up x i=y))=((List.range 6).any fun i=>decide (A.up x i=y)):=by
  congr 1; funext i; rw[Ab.Xi h b hx i]
 rw[e]
 cases hc:(List.range 6).any fun i=>decide (A.up x i=y)
 ·rw[I_,I_]
 rw[Bool.and_true,Bool.and_true];obtain⟨i,_,a⟩:=List.any_eq_true.1 hc;have a:=h_ a;show(A.has y || (decide (v.kind=1)&&decide (y=rP v)))=A.has y
 cases hy:A.has y
 ·rcases Ab.I9 h hx i with e0|e0
  ·rw[a]at e0
   cases c1:decide (v.kind=1)
   ·rfl
   have:=(b.n1 (h_ c1)).2.1;rw[g_ (show ¬ y=rP v by rw[e0]; exact fun q=>this q.symm)]; rfl
  rw[a,hy]at e0; cases e0
 rfl
theorem Ab.MH(f:A.Pre v){o r:Int}(d:A.gh o r=true)(j:Nat)(e:j≠4):(A.rH v).g o r j=A.g o r j:=by
 show(if v.kind=3/\o=v.o/\r=v.req then(if j=2 then v.node else if j=3 then v.aT else 0)else if v.kind=4/\o=v.o/\r=v.of/\j=4 then v.req else A.g o r j)=A.g o r j;rw[b_,b_]
 ·exact fun q=>e q.2.2.2
 rintro ⟨a,b,c⟩;have:=(f.n3 a).2;rw[<- b,<- c,d]at this; cases this
theorem Ab.afx{o r:Int}(a:A.gh o r=true):(A.rH v).gh o r=true:=by show(A.gh o r || _)=true; rw[a]; rfl
theorem Ab.afy(h:A.Ok)(b:A.Pre v):(A.rH v).Ok where
 z:=by
  show(A.has 0 || (decide (v.kind=1)&&decide ((0:Int)=rP v)))=false;rw[h.z,Bool.false_or]
  cases c1:decide (v.kind=1)
  ·rfl
  ·rw[g_ (fun q=>(b.n1 (h_ c1)).2.1 q.symm)]; rfl
 p:=fun y a=>by
  have a:(A.has y || (decide (v.kind=1)&&decide (y=rP v)))=true:=a;show(if v.kind=1/\y=rP v then v.node else A.par y)=0\/(A.rH v).has (if v.kind=1/\y=rP v then v.node else A.par y)=true;by_cases c:v.kind=1/\y=rP v
  ·rw[d_ c];exact(b.n1 c.1).2.2.imp id Ab.Ca
  ·rw[b_ c];have u:A.has y=true:=by
    rcases Bool.or_eq_true_iff.1 a with q|q
    ·exact q
    ·rw[S_]at q; exact M_ ⟨h_ q.1,h_ q.2⟩ c
   exact(h.p y u).imp id Ab.Ca
 p0:=fun y a=>by
  have a:(A.has y || (decide (v.kind=1)&&decide (y=rP v)))=false:=a;rw[Bool.or_eq_false_iff]at a;show(if v.kind=1/\y=rP v then v.node else A.par y)=0;rw[b_]
  ·exact h.p0 y a.1
  ·rintro ⟨s,t⟩;rw[f_ s,f_ t]at a; cases a.2
 g:=fun o r d=>by
  have d:(A.gh o r || (decide (v.kind=3)&&(decide (o=v.o)&&decide (r=v.req))))=true:=d;by_cases c:v.kind=3/\o=v.o/\r=v.req
  ·have:(A.rH v).g o r 2=v.node:=(by show(if v.kind=3/\o=v.o/\r=v.req then _ else _)=v.node; rw[d_ c]; rfl);rw[this]; exact Ab.Ca (b.n3 c.1).1
  ·have k:A.gh o r=true:=by
    rcases Bool.or_eq_true_iff.1 d with q|q
    ·exact q
    ·rw[S_,S_]at q; exact M_ ⟨h_ q.1,h_ q.2.1,h_ q.2.2⟩ c
   rw[Ab.MH b k 2 (by decide)];exact Ab.Ca (h.g o r k)
 r0:=fun y p a=>by
  have a:(A.has y || (decide (v.kind=1)&&decide (y=rP v)))=false:=a;rw[Bool.or_eq_false_iff]at a;show A.R y p+A.dl v y p=0;rw[h.r0 y p a.1,Int.zero_add];have l : ∀ x,A.on x y=false:=fun x=>by unfold Ab.on; rw[a.1]; rfl
  unfold Ab.dl;by_cases f:v.kind=1
  ·rw[d_ f,b_];rintro ⟨e,_⟩; rw[f_ f,f_ e]at a; cases a.2
  rw[b_ f];by_cases i:v.kind=2
  ·rw[d_ i,b_];rintro ⟨e,_⟩; rw[e,b.n2 i]at a; cases a.1
  rw[b_ i];by_cases m:v.kind=3
  ·rw[d_ m,b_]; rw[l]; exact fun q=>by cases q.1
  rw[b_ m];by_cases n:v.kind=4
  ·rw[d_ n,b_]; rw[l]; exact fun q=>by cases q.1
  rw[b_ n];by_cases j:v.kind=5
  ·rw[d_ j,b_];rintro ⟨e,_⟩; rw[e,b.n5 j]at a; cases a.1
  rw[b_ j]
theorem Ab.Xk(h:A.Ok)(c:A.Pre u)(i:A.Pre v)(y:Int)(p:Nat):(A.rH u).dl v y p=A.dl v y p:=by
 unfold Ab.dl;by_cases d:v.kind=1
 ·rw[d_ d,d_ d]
 rw[b_ d,b_ d];by_cases e:v.kind=2
 ·rw[d_ e,d_ e]
 rw[b_ e,b_ e];by_cases a:v.kind=3
 ·rw[d_ a,d_ a,Ab.Xj h c (i.n3 a).1]
 rw[b_ a,b_ a];by_cases b:v.kind=4
 ·have f:=i.n4 b;rw[d_ b,d_ b,Ab.MH c f 2 (by decide),Ab.MH c f 3 (by decide),Ab.Xj h c (h.g _ _ f)]
 rw[b_ b,b_ b]
theorem Ab.RS(h1:A.inn=B.inn)(a:A.left=B.left)(b:A.own=B.own)(c:A.has=B.has)(d:A.par=B.par)(e:A.R=B.R)(f:A.gh=B.gh)(h:A.g=B.g)(i:A.ask=B.ask):A=B:=by
 cases A; cases B; simp only at h1 a b c d e f h i; subst h1 a b c d e f h i; rfl
theorem Ab.Xl(h:A.Ok)(b:A.Pre u)(d:A.Pre v)(k:u.o≠v.o)(i:u.kind=1->v.kind=1->rP u≠rP v):(A.rH u).rH v=(A.rH v).rH u:=by
 apply Ab.RS
 ·funext j; exact Bool.or_right_comm _ _ _
 ·funext j; exact Bool.or_right_comm _ _ _
 ·funext j; exact Int.add_right_comm _ _ _
 ·funext y; exact Bool.or_right_comm _ _ _
 ·funext y
  show(if v.kind=1/\y=rP v then v.node else if u.kind=1/\y=rP u then u.node else A.par y)=(if u.kind=1/\y=rP u then u.node else if v.kind=1/\y=rP v then v.node else A.par y);by_cases c:v.kind=1/\y=rP v
  ·rw[d_ c,d_ c,b_];rintro ⟨e,f⟩;exact i e c.1 (f.symm.trans c.2)
  rw[b_ c,b_ c]
 ·funext y p
  show A.R y p+A.dl u y p+(A.rH u).dl v y p=A.R y p+A.dl v y p+(A.rH v).dl u y p;rw[Ab.Xk h b d,Ab.Xk h d b,Int.add_right_comm]
 ·funext o r; exact Bool.or_right_comm _ _ _
 ·funext o r j
  show(if v.kind=3/\o=v.o/\r=v.req then _ else if v.kind=4/\o=v.o/\r=v.of/\j=4 then v.req else if u.kind=3/\o=u.o/\r=u.req then _ else if u.kind=4/\o=u.o/\r=u.of/\j=4 then u.req else A.g o r j) =
   (if u.kind=3/\o=u.o/\r=u.req then _ else if u.kind=4/\o=u.o/\r=u.of/\j=4 then u.req else if v.kind=3/\o=v.o/\r=v.req then _ else if v.kind=4/\o=v.o/\r=v.of/\j=4 then v.req else A.g o r j)
  by_cases c:o=v.o
  ·have a : ¬ o=u.o:=fun q=>k (q.symm.trans c);rw[b_ (show ¬ (u.kind=3/\o=u.o/\r=u.req)from fun q=>a q.2.1),b_ (show ¬ (u.kind=4/\o=u.o/\r=u.of/\j=4)from fun q=>a q.2.1),b_ (show ¬ (u.kind=3/\o=u.o/\r=u.req)from fun q=>a q.2.1),b_ (show ¬ (u.kind=4/\o=u.o/\r=u.of/\j=4)from fun q=>a q.2.1)]
  rw[b_ (show ¬ (v.kind=3/\o=v.o/\r=v.req)from fun q=>c q.2.1),b_ (show ¬ (v.kind=4/\o=v.o/\r=v.of/\j=4)from fun q=>c q.2.1),b_ (show ¬ (v.kind=3/\o=v.o/\r=v.req)from fun q=>c q.2.1),b_ (show ¬ (v.kind=4/\o=v.o/\r=v.of/\j=4)from fun q=>c q.2.1)]
 funext o r; exact Bool.or_right_comm _ _ _
end
end Rt
end
section
namespace Rt
def Dm(x:Nat->Int)(a:Nat):Int:=x a-x (6+a)+x (12+a)+(x (18+(6*0+a))+x (18+(6*1+a))+x (18+(6*2+a))+x (18+(6*3+a))+x (18+(6*4+a))+x (18+(6*5+a)))-(x (18+(6*a+0))+x (18+(6*a+1))+x (18+(6*a+2))+x (18+(6*a+3))+x (18+(6*a+4))+x (18+(6*a+5)))
structure Ab.RU(A:Ab)(v:EvM):Prop where
 inn:A.inn (aV v)=true
 left:A.left (aV v)=false
 pre:A.Pre v
 k1:v.kind=1->A.own (aV v)<5/\v.aT<=140737488355328 /\ ¬ ∀ i,i<4->A.has (A.up v.node i)=true
 k2:v.kind=2->A.R v.node (aV v)+v.aT<=140737488355328
 k3:v.kind=3->A.ask v.o v.req=false /\ ∀ y,A.on v.node y=true->v.aT<=Dm (A.R y) (aV v)
 k4:v.kind=4->A.ask v.o v.req=false/\A.g v.o v.of 4=0 /\ ∀ y,A.on (A.g v.o v.of 2) y=true->A.g v.o v.of 3<=A.R y (6+aV v)-A.R y (12+aV v)
 k5:v.kind=5->A.inn (dV v)=true/\v.aT<=Dm (A.R v.node) (aV v)
def ajI(a p:Nat):Prop:=p=a\/p=6+a\/p=12+a \/ ∃ k,k<6/\p=18+(6*a+k)
structure Ab.Le(A B:Ab)(a:Nat):Prop where
 inn : ∀ j,A.inn j=true->B.inn j=true
 left:B.left a=A.left a
 own:B.own a=A.own a
 has : ∀ y,A.has y=true->B.has y=true
 hid : ∀ s,1<=s/\s<1099511627776->B.has (jF ((a:Int)+1) s)=A.has (jF ((a:Int)+1) s)
 par : ∀ y,A.has y=true->B.par y=A.par y
 R1 : ∀ y p,A.has y=true->ajI a p->B.R y p=A.R y p
 R2 : ∀ y k,A.has y=true->k<6->A.R y (18+(6*k+a))<=B.R y (18+(6*k+a))
 gh : ∀ o r,A.gh o r=true->B.gh o r=true /\ ∀ j,j≠4->B.g o r j=A.g o r j
 gho : ∀ r,B.gh ((a:Int)+1) r=A.gh ((a:Int)+1) r
 go : ∀ r,B.g ((a:Int)+1) r 4=A.g ((a:Int)+1) r 4
 ask : ∀ r,B.ask ((a:Int)+1) r=A.ask ((a:Int)+1) r
structure Nc(v:EvM):Prop where
 o:1<=v.o/\v.o<=6
 seq:1<=v.seq/\v.seq<1099511627776
 aT:0<=v.aT
 dst:v.kind=5->1<=v.dst/\v.dst<=6
section
variable {A B:Ab} {u v:EvM} {a:Nat} {x y:Int}
theorem Nc.reg(h:Nc v):v.o=(aV v:Int)+1/\aV v<6:=by have:=h.o; unfold aV; omega
theorem Nc.id(h:Nc v):rP v=1099511627776*v.o+v.seq:=by
 unfold rP jF; rw[d_ ⟨h.o.1,h.o.2,h.seq.1,h.seq.2⟩]
theorem Nc.ne(a:Nc u)(b:Nc v)(h:u.o≠v.o):rP u≠rP v:=by
 rw[a.id,b.id]; have:=a.seq; have:=b.seq; have:=a.o; have:=b.o; omega
theorem Ab.Le.refl(A:Ab)(a:Nat):A.Le A a:=⟨fun _ h=>h,rfl,rfl,fun _ h=>h,fun _ _=>rfl,fun _ _=>rfl,fun _ _ _ _=>rfl,fun _ _ _ _=>N_ _,fun _ _ h=>⟨h,fun _ _=>rfl⟩,fun _=>rfl,fun _=>rfl,fun _=>rfl⟩
theorem Ab.Le.up(h:A.Le B a)(b:A.Ok)(c:B.Ok)(hx:A.has x=true) : ∀ i,B.up x i=A.up x i
 | 0=>rfl
 | i+1=>by
   show B.par (B.up x i)=A.par (A.up x i);rw[h.up b c hx i]
   rcases Ab.I9 b hx i with e|e
   ·rw[e,b.p0 0 b.z,c.p0 0 c.z]
   ·exact h.par _ e
theorem Ab.Le.on(h:A.Le B a)(c:A.Ok)(d:B.Ok)(hx:A.has x=true)(y:Int):B.on x y=A.on x y:=by
 unfold Ab.on;have e:((List.range 6).any fun i=>decide (B.up x i=y))=((List.range 6).any fun i=>decide (A.up x i=y)):=by
  congr 1; funext i; rw[h.up c d hx i]
 rw[e]
 cases hc:(List.range 6).any fun i=>decide (A.up x i=y)
 ·rw[I_,I_]
 rw[Bool.and_true,Bool.and_true];obtain⟨i,_,b⟩:=List.any_eq_true.1 hc;have b:=h_ b
 rcases Ab.I9 c hx i with e0|e0
 ·rw[b]at e0; rw[e0,c.z,d.z]
 rw[b]at e0; rw[e0,h.has _ e0]
theorem Ab.OG(h:A.on x y=true):A.has y=true:=by unfold Ab.on at h; rw[S_]at h; exact h.1
theorem Ab.Le.loc(h:A.Le B a)(ha:a<6)(hy:A.has y=true):Dm (A.R y) a<=Dm (B.R y) a:=by
 have o : ∀ k,k<6->B.R y (18+(6*a+k))=A.R y (18+(6*a+k)):=fun k b=>h.R1 y _ hy (.inr (.inr (.inr ⟨k,b,rfl⟩)));unfold Dm;rw[h.R1 y a hy (.inl rfl),h.R1 y (6+a) hy (.inr (.inl rfl)),h.R1 y (12+a) hy (.inr (.inr (.inl rfl))),o 0 (by omega),o 1 (by omega),o 2 (by omega),o 3 (by omega),o 4 (by omega),o 5 (by omega)];have:=h.R2 y 0 hy (by omega); have:=h.R2 y 1 hy (by omega); have:=h.R2 y 2 hy (by omega); have:=h.R2 y 3 hy (by omega); have:=h.R2 y 4 hy (by omega); have:=h.R2 y 5 hy (by omega);omega
theorem Ab.Le.okE(h:A.Le B (aV v))(l:A.Ok)(m:B.Ok)(t:Nc v)(a:A.RU v):B.RU v:=by
 obtain⟨c,p⟩:=t.reg;have P:=a.pre;have w : ∀ r,B.gh v.o r=A.gh v.o r:=fun r=>by rw[c]; exact h.gho r
 have s : ∀ r,B.ask v.o r=A.ask v.o r:=fun r=>by rw[c]; exact h.ask r
 refine⟨h.inn _ a.inn,h.left.trans a.left,⟨fun k => ?_,fun k=>h.has _ (P.n2 k),fun k=>⟨h.has _ (P.n3 k).1,(w _).trans (P.n3 k).2⟩,fun k=>(w _).trans (P.n4 k),fun k=>h.has _ (P.n5 k)⟩,fun k => ?_,fun k => ?_,fun k => ?_,fun k => ?_,fun k=>⟨h.inn _ (a.k5 k).1,R_ (a.k5 k).2 (h.loc p (P.n5 k))⟩⟩
 ·obtain⟨d,f,j⟩:=P.n1 k;refine⟨?_,f,j.imp (fun q=>q) (h.has _)⟩;have:=h.hid v.seq t.seq;rw[<- c]at this;exact this.trans d
 ·obtain⟨d,f,j⟩:=a.k1 k;refine⟨by rw[h.own]; exact d,f,fun q=>j fun i x => ?_⟩;have n:=q i x
  rcases(P.n1 k).2.2 with e|e
  ·exfalso;have:B.up v.node 0=0:=e;have:=q 0 (by omega);rw[‹B.up v.node 0=0›,m.z]at this; cases this
  rw[h.up l m e i]at n
  rcases Ab.I9 l e i with e0|e0
  ·rw[e0,m.z]at n; cases n
  exact e0
 ·rw[h.R1 _ _ (P.n2 k) (.inl rfl)]; exact a.k2 k
 ·refine⟨(s _).trans (a.k3 k).1,fun y b => ?_⟩;rw[h.on l m (P.n3 k).1]at b;exact R_ ((a.k3 k).2 y b) (h.loc p (Ab.OG b))
 obtain⟨d,f,j⟩:=a.k4 k;have u:=(h.gh _ _ (P.n4 k)).2;refine⟨(s _).trans d,by rw[c,h.go,<- c]; exact f,fun y b => ?_⟩;rw[u 2 (by decide),h.on l m (l.g _ _ (P.n4 k))]at b;rw[u 3 (by decide),h.R1 _ _ (Ab.OG b) (.inr (.inl rfl)),h.R1 _ _ (Ab.OG b) (.inr (.inr (.inl rfl)))];exact j y b
end
end Rt
end
section
namespace Rt
section
variable {A B:Ab} {u v:EvM} {a:Nat} {x y:Int}
theorem Ab.Le.dl(h:A.Le B a)(f:A.Ok)(j:B.Ok)(i:A.Pre u)(y:Int)(p:Nat):B.dl u y p=A.dl u y p:=by
 unfold Ab.dl;by_cases d:u.kind=1
 ·rw[d_ d,d_ d]
 rw[b_ d,b_ d];by_cases e:u.kind=2
 ·rw[d_ e,d_ e]
 rw[b_ e,b_ e];by_cases c:u.kind=3
 ·rw[d_ c,d_ c,h.on f j (i.n3 c).1]
 rw[b_ c,b_ c];by_cases b:u.kind=4
 ·have k:=h.gh _ _ (i.n4 b);rw[d_ b,d_ b,k.2 2 (by decide),k.2 3 (by decide),h.on f j (f.g _ _ (i.n4 b))]
 rw[b_ b,b_ b]
theorem or_mono{p q c:Bool}(h:p=true->q=true)(a:(p || c)=true):(q || c)=true:=by
 cases c
 ·rw[H_]at a ⊢; exact h a
 rw[Bool.or_true]
theorem Ab.Le.both(h:A.Le B a)(f:A.Ok)(i:B.Ok)(n:A.Pre u)(w:B.Pre u):(A.rH u).Le (B.rH u) a:=by
 have m : ∀ y,(A.rH u).has y=true->A.has y=true\/(A.has y=false/\B.has y=false/\u.kind=1/\y=rP u):=fun y b=>by
  have b:(A.has y || (decide (u.kind=1)&&decide (y=rP u)))=true:=b
  cases hc:A.has y
  ·right;rw[hc,Bool.false_or,S_]at b;have k:=h_ b.1; have e:=h_ b.2;exact⟨rfl,e ▸ (w.n1 k).1,k,e⟩
  ·exact .inl rfl
 refine⟨fun j d=>or_mono (h.inn j) d,?_,?_,fun y b=>or_mono (h.has y) b,fun s x => ?_,fun y b => ?_,fun y p b v => ?_,fun y k b t => ?_,fun o r l=>⟨or_mono (fun q=>(h.gh o r q).1) l,fun j d => ?_⟩,fun r => ?_,fun r => ?_,fun r => ?_⟩
 ·show(B.left a || _)=(A.left a || _); rw[h.left]
 ·show B.own a+_=A.own a+_; rw[h.own]
 ·show(B.has _ || _)=(A.has _ || _); rw[h.hid s x]
 ·show(if u.kind=1/\y=rP u then u.node else B.par y)=(if u.kind=1/\y=rP u then u.node else A.par y)
  rcases m y b with q|⟨_,_,k,e⟩
  ·rw[h.par y q]
  rw[d_ ⟨k,e⟩,d_ ⟨k,e⟩]
 ·show B.R y p+B.dl u y p=A.R y p+A.dl u y p;rw[h.dl f i n]
  rcases m y b with q|⟨q1,q2,_,_⟩
  ·rw[h.R1 y p q v]
  rw[f.r0 y p q1,i.r0 y p q2]
 ·show A.R y _+A.dl u y _<=B.R y _+B.dl u y _;rw[h.dl f i n]
  rcases m y b with q|⟨q1,q2,_,_⟩
  ·have:=h.R2 y k q t; omega
  rw[f.r0 y _ q1,i.r0 y _ q2]; exact N_ _
 ·show(if u.kind=3/\o=u.o/\r=u.req then(if j=2 then u.node else if j=3 then u.aT else 0)else if u.kind=4/\o=u.o/\r=u.of/\j=4 then u.req else B.g o r j)=(if u.kind=3/\o=u.o/\r=u.req then(if j=2 then u.node else if j=3 then u.aT else 0)else if u.kind=4/\o=u.o/\r=u.of/\j=4 then u.req else A.g o r j);by_cases c:u.kind=3/\o=u.o/\r=u.req
  ·rw[d_ c,d_ c]
  rw[b_ c,b_ c,b_ (show ¬ (u.kind=4/\o=u.o/\r=u.of/\j=4)from fun q=>d q.2.2.2),b_ (show ¬ (u.kind=4/\o=u.o/\r=u.of/\j=4)from fun q=>d q.2.2.2)];have l:(A.gh o r || (decide (u.kind=3)&&(decide (o=u.o)&&decide (r=u.req))))=true:=l
  rcases Bool.or_eq_true_iff.1 l with q|q
  ·exact(h.gh o r q).2 j d
  rw[S_,S_]at q; exact M_ ⟨h_ q.1,h_ q.2.1,h_ q.2.2⟩ c
 ·show(B.gh _ r || _)=(A.gh _ r || _); rw[h.gho r]
 ·show(if u.kind=3/\(a:Int)+1=u.o/\r=u.req then(if 4=2 then u.node else if 4=3 then u.aT else 0)else if u.kind=4/\(a:Int)+1=u.o/\r=u.of/\4=4 then u.req else B.g _ r 4)=(if u.kind=3/\(a:Int)+1=u.o/\r=u.req then(if 4=2 then u.node else if 4=3 then u.aT else 0)else if u.kind=4/\(a:Int)+1=u.o/\r=u.of/\4=4 then u.req else A.g _ r 4);rw[h.go r]
 show(B.ask _ r || _)=(A.ask _ r || _); rw[h.ask r]
theorem Ab.afz(d:Nc u)(r:aV u≠a)(ha:a<6){p:Nat}(b:ajI a p)(y:Int):A.dl u y p=0:=by
 obtain⟨n,s⟩:=d.reg;have j:p≠aV u:=by rcases b with e|e|e|⟨k,hk,e⟩ <;> omega
 have l:p≠6+aV u:=by rcases b with e|e|e|⟨k,hk,e⟩ <;> omega
 have m:p≠12+aV u:=by rcases b with e|e|e|⟨k,hk,e⟩ <;> omega
 unfold Ab.dl;by_cases f:u.kind=1
 ·rw[d_ f,b_ fun q=>j q.2]
 rw[b_ f];by_cases g:u.kind=2
 ·rw[d_ g,b_ fun q=>j q.2]
 rw[b_ g];by_cases h:u.kind=3
 ·rw[d_ h,b_ fun q=>l q.2]
 rw[b_ h];by_cases i:u.kind=4
 ·rw[d_ i,b_ fun q=>m q.2]
 rw[b_ i];by_cases c:u.kind=5
 ·have o:=d.dst c;rw[d_ c,b_];rintro ⟨_,q⟩;unfold dV at q
  rcases b with e|e|e|⟨k,hk,e⟩ <;> omega
 rw[b_ c]
theorem Ab.ajJ(a:Nc u){p:Nat}(d:18<=p)(y:Int):0<=A.dl u y p:=by
 obtain⟨b,e⟩:=a.reg;have c:=a.aT;unfold Ab.dl;split
 ·split <;> omega
 split
 ·split <;> omega
 split
 ·split <;> omega
 split
 ·rw[b_ fun q=>by omega]; omega
 split
 ·split <;> omega
 omega
theorem Ab.Le.step(h:A.Le B a)(x:B.Ok)(c:Nc u)(m:B.Pre u)(e:aV u≠a)(ha:a<6):A.Le (B.rH u) a:=by
 obtain⟨w,z⟩:=c.reg;have no : ¬ (a:Int)+1=u.o:=by omega
 refine⟨fun j d => ?_,?_,?_,fun y b=>Ab.Ca (h.has y b),fun s f => ?_,fun y b=>(Ab.Qm m (h.has y b)).trans (h.par y b),fun y p b l => ?_,fun y k b v => ?_,fun o r t => ?_,fun r => ?_,fun r => ?_,fun r => ?_⟩
 ·show(B.inn j || _)=true; rw[h.inn j d]; rfl
 ·show(B.left a || (decide (u.kind=7)&&decide (a=aV u)))=A.left a;rw[g_ (show ¬ a=aV u from fun q=>e q.symm),I_,H_]; exact h.left
 ·show B.own a+(if u.kind=1/\a=aV u then 1 else 0)=A.own a;rw[b_ fun q=>e q.2.symm,D_]; exact h.own
 ·show(B.has _ || (decide (u.kind=1)&&decide (jF ((a:Int)+1) s=rP u)))=_;rw[g_ (show ¬ jF ((a:Int)+1) s=rP u from fun q=>by
   rw[c.id]at q; unfold jF at q; rw[d_ ⟨by omega,by omega,f.1,f.2⟩]at q; have:=c.seq; omega),I_,H_]
  exact h.hid s f
 ·show B.R y p+B.dl u y p=A.R y p;rw[Ab.afz c e ha l,D_]; exact h.R1 y p b l
 ·show A.R y _<=B.R y _+B.dl u y _;have:=h.R2 y k b v;have:=Ab.ajJ (A:=B) c (p:=18+(6*k+a)) (by omega) y;omega
 ·obtain⟨i,n⟩:=h.gh o r t;exact⟨Ab.afx i,fun j d=>(Ab.MH m i j d).trans (n j d)⟩
 ·show(B.gh _ r || (decide (u.kind=3)&&(decide ((a:Int)+1=u.o)&&decide (r=u.req))))=_;rw[g_ no,Bool.false_and,I_,H_]; exact h.gho r
 ·show(if u.kind=3/\(a:Int)+1=u.o/\r=u.req then(if 4=2 then u.node else if 4=3 then u.aT else 0)else if u.kind=4/\(a:Int)+1=u.o/\r=u.of/\4=4 then u.req else B.g _ r 4)=_;rw[b_ fun q=>no q.2.1,b_ fun q=>no q.2.1]; exact h.go r
 show(B.ask _ r || ((decide (u.kind=3) || decide (u.kind=4))&&(decide ((a:Int)+1=u.o)&&decide (r=u.req))))=_;rw[g_ no,Bool.false_and,I_,H_]; exact h.ask r
end
end Rt
end
section
namespace Rt
def wE(K:Nat->Int)(v:EvM):Bool:=decide (v.seq<=K (aO v))
def fZ(ev:Nat->EvM)(K:Nat->Int)(A0:Ab):Nat->Ab
 | 0=>A0
 | n+1=>if wE K (ev n)=true then(fZ ev K A0 n).rH (ev n)else fZ ev K A0 n
structure Evs(A0:Ab)(ev:Nat->EvM)(an:Nat):Prop where
 ok0:A0.Ok
 rd : ∀ k,k<an->dL (fP ev k) (ev k)=true
 g : ∀ k,k<an->Nc (ev k)
 dc : ∀ k,k<an->Kz ev an (ev k).deps
 tk : ∀ k,k<an->(fZ ev (ev k).deps A0 k).RU (ev k)
section
variable {A0:Ab} {ev:Nat->EvM} {an n m i j k:Nat} {K K1 K2:Nat->Int}
theorem nK{v:EvM}:wE K v=true<->v.seq<=K (aO v):=by unfold wE; exact P_
theorem Evs.seq(h:Evs A0 ev an)(a:k<an):(ev k).seq=fP ev k (aO (ev k))+1:=(DI (h.rd k a)).2.1
theorem Evs.mono(h:Evs A0 ev an)(a:j<an)(c:k<an)(e:aO (ev j)=aO (ev k))(b:j<k):(ev j).seq<(ev k).seq:=by
 rw[h.seq a,h.seq c];have:=EH (ev:=ev) b;rw[e]at this ⊢; omega
theorem Evs.uniq(h:Evs A0 ev an)(b:j<an)(c:k<an)(a:aO (ev j)=aO (ev k))(d:(ev j).seq=(ev k).seq):j=k:=by
 rcases Nat.lt_trichotomy j k with q|q|q
 ·have:=h.mono b c a q; omega
 ·exact q
 have:=h.mono c b a.symm q; omega
theorem Evs.ahead(h:Evs A0 ev an)(a:j<an)(b:k<an)(e:wE (ev k).deps (ev j)=true):j<k:=by
 have e:=nK.1 e;have d:=(DI (h.rd k b)).2.2 (aO (ev j)) (h.g j a).reg.2;rw[h.seq a]at e;by_cases c:j<k
 ·exact c
 have:=cnt_mono (ev:=ev) (i:=aO (ev j)) (show k<=j by omega); omega
theorem nC(e:wE K (ev n)=true):fZ ev K A0 (n+1)=(fZ ev K A0 n).rH (ev n):=by show(if _ then _ else _)=_; rw[d_ e]
theorem nL(e:wE K (ev n)=false):fZ ev K A0 (n+1)=fZ ev K A0 n:=by show(if _ then _ else _)=_; rw[b_ (by rw[e]; decide)]
theorem Kh(h:Evs A0 ev an)(a:Nat)(ha:a<6)(f : ∀ i,i<6->K1 i<=K2 i) : ∀ m,m<=an->(∀ i,i<=m->(fZ ev K1 A0 i).Ok)->(∀ i,i<=m->(fZ ev K2 A0 i).Ok)->(∀ i,i<m->wE K1 (ev i)=true->(fZ ev K1 A0 i).RU (ev i))->(∀ i,i<m->wE K2 (ev i)=true->(fZ ev K2 A0 i).RU (ev i)) ->
 (∀ i,i<m->aO (ev i)=a->wE K2 (ev i)=true->wE K1 (ev i)=true)->(fZ ev K1 A0 m).Le (fZ ev K2 A0 m) a
 | 0,_,_,_,_,_,_=>Ab.Le.refl _ _
 | m+1,hm,o1,o2,v1,v2,ho=>by
   have d:=Kh h a ha f m (by omega) (fun i c=>o1 i (by omega)) (fun i c=>o2 i (by omega)) (fun i c=>v1 i (by omega)) (fun i c=>v2 i (by omega)) (fun i c=>ho i (by omega))
   cases c1:wE K1 (ev m)with
   | true =>
     have b:wE K2 (ev m)=true:=nK.2 (R_ (nK.1 c1) (f _ (h.g m (by omega)).reg.2));rw[nC c1,nC b];exact d.both (o1 m (by omega)) (o2 m (by omega)) (v1 m (by omega) c1).pre (v2 m (by omega) b).pre
   | false =>
     rw[nL c1]
     cases b:wE K2 (ev m)with
     | true =>
       rw[nC b];exact d.step (o2 m (by omega)) (h.g m (by omega)) (v2 m (by omega) b).pre (fun e=>by have:=ho m (by omega) e b; rw[c1]at this; cases this) ha
     | false=>rw[nL b]; exact d
theorem vY(h:Evs A0 ev an) : ∀ n,n<=an -> ∀ K,Kz ev an K->(∀ i,i<=n->(fZ ev K A0 i).Ok) /\ ∀ i,i<n->wE K (ev i)=true->(fZ ev K A0 i).RU (ev i)
 | 0,_,K,_=>⟨fun i a=>(show i=0 by omega) ▸ h.ok0,fun i a=>M_ a (z_ _)⟩
 | n+1,hn,K,hc=>by
   obtain⟨o,v⟩:=vY h n (by omega) K hc;have f:wE K (ev n)=true->(fZ ev K A0 n).RU (ev n):=fun c=>by
    obtain⟨l,r⟩:=vY h n (by omega) (ev n).deps (h.dc n (by omega));have d:=h.g n (by omega);have p:=Kh h (aV (ev n)) d.reg.2 (hc.cl n (by omega) (nK.1 c)) n (by omega) l o r v (fun i a e t=>by
     have u:=h.mono (j:=i) (k:=n) (by omega) (by omega) e a;have b:=(DI (h.rd n (by omega))).1;refine nK.2 ?_;have m:(ev n).deps (aO (ev n))=(ev n).seq-1:=by
      unfold bR at b; simp only[S_,decide_eq_true_eq]at b; exact b.1.1.1.2
     rw[show aO (ev i)=aO (ev n)from e,m]; omega)
    exact p.okE (l n (A_ _)) (o n (A_ _)) d (h.tk n (by omega))
   have s : ∀ i,i<n+1->wE K (ev i)=true->(fZ ev K A0 i).RU (ev i):=fun i a e=>by
    by_cases q:i=n
    ·subst q; exact f e
    ·exact v i (by omega) e
   refine⟨fun i a => ?_,s⟩;by_cases q:i=n+1
   ·subst q
    cases c:wE K (ev n)with
    | true=>rw[nC c]; exact Ab.afy (o n (A_ _)) (f c).pre
    | false=>rw[nL c]; exact o n (A_ _)
   ·exact o i (by omega)
end
end Rt
end
section
namespace Rt
section
variable {A0:Ab} {ev:Nat->EvM} {an n m i j k:Nat} {K:Nat->Int}
theorem Dn(h:Evs A0 ev an)(a:j<an) : ∀ m,j<=m->m<=an->fZ ev (ev j).deps A0 m=fZ ev (ev j).deps A0 j
 | 0,h1,_=>by obtain rfl:j=0:=(by omega); rfl
 | m+1,h1,h2=>by
   by_cases e:j=m+1
   ·rw[e]
   ·have c:wE (ev j).deps (ev m)=false:=by
     cases q:wE (ev j).deps (ev m)with
     | true=>have:=h.ahead (show m<an by omega) a q; omega
     | false=>rfl
    rw[nL c];exact Dn h a m (by omega) (by omega)
theorem Xm{v:EvM}(h:bR v=true):v.deps (aO v)=v.seq-1:=by
 unfold bR at h; simp only[S_,decide_eq_true_eq]at h; exact h.1.1.1.2
theorem Ja(h:Evs A0 ev an)(l:Kz ev an K)(b:j<an)(hr:dL K (ev j)=true)(h1:j<=m)(a:m<=an):(fZ ev K A0 m).RU (ev j):=by
 obtain⟨f,q⟩:=vY h m a (ev j).deps (h.dc j b);obtain⟨o,v⟩:=vY h m a K l;obtain⟨n,s,p⟩:=DI hr;have c:=h.g j b;have d:=Kh h (aV (ev j)) c.reg.2 p m a f o q v (fun i r e k=>by
  refine nK.2 ?_;have:=nK.1 k;rw[show aO (ev i)=aO (ev j)from e]at this ⊢;rw[Xm n]; omega)
 rw[Dn h b m h1 a]at d;exact d.okE (by rw[<- Dn h b m h1 a]; exact f m (A_ _)) (o m (A_ _)) c (h.tk j b)
def Ki(K:Nat->Int)(v:EvM):Nat->Int:=aI K (aO v) (K (aO v)+1)
theorem Xn(h:Evs A0 ev an)(a:j<an)(hr:dL K (ev j)=true)(hi:i<an)(b:i≠j):wE (Ki K (ev j)) (ev i)=wE K (ev i):=by
 have d:=(DI hr).2.1;have:wE (Ki K (ev j)) (ev i)=true<->wE K (ev i)=true:=by
  rw[nK,nK];unfold Ki aI;split
  ·rename_i e;rw[e];constructor
   ·intro q;by_cases c:(ev i).seq<=K (aO (ev j))
    ·exact c
    ·exact M_ (h.uniq hi a e (by omega)) b
   ·intro q; omega
  ·exact Iff.rfl
 cases c1:wE (Ki K (ev j)) (ev i) <;> cases c2:wE K (ev i) <;> simp_all
theorem Gv(h:Evs A0 ev an)(a:j<an)(hr:dL K (ev j)=true) : ∀ m,m<=j->fZ ev (Ki K (ev j)) A0 m=fZ ev K A0 m
 | 0,_=>rfl
 | m+1,hm=>by
   have e:=Xn h a hr (show m<an by omega) (show m≠j by omega)
   cases c:wE K (ev m)with
   | true=>rw[nC (e.trans c),nC c,Gv h a hr m (by omega)]
   | false=>rw[nL (e.trans c),nL c,Gv h a hr m (by omega)]
theorem Jb(h:Evs A0 ev an)(b:Kz ev an K)(a:j<an)(hr:dL K (ev j)=true) : ∀ m,j<m->m<=an->fZ ev (Ki K (ev j)) A0 m=(fZ ev K A0 m).rH (ev j)
 | 0,h1,_=>M_ h1 (z_ _)
 | m+1,h1,h2=>by
   have r:=(DI hr).2.1;by_cases e:m=j
   ·subst e;have l:wE (Ki K (ev m)) (ev m)=true:=nK.2 (by unfold Ki aI; rw[d_ rfl]; omega);have n:wE K (ev m)=false:=by
     cases q:wE K (ev m)with
     | true=>have:=nK.1 q; omega
     | false=>rfl
    rw[nC l,nL n,Gv h a hr m (A_ _)]
   ·have k:=Jb h b a hr m (by omega) (by omega);have f:=Xn h a hr (show m<an by omega) e
    cases c:wE K (ev m)with
    | true =>
      obtain⟨o,v⟩:=vY h (m+1) h2 K b;rw[nC (f.trans c),nC c,k];have i:(ev j).o≠(ev m).o:=fun q=>by
       have d:aO (ev j)=aO (ev m):=(by unfold aO; rw[q]);have s:=h.mono a (show m<an by omega) d (by omega);have p:=nK.1 c;rw[<- d]at p; omega
      exact Ab.Xl (o m (by omega)) (Ja h b a hr (by omega) (by omega)).pre (v m (by omega) c).pre i (fun _ _=>Nc.ne (h.g j a) (h.g m (by omega)) i)
    | false=>rw[nL (f.trans c),nL c,k]
theorem aag(h:Evs A0 ev an)(b:Kz ev an K)(a:j<an)(hr:dL K (ev j)=true):fZ ev (Ki K (ev j)) A0 an=(fZ ev K A0 an).rH (ev j):=Jb h b a hr an a (A_ _)
end
end Rt
end
section
namespace Rt
def eY(m:dQ):Ab where
 inn:=m.inn
 left:=m.left
 own:=m.own
 has:=m.T.has
 par:=m.T.par
 R:=aY m
 gh:=jc m
 g:=fun o r j=>if jc m o r=true/\2<=j/\j<=4 then m.g (fF m o r) j else 0
 ask:=iD m
section
variable {m:dQ} {T:dS} {x y:Int} {v:EvM}
theorem Jc{x p:Nat->Int} : ∀ {n:Nat} {k:Int},dZ x n k=false->iO x p n k=0
 | 0,k,_=>rfl
 | n+1,k,h=>by
   have h:(dZ x n k || decide (x n=k))=false:=h;rw[Bool.or_eq_false_iff]at h;show(if x n=k then p n else iO x p n k)=0;rw[b_ (j_ h.2)];exact Jc h.1
def MI(T:dS)(x:Int):Nat->Int
 | 0=>x
 | i+1=>T.par (MI T x i)
theorem Gw(T:dS)(x:Int) : ∀ i,MI T x (i+1)=MI T (T.par x) i
 | 0=>rfl
 | i+1=>by show T.par (MI T x (i+1))=T.par (MI T (T.par x) i); rw[Gw T x i]
theorem RV(h:T.has x=false):T.path x = []:=by
 have : ¬ T.has x=true:=by rw[h]; decide
 cases e:T.path x with
 | nil=>rfl
 | cons a l=>exact M_ (show jO T.x T.p T.n 4 x = []from lK h) (by rw[show jO T.x T.p T.n 4 x=T.path x from rfl,e]; exact fun q=>by cases q)
theorem EN(g:T.ok) : ∀ n x,(T.path x).length<=n->(∀ i,i<(T.path x).length->(T.path x).getD i 0=MI T x i/\T.has (MI T x i)=true)/\T.has (MI T x (T.path x).length)=false
 | 0,x,hn=>by
   have e:T.path x = []:=List.length_eq_zero_iff.1 (by omega);rw[e];refine⟨fun i d=>M_ d (z_ _),?_⟩
   cases c:T.has (MI T x [].length)with
   | false=>rfl
   | true=>rw[dS.step g (show T.has x=true from c)]at e; cases e
 | n+1,x,hn=>by
   cases c:T.has x with
   | false =>
     rw[RV c];exact⟨fun i d=>M_ d (z_ _),c⟩
   | true =>
     have f:=dS.step g c;have k:(T.path x).length=(T.path (T.par x)).length+1:=(by rw[f]; rfl);obtain⟨h,j⟩:=EN g n (T.par x) (by omega);refine⟨fun i d => ?_,by rw[k,Gw]; exact j⟩
     cases i with
     | zero=>rw[f]; exact⟨rfl,c⟩
     | succ i =>
       rw[Gw];obtain⟨a,b⟩:=h i (by omega);refine⟨?_,b⟩;rw[f];exact a
theorem Gx(m:dQ)(x:Int) : ∀ i,(eY m).up x i=MI m.T x i
 | 0=>rfl
 | i+1=>by show m.T.par ((eY m).up x i)=m.T.par (MI m.T x i); rw[Gx m x i]
theorem MJ(a:T.ok){k:Nat}(h:T.has (MI T x k)=false) : ∀ i,k<=i->T.has (MI T x i)=false
 | 0,hi=>by obtain rfl:k=0:=(by omega); exact h
 | i+1,hi=>by
   by_cases e:k=i+1
   ·rw[<- e]; exact h
   ·have:=MJ a h i (by omega);have b:T.par (MI T x i)=0:=Jc this;show T.has (T.par (MI T x i))=false;rw[b]; exact Ce.Yn a
theorem Dp(j:m.T.ok)(x y:Int):(eY m).on x y=true<->y∈m.T.path x:=by
 obtain⟨h,n⟩:=EN j _ x (A_ _);have o:=dS.zG (T:=m.T) (k:=x);unfold Ab.on;rw[S_,List.any_eq_true,List.mem_iff_getElem];constructor
 ·rintro ⟨l,i,d,e⟩;have e:=h_ e;rw[Gx]at e;have f:i<(m.T.path x).length:=by
   by_cases c:i<(m.T.path x).length
   ·exact c
   ·have:=MJ j n i (by omega);rw[e]at this;rw[show(eY m).has y=m.T.has y from rfl,this]at l; cases l
  refine⟨i,f,?_⟩;have:=(h i f).1;rw[r_,o_ f]at this;exact this.trans e
 rintro ⟨i,d,e⟩;obtain⟨a,b⟩:=h i d;rw[r_,o_ d]at a;have g:MI m.T x i=y:=a.symm.trans e;refine⟨by rw[<- g]; exact b,i,O_.2 (by omega),f_ (by rw[Gx]; exact g)⟩
end
end Rt
end
section
namespace Rt
theorem zJ{x:Nat->Int}{n:Int}{b:Bool}{a:Int}{off:Nat}(h:(cZ x n b a off).2=0):may x=true/\1<=n/\n<=1125899906842624/\b=true/\a=0/\x off+n<=1125899906842624/\(cZ x n b a off).1=upd x off (x off+n):=by
 rcases oI x n b a off with ⟨_,c,_⟩|⟨⟨hm,h1,c,hr,he,hx⟩,heq⟩
 ·exact M_ h c
 exact⟨hm,h1,c,hr,he,hx,by rw[heq]⟩
section
variable {m:dQ} {x y:Int} {v:EvM}
theorem Gy(b:m.T.ok){k:Int}(d:m.T.has k=true)(r:Nat->Int)(y:Int):aY (CZ m k r) y=if y=k then r else aY m y:=by
 unfold aY;show(if m.T.has y=true then aQ m.R (m.idx k) r (m.idx y)else Gi)=_;by_cases e:y=k
 ·subst e; rw[d_ d,d_ rfl]; unfold aQ; rw[d_ rfl]
 rw[b_ e];by_cases c:m.T.has y=true
 ·rw[d_ c,d_ c];unfold aQ;rw[b_]
  ·rfl
  intro q;have a:=(dQ.DW b c).2;rw[q,(dQ.DW b d).2]at a;exact e a.symm
 rw[b_ c,b_ c]
open Classical in
theorem Kj(a:m.T.ok)(f:(Nat->Int)->(Nat->Int) × Int)(x y:Int):aY (qo m f (m.T.path x)) y=if y∈m.T.path x then(f (aY m y)).1 else aY m y:=by
 unfold aY;show(if m.T.has y=true then(if m.T.x (m.idx y)∈m.T.path x then(f (m.R (m.idx y))).1 else m.R (m.idx y))else Gi)=_;by_cases c:m.T.has y=true
 ·rw[d_ c,d_ c,(dQ.DW a c).2]; rfl
 rw[b_ c,b_ c,b_ fun q=>c (dS.oL a rfl y q)]
theorem zK(b:m.T.ok){f:(Nat->Int)->(Nat->Int) × Int}(h:dB m f (m.T.path x)=0)(hy:y∈m.T.path x):(f (aY m y)).2=0:=by
 obtain⟨i,a,e⟩:=List.getElem_of_mem hy;have:=Gf h i a;rw[r_,o_ a]at this;rw[<- e];unfold aY;rw[d_ (dS.oL b rfl _ (Q_ a))];exact this
theorem Gz(h:bR v=true):v.o=(aV v:Int)+1/\aV v<6/\v.o.toNat-1=aV v:=by
 have:=oJ h; unfold aV; omega
theorem Kk{x:Nat->Int}{off:Nat}{n:Int}(p:Nat):upd x off (x off+n) p=x p+if p=off then n else 0:=by
 unfold upd;by_cases e:p=off
 ·subst e; rw[d_ rfl,d_ rfl]
 rw[b_ e,b_ e,D_]
theorem afA(f:m.T.ok)(k:bR v=true)(j:v.kind=1)(a:jy m v=0)(y:Int)(p:Nat):aY (DR m v) y p=aY m y p+(eY m).dl v y p:=by
 have d:m.T.has (oq v)=false:=by
  unfold jy at a;split at a
  ·cases a
  ·exact(Fa a).2.1
 have h:rP v=oq v:=su k;unfold Ab.dl;rw[d_ j,h];unfold aY;show(if(m.T.put (oq v) v.node).has y=true then aQ m.R m.T.n (upd (fun _=>0) (aO v) v.aT) (zV (aQ m.T.x m.T.n (oq v)) (m.T.n+1) y)else Gi) p=_;rw[dS.jS];by_cases e:oq v=y
 ·subst e;rw[f_ rfl,Bool.or_true,d_ rfl,d,b_ (by decide),Mq _ _ _ (fun i g e=>by have:=dS.Aj g; rw[e,d]at this; cases this)]
  unfold aQ;rw[d_ rfl];show upd (fun _=>0) (aO v) v.aT p=0+_;unfold upd;rw[Int.zero_add];by_cases c:p=aO v
  ·rw[d_ c,d_ ⟨rfl,c⟩]
  rw[b_ c,b_ (fun q=>c q.2)]
 rw[g_ e,H_,b_ (show ¬ (y=oq v/\p=aV v)from fun q=>e q.1.symm),D_];by_cases c:m.T.has y=true
 ·rw[d_ c,d_ c,Mr _ _ e];have b:=(dQ.DW f c).1;have b:zV m.T.x m.T.n y<m.T.n:=b;unfold aQ;rw[b_ (by omega)];rfl
 rw[b_ c,b_ c]
theorem aah(f:m.T.ok)(g:bR v=true)(d:v.kind=2)(a:jT m v=0)(y:Int)(p:Nat):aY (vk m v) y p=aY m y p+(eY m).dl v y p:=by
 have b:m.T.has v.node=true:=by
  unfold jT at a
  cases c:m.T.has v.node with
  | true=>rfl
  | false=>rw[d_ c]at a; cases a
 unfold Ab.dl;rw[b_ (by rw[d]; decide),d_ d];unfold vk;rw[Gy f b];by_cases e:y=v.node
 ·subst e;rw[d_ rfl,Kk];unfold aY;rw[d_ b];show m.R (m.idx v.node) p+(if p=aO v then v.aT else 0)=m.R (m.idx v.node) p+_;by_cases c:p=aO v
  ·rw[d_ c,d_ ⟨rfl,c⟩]
  rw[b_ c,b_ (fun q=>c q.2)]
 rw[b_ e,b_ (fun q=>e q.1),D_]
theorem afB(j:m.T.ok)(z:bR v=true)(f:v.kind=5)(d:kX m v=0)(y:Int)(p:Nat):aY (DK m v) y p=aY m y p+(eY m).dl v y p:=by
 have g:m.T.has v.node=true/\(tO m v).2=0:=by
  unfold kX at d
  cases c:m.T.has v.node with
  | true =>
    rw[b_ (by rw[c]; decide)]at d;split at d
    ·cases d
    ·exact⟨rfl,d⟩
  | false=>rw[d_ c]at d; cases d
 obtain⟨a,b,s,t,w,x,u,l,n,o,r,k⟩:=BK g.2;have h:aV v=a:=by unfold aV; omega
 have i:dV v=b:=by unfold dV; omega
 unfold Ab.dl;rw[b_ (by rw[f]; decide),b_ (by rw[f]; decide),b_ (by rw[f]; decide),b_ (by rw[f]; decide),d_ f,h,i];unfold DK;rw[Gy j g.1];by_cases e:y=v.node
 ·subst e;rw[d_ rfl];unfold tO;rw[k,Kk];unfold aY;rw[d_ g.1];show m.R (m.idx v.node) p+(if p=18+a*6+b then v.aT else 0)=m.R (m.idx v.node) p+_;by_cases c:p=18+a*6+b
  ·rw[d_ c,d_ ⟨rfl,by omega⟩]
  rw[b_ c,b_ (fun q=>c (by omega))]
 rw[b_ e,b_ (fun q=>e q.1),D_]
theorem Xo(a:m.T.ok){f:(Nat->Int)->(Nat->Int) × Int}{x:Int}{n:Int}{off:Nat}(b : ∀ y,y∈m.T.path x->(f (aY m y)).1=upd (aY m y) off (aY m y off+n))(y:Int)(p:Nat):aY (qo m f (m.T.path x)) y p=aY m y p+if(eY m).on x y=true/\p=off then n else 0:=by
 rw[Kj a];by_cases c:y∈m.T.path x
 ·rw[d_ c,b y c,Kk];by_cases e:p=off
  ·rw[d_ e,d_ ⟨(Dp a x y).2 c,e⟩]
  rw[b_ e,b_ (fun q=>e q.2)]
 rw[b_ c,b_ (fun q=>c ((Dp a x y).1 q.1)),D_]
theorem afC(d:m.T.ok)(g:bR v=true)(b:v.kind=3)(a:kI m v=0)(y:Int)(p:Nat):aY (kY m v) y p=aY m y p+(eY m).dl v y p:=by
 have e:dB m (fun x=>bG x v.o v.aT) (m.T.path v.node)=0:=by
  unfold kI at a;split at a
  ·cases a
  split at a
  ·cases a
  exact a
 unfold Ab.dl;rw[b_ (by rw[b]; decide),b_ (by rw[b]; decide),d_ b];refine Xo d (f:=fun x=>bG x v.o v.aT) (x:=v.node) (fun y h => ?_) y p;have c:(bG (aY m y) v.o v.aT).2=0:=zK d e h;unfold bG at c;show(bG (aY m y) v.o v.aT).1=_;unfold bG;rw[(zJ c).2.2.2.2.2.2,(Gz g).2.2]
theorem afD(i:m.T.ok)(l:bR v=true)(b:v.kind=4)(a:jK m v=0)(y:Int)(p:Nat):aY (iR m v) y p=aY m y p+(eY m).dl v y p:=by
 have d:jc m v.o v.of=true/\dB m (fun x=>bI x v.o (m.g (fF m v.o v.of) 3)) (m.T.path (m.g (fF m v.o v.of) 2))=0:=by
  unfold jK at a;split at a
  ·cases a
  split at a
  ·cases a
  rename_i c;refine⟨?_,a⟩
  cases e:jc m v.o v.of with
  | true=>rfl
  | false=>exact M_ (.inl e) c
 have j:(eY m).g v.o v.of 2=m.g (fF m v.o v.of) 2:=d_ ⟨d.1,by decide,by decide⟩;have k:(eY m).g v.o v.of 3=m.g (fF m v.o v.of) 3:=d_ ⟨d.1,by decide,by decide⟩;unfold Ab.dl;rw[b_ (by rw[b]; decide),b_ (by rw[b]; decide),b_ (by rw[b]; decide),d_ b,j,k];refine Xo i (f:=fun x=>bI x v.o (m.g (fF m v.o v.of) 3)) (x:=m.g (fF m v.o v.of) 2) (fun y n => ?_) y p;have h:(bI (aY m y) v.o (m.g (fF m v.o v.of) 3)).2=0:=zK i d.2 n;unfold bI at h;show(bI (aY m y) v.o (m.g (fF m v.o v.of) 3)).1=_;unfold bI;rw[(zJ h).2.2.2.2.2.2,(Gz l).2.2]
theorem MK{m':dQ}(a:m'.an=m.an+1)(b:m'.ao=aQ m.ao m.an v.o)(c:m'.ar=aQ m.ar m.an v.req)(o r:Int):iD m' o r=(iD m o r || (decide (o=v.o)&&decide (r=v.req))):=by
 have:iD m' o r=true<->(iD m o r=true\/(v.o=o/\v.req=r)):=by unfold iD; rw[a,b,c]; exact Gl
 rw[Bool.eq_iff_iff,this,Bool.or_eq_true,S_,P_,P_];exact⟨fun h=>h.imp id fun q=>⟨q.1.symm,q.2.symm⟩,fun h=>h.imp id fun q=>⟨q.1.symm,q.2.symm⟩⟩
theorem Xp{k1 k2:Nat->Int}{n:Nat}{a b o r:Int}(h : ¬ (a=o/\b=r)):xG (aQ k1 n a) (aQ k2 n b) (n+1) o r=xG k1 k2 n o r:=by
 have d : ∀ k,k<=n->xG (aQ k1 n a) (aQ k2 n b) k o r=xG k1 k2 k o r:=fun k=>by
  induction k with
  | zero=>intro _; rfl
  | succ k ih =>
    intro e;show(if aQ k1 n a k=o/\aQ k2 n b k=r then k else _)=(if k1 k=o/\k2 k=r then k else _);rw[ih (by omega)];have c : ¬ k=n:=(by omega);rw[show aQ k1 n a k=k1 k from b_ c,show aQ k2 n b k=k2 k from b_ c]
 show(if aQ k1 n a n=o/\aQ k2 n b n=r then n else xG (aQ k1 n a) (aQ k2 n b) n o r)=_;rw[d n (A_ _)];rw[show aQ k1 n a n=a from d_ rfl,show aQ k2 n b n=b from d_ rfl,b_ h]
theorem Xq{k1 k2:Nat->Int}{n:Nat}{a b:Int}:xG (aQ k1 n a) (aQ k2 n b) (n+1) a b=n:=by
 show(if aQ k1 n a n=a/\aQ k2 n b n=b then n else _)=_;unfold aQ;rw[d_ ⟨d_ rfl,d_ rfl⟩]
theorem zL(g:Nat->Nat->Int)(n:Nat)(r:Nat->Int)(j:Nat):(fun i=>aQ g n r i j)=aQ (fun i=>g i j) n (r j):=by
 funext i; unfold aQ; split <;> rfl
end
end Rt
end
section
namespace Rt
section
variable {m:dQ} {x y:Int} {v:EvM}
theorem jL{b c:Bool}(h:c=false):b=(b || c):=by rw[h,H_]
theorem KE{k:Int}(h:v.kind≠k){c:Bool}:(decide (v.kind=k)&&c)=false:=by rw[g_ h]; rfl
theorem Xr(i:m.T.ok)(e:bR v=true)(a:v.kind=1)(h:jy m v=0):eY (DR m v)=(eY m).rH v:=by
 have d:rP v=oq v:=su e;have b:v.kind≠3:=by rw[a]; decide
 have f:v.kind≠4:=by rw[a]; decide
 have k:v.kind≠6:=by rw[a]; decide
 have l:v.kind≠7:=by rw[a]; decide
 apply Ab.RS
 ·funext j; exact jL (KE k)
 ·funext j; exact jL (KE l)
 ·funext j
  show aI m.own (aO v) (m.own (aO v)+1) j=m.own j+if v.kind=1/\j=aV v then 1 else 0;unfold aI;by_cases c:j=aO v
  ·rw[d_ c,d_ ⟨a,c⟩,c]
  rw[b_ c,b_ (fun q=>c q.2),D_]
 ·funext y
  show(m.T.put (oq v) v.node).has y=(m.T.has y || (decide (v.kind=1)&&decide (y=rP v)));rw[dS.jS,d,f_ a,Bool.true_and]
  congr 1
  exact decide_eq_decide.2 ⟨Eq.symm,Eq.symm⟩
 ·funext y
  show(m.T.put (oq v) v.node).par y=if v.kind=1/\y=rP v then v.node else m.T.par y;rw[dS.uE,d];by_cases c:oq v=y
  ·rw[d_ c,d_ ⟨a,c.symm⟩]
  rw[b_ c,b_ (fun q=>c q.2.symm)]
 ·funext y p; exact afA i e a h y p
 ·funext o r; exact jL (KE b)
 ·funext o r j
  show(eY m).g o r j=if v.kind=3/\_ then _ else if v.kind=4/\_ then _ else _;rw[b_ (fun q=>b q.1),b_ (fun q=>f q.1)]
 funext o r
 show iD m o r=(iD m o r || ((decide (v.kind=3) || decide (v.kind=4))&&_));rw[g_ b,g_ f];exact jL rfl
theorem ML{m':dQ}(e:m'.inn=m.inn)(f:m'.left=m.left)(h:m'.own=m.own)(c:m'.T=m.T)(i : ∀ o r,jc m' o r=jc m o r)(k:(eY m').g=(eY m).g)(l : ∀ o r,iD m' o r=iD m o r)(a:v.kind≠1)(b:v.kind≠3)(d:v.kind≠4)(s:v.kind≠6)(t:v.kind≠7)
 (n : ∀ y p,aY m' y p=aY m y p+(eY m).dl v y p):eY m'=(eY m).rH v:=by
 apply Ab.RS
 ·funext j; rw[show(eY m').inn j=m.inn j from congrFun e j]; exact jL (KE s)
 ·funext j; rw[show(eY m').left j=m.left j from congrFun f j]; exact jL (KE t)
 ·funext j
  rw[show(eY m').own j=m.own j from congrFun h j];show m.own j=m.own j+if v.kind=1/\j=aV v then 1 else 0;rw[b_ (fun q=>a q.1),D_]
 ·funext y; rw[show(eY m').has y=m.T.has y from by rw[<- c]; rfl]; exact jL (KE a)
 ·funext y
  rw[show(eY m').par y=m.T.par y from by rw[<- c]; rfl];show _=if v.kind=1/\y=rP v then v.node else m.T.par y;rw[b_ (fun q=>a q.1)]
 ·funext y p; exact n y p
 ·funext o r; rw[show(eY m').gh o r=jc m o r from i o r]; exact jL (KE b)
 ·funext o r j
  rw[k];show(eY m).g o r j=if v.kind=3/\_ then _ else if v.kind=4/\_ then _ else _;rw[b_ (fun q=>b q.1),b_ (fun q=>d q.1)]
 funext o r
 rw[show(eY m').ask o r=iD m o r from l o r];show iD m o r=(iD m o r || ((decide (v.kind=3) || decide (v.kind=4))&&_));rw[g_ b,g_ d];exact jL rfl
theorem RX(c:m.T.ok)(d:bR v=true)(a:v.kind=2)(b:jT m v=0):eY (vk m v)=(eY m).rH v :=
 ML rfl rfl rfl rfl (fun _ _=>rfl) rfl (fun _ _=>rfl) (by rw[a]; decide) (by rw[a]; decide) (by rw[a]; decide) (by rw[a]; decide) (by rw[a]; decide) (aah c d a b)
theorem Xt(c:m.T.ok)(d:bR v=true)(a:v.kind=5)(b:kX m v=0):eY (DK m v)=(eY m).rH v :=
 ML rfl rfl rfl rfl (fun _ _=>rfl) rfl (fun _ _=>rfl) (by rw[a]; decide) (by rw[a]; decide) (by rw[a]; decide) (by rw[a]; decide) (by rw[a]; decide) (afB c d a b)
theorem Kl{k1 k2:Nat->Int}{a b:Int} : ∀ {n:Nat},BU k1 k2 n a b=true->xG k1 k2 n a b<n
 | 0,h=>by cases h
 | n+1,h=>by
   unfold xG;by_cases c:k1 n=a/\k2 n=b
   ·rw[d_ c]; omega
   ·rw[b_ c];obtain⟨j,g,d,f⟩:=lY.1 h;by_cases e:j=n
    ·subst e; exact M_ ⟨d,f⟩ c
    ·have:=Kl (tT (show j<n by omega) d f); omega
theorem aai(h1:v.kind≠1)(a:v.kind≠2)(b:v.kind≠3)(c:v.kind≠4)(d:v.kind≠5)(A:Ab)(y:Int)(p:Nat):A.dl v y p=0:=by
 unfold Ab.dl;rw[b_ h1,b_ a,b_ b,b_ c,b_ d]
theorem Jd{A B:Ab}(h1:v.kind≠1)(n:v.kind≠2)(a:v.kind≠3)(b:v.kind≠4)(s:v.kind≠5)(c : ∀ j,B.inn j=(A.inn j || (decide (v.kind=6)&&decide (j=dV v))))(d : ∀ j,B.left j=(A.left j || (decide (v.kind=7)&&decide (j=aV v))))(e:B.own=A.own)(f:B.has=A.has)(h:B.par=A.par)(i:B.R=A.R)(k:B.gh=A.gh)(l:B.g=A.g)(m:B.ask=A.ask):B=A.rH v:=by
 apply Ab.RS
 ·funext j; exact c j
 ·funext j; exact d j
 ·funext j; rw[e]; show A.own j=A.own j+if v.kind=1/\j=aV v then 1 else 0; rw[b_ (fun q=>h1 q.1),D_]
 ·funext y; rw[f]; exact jL (KE h1)
 ·funext y; rw[h]; show _=if v.kind=1/\y=rP v then v.node else A.par y; rw[b_ (fun q=>h1 q.1)]
 ·funext y p; rw[i]; show _=A.R y p+A.dl v y p; rw[aai h1 n a b s,D_]
 ·funext o r; rw[k]; exact jL (KE a)
 ·funext o r j
  rw[l];show A.g o r j=if v.kind=3/\_ then _ else if v.kind=4/\_ then _ else _;rw[b_ (fun q=>a q.1),b_ (fun q=>b q.1)]
 funext o r
 rw[m];show A.ask o r=(A.ask o r || ((decide (v.kind=3) || decide (v.kind=4))&&_));rw[g_ a,g_ b];exact jL rfl
theorem MN{f:Nat->Bool}{k j:Nat}{c:Bool}(a:c=true):aI f k true j=(f j || (c&&decide (j=k))):=by
 rw[a,Bool.true_and];unfold aI;by_cases e:j=k
 ·rw[d_ e,f_ e,Bool.or_true]
 rw[b_ e,g_ e,H_]
theorem Xu(a:v.kind=6):eY (IQ m v)=(eY m).rH v :=
 Jd (by rw[a]; decide) (by rw[a]; decide) (by rw[a]; decide) (by rw[a]; decide) (by rw[a]; decide) (fun j=>MN (f_ a)) (fun j=>jL (KE (by rw[a]; decide))) rfl rfl rfl rfl rfl rfl rfl
theorem RY(a:v.kind=7):eY (C8 m v)=(eY m).rH v :=
 Jd (by rw[a]; decide) (by rw[a]; decide) (by rw[a]; decide) (by rw[a]; decide) (by rw[a]; decide) (fun j=>jL (KE (by rw[a]; decide))) (fun j=>MN (k:=aO v) (f_ a)) rfl rfl rfl rfl rfl rfl rfl
theorem Xv(z:m.T.ok)(A:RH m)(u:bR v=true)(b:v.kind=3)(k:kI m v=0):eY (kY m v)=(eY m).rH v:=by
 have G:rP v=oq v:=su u;have n:v.kind≠1:=by rw[b]; decide
 have C:v.kind≠4:=by rw[b]; decide
 have D:v.kind≠6:=by rw[b]; decide
 have E:v.kind≠7:=by rw[b]; decide
 have B:iD m v.o v.req=false:=by
  unfold kI at k
  cases c:iD m v.o v.req with
  | false=>rfl
  | true=>rw[d_ c]at k; cases k
 have F:jc m v.o v.req=false:=qA fun i t e=>by
  have:=A i t;rw[e.1,e.2,B]at this; cases this
 have s : ∀ o r,jc (kY m v) o r=(jc m o r || (decide (o=v.o)&&decide (r=v.req))):=fun o r=>by
  have d:=zL m.g m.gn (pz v) 0;have f:=zL m.g m.gn (pz v) 1;have:jc (kY m v) o r=true<->(jc m o r=true\/(v.o=o/\v.req=r)):=by
   show BU (fun i=>aQ m.g m.gn (pz v) i 0) (fun i=>aQ m.g m.gn (pz v) i 1) (m.gn+1) o r=true<->_;rw[d,f]; exact Gl
  rw[Bool.eq_iff_iff,this,Bool.or_eq_true,S_,P_,P_];exact⟨fun h=>h.imp id fun q=>⟨q.1.symm,q.2.symm⟩,fun h=>h.imp id fun q=>⟨q.1.symm,q.2.symm⟩⟩
 have x : ∀ o r,fF (kY m v) o r=xG (aQ (fun i=>m.g i 0) m.gn v.o) (aQ (fun i=>m.g i 1) m.gn v.req) (m.gn+1) o r:=fun o r=>by
  have d:=zL m.g m.gn (pz v) 0;have f:=zL m.g m.gn (pz v) 1;show xG (fun i=>aQ m.g m.gn (pz v) i 0) (fun i=>aQ m.g m.gn (pz v) i 1) (m.gn+1) o r=_;rw[d,f]; rfl
 apply Ab.RS
 ·funext j; exact jL (KE D)
 ·funext j; exact jL (KE E)
 ·funext j
  show m.own j=m.own j+if v.kind=1/\j=aV v then 1 else 0;rw[b_ (fun q=>n q.1),D_]
 ·funext y; exact jL (KE n)
 ·funext y
  show m.T.par y=if v.kind=1/\y=rP v then v.node else m.T.par y;rw[b_ (fun q=>n q.1)]
 ·funext y p; exact afC z u b k y p
 ·funext o r
  show jc (kY m v) o r=(jc m o r || (decide (v.kind=3)&&(decide (o=v.o)&&decide (r=v.req))));rw[s,f_ b,Bool.true_and]
 ·funext o r j
  show(if jc (kY m v) o r=true/\2<=j/\j<=4 then(kY m v).g (fF (kY m v) o r) j else 0)=if v.kind=3/\o=v.o/\r=v.req then(if j=2 then v.node else if j=3 then v.aT else 0)else if v.kind=4/\_ then _ else(if jc m o r=true/\2<=j/\j<=4 then m.g (fF m o r) j else 0);rw[s,x];by_cases c:o=v.o/\r=v.req
  ·rw[d_ (show v.kind=3/\o=v.o/\r=v.req from⟨b,c⟩),c.1,c.2,Xq,f_ (rfl:v.o=v.o),f_ (rfl:v.req=v.req),Bool.and_self,Bool.or_true];show(if true=true/\2<=j/\j<=4 then aQ m.g m.gn (pz v) m.gn j else 0)=_;rw[show aQ m.g m.gn (pz v) m.gn=pz v from d_ rfl];by_cases a:j=2
   ·rw[d_ a,a,d_ ⟨rfl,by decide,by decide⟩]; rfl
   rw[b_ a];by_cases l:j=3
   ·rw[d_ l,l,d_ ⟨rfl,by decide,by decide⟩]; rfl
   rw[b_ l];by_cases w:j=4
   ·rw[w,d_ ⟨rfl,by decide,by decide⟩]; rfl
   rw[b_ (by omega)]
  rw[b_ (show ¬ (v.kind=3/\o=v.o/\r=v.req)from fun q=>c q.2),b_ (show ¬ (v.kind=4/\o=v.o/\r=v.of/\j=4)from fun q=>C q.1),Xp (fun q=>c ⟨q.1.symm,q.2.symm⟩)];have:(decide (o=v.o)&&decide (r=v.req))=false:=by
   cases e:(decide (o=v.o)&&decide (r=v.req))with
   | false=>rfl
   | true=>rw[S_,P_,P_]at e; exact M_ e c
  rw[this,H_];by_cases a:jc m o r=true/\2<=j/\j<=4
  ·rw[d_ a,d_ a];obtain⟨i,t,d,f⟩:=lY.1 a.1;have:xG (fun i=>m.g i 0) (fun i=>m.g i 1) m.gn o r<m.gn:=Kl a.1;show aQ m.g m.gn (pz v) _ j=_;unfold aQ;rw[b_ (by omega)];rfl
  rw[b_ a,b_ a]
 funext o r
 show iD (kY m v) o r=(iD m o r || ((decide (v.kind=3) || decide (v.kind=4))&&(decide (o=v.o)&&decide (r=v.req))));rw[f_ b,Bool.true_or,Bool.true_and];exact MK rfl rfl rfl o r
theorem GA{k1 k2:Nat->Int}{a b:Int} : ∀ {n:Nat},BU k1 k2 n a b=true->k1 (xG k1 k2 n a b)=a/\k2 (xG k1 k2 n a b)=b
 | 0,h=>by cases h
 | n+1,h=>by
   unfold xG;by_cases c:k1 n=a/\k2 n=b
   ·rw[d_ c]; exact c
   ·rw[b_ c];obtain⟨j,g,d,f⟩:=lY.1 h;by_cases e:j=n
    ·subst e; exact M_ ⟨d,f⟩ c
    ·exact GA (tT (show j<n by omega) d f)
theorem Xw(G:m.T.ok)(J:bR v=true)(a:v.kind=4)(b:jK m v=0):eY (iR m v)=(eY m).rH v:=by
 have k:v.kind≠1:=by rw[a]; decide
 have x:v.kind≠3:=by rw[a]; decide
 have K:v.kind≠6:=by rw[a]; decide
 have L:v.kind≠7:=by rw[a]; decide
 have f:jc m v.o v.of=true:=by
  unfold jK at b;split at b
  ·cases b
  split at b
  ·cases b
  rename_i c
  cases e:jc m v.o v.of with
  | true=>rfl
  | false=>exact M_ (.inl e) c
 have M:fF m v.o v.of<m.gn:=Kl f;have h : ∀ i j,j≠4->aQ m.g (fF m v.o v.of) (upd (m.g (fF m v.o v.of)) 4 v.req) i j=m.g i j:=fun i j H=>by
  unfold aQ;by_cases c:i=fF m v.o v.of
  ·rw[d_ c,c]; unfold upd; rw[b_ H]
  ·rw[b_ c]
 have n:(fun i=>(iR m v).g i 0)=fun i=>m.g i 0:=by funext i; exact h i 0 (by decide)
 have s:(fun i=>(iR m v).g i 1)=fun i=>m.g i 1:=by funext i; exact h i 1 (by decide)
 have w : ∀ o r,jc (iR m v) o r=jc m o r:=fun o r=>by
  show BU (fun i=>(iR m v).g i 0) (fun i=>(iR m v).g i 1) m.gn o r=_;rw[n,s]; rfl
 have F : ∀ o r,fF (iR m v) o r=fF m o r:=fun o r=>by
  show xG (fun i=>(iR m v).g i 0) (fun i=>(iR m v).g i 1) m.gn o r=_;rw[n,s]; rfl
 apply Ab.RS
 ·funext j; exact jL (KE K)
 ·funext j; exact jL (KE L)
 ·funext j
  show m.own j=m.own j+if v.kind=1/\j=aV v then 1 else 0;rw[b_ (fun q=>k q.1),D_]
 ·funext y; exact jL (KE k)
 ·funext y
  show m.T.par y=if v.kind=1/\y=rP v then v.node else m.T.par y;rw[b_ (fun q=>k q.1)]
 ·funext y p; exact afD G J a b y p
 ·funext o r
  show jc (iR m v) o r=(jc m o r || (decide (v.kind=3)&&_));rw[w]; exact jL (KE x)
 ·funext o r j
  show(if jc (iR m v) o r=true/\2<=j/\j<=4 then(iR m v).g (fF (iR m v) o r) j else 0)=if v.kind=3/\o=v.o/\r=v.req then _ else if v.kind=4/\o=v.o/\r=v.of/\j=4 then v.req else(if jc m o r=true/\2<=j/\j<=4 then m.g (fF m o r) j else 0);rw[w,F,b_ (show ¬ (v.kind=3/\o=v.o/\r=v.req)from fun q=>x q.1)];show(if jc m o r=true/\2<=j/\j<=4 then aQ m.g (fF m v.o v.of) (upd (m.g (fF m v.o v.of)) 4 v.req) (fF m o r) j else 0)=_;by_cases c:v.kind=4/\o=v.o/\r=v.of/\j=4
  ·rw[d_ c,c.2.1,c.2.2.1,c.2.2.2,d_ ⟨f,by decide,by decide⟩];unfold aQ upd; rw[d_ rfl,d_ rfl]
  rw[b_ c];by_cases d:jc m o r=true/\2<=j/\j<=4
  ·rw[d_ d,d_ d];by_cases l:j=4
   ·have I:fF m o r≠fF m v.o v.of:=fun e=>c ⟨a,by
     obtain⟨z,A⟩:=GA d.1;obtain⟨B,C⟩:=GA f;have t:m.g (fF m o r) 0=o:=z;have D:m.g (fF m v.o v.of) 0=v.o:=B;have u:m.g (fF m o r) 1=r:=A;have E:m.g (fF m v.o v.of) 1=v.of:=C;rw[e]at t u;exact⟨t.symm.trans D,u.symm.trans E,l⟩⟩
    unfold aQ; rw[b_ I]
   exact h _ j l
  rw[b_ d,b_ d]
 funext o r
 show iD (iR m v) o r=(iD m o r || ((decide (v.kind=3) || decide (v.kind=4))&&(decide (o=v.o)&&decide (r=v.req))));rw[f_ a,Bool.or_true,Bool.true_and];exact MK rfl rfl rfl o r
theorem Xx(c:m.T.ok)(j:RH m)(b:bR v=true)(a:fM m v=0):eY (jh m v)=(eY m).rH v:=by
 have k:=jE b;unfold fM at a;unfold jh;by_cases d:v.kind=1
 ·rw[d_ d]at a ⊢; exact Xr c b d a
 rw[b_ d]at a ⊢;by_cases e:v.kind=2
 ·rw[d_ e]at a ⊢; exact RX c b e a
 rw[b_ e]at a ⊢;by_cases f:v.kind=3
 ·rw[d_ f]at a ⊢; exact Xv c j b f a
 rw[b_ f]at a ⊢;by_cases g:v.kind=4
 ·rw[d_ g]at a ⊢; exact Xw c b g a
 rw[b_ g]at a ⊢;by_cases h:v.kind=5
 ·rw[d_ h]at a ⊢; exact Xt c b h a
 rw[b_ h]at a ⊢;by_cases i:v.kind=6
 ·rw[d_ i]; exact Xu i
 rw[b_ i]; exact RY (by omega)
theorem RZ(c:m.T.ok)(d:RH m)(a:cK m v=0):eY (ji m v)=(eY m).rH v:=by
 have b:=Xx c d (qL a) (qM a).2.1;unfold ji;rw[d_ a];exact b
end
end Rt
end
section
namespace Rt
structure Ab.Sm(A:Ab)(N:Nat):Prop where
 r : ∀ y p,A.R y p<=65536*N
 g : ∀ o r,A.gh o r=true->1<=A.g o r 3/\A.g o r 3<=65536
structure Sn(m:dQ):Prop where
 n:(m.T.n:Int)=m.own 0+m.own 1+m.own 2+m.own 3+m.own 4+m.own 5
 o : ∀ a,a<6->m.own a<=5
section
variable {A:Ab} {m:dQ} {L:eP} {N S:Nat} {x y:Int} {v:EvM}
theorem Ab.Sm.dl(m:A.Sm S)(l:A.Pre v)(k:v.aT<=65536)(y:Int)(p:Nat):A.dl v y p<=65536:=by
 have b:=k;have a : ∀ {c:Prop} [Decidable c] {n:Int},n<=65536->(if c then n else 0)<=65536:=fun {c} _ {n} h=>by split <;> omega
 unfold Ab.dl;by_cases e:v.kind=1
 ·rw[d_ e]; exact a b
 rw[b_ e];by_cases f:v.kind=2
 ·rw[d_ f]; exact a b
 rw[b_ f];by_cases i:v.kind=3
 ·rw[d_ i]; exact a b
 rw[b_ i];by_cases d:v.kind=4
 ·rw[d_ d]; exact a (m.g _ _ (l.n4 d)).2
 rw[b_ d];by_cases j:v.kind=5
 ·rw[d_ j]; exact a b
 rw[b_ j]; decide
theorem Ab.Sm.rH(b:A.Sm S)(f:A.Pre v)(h:bR v=true)(d:v.aT<=65536):(A.rH v).Sm (S+1) where
 r:=fun y p=>by
  have i:=b.r y p;have j:=b.dl f d y p;show A.R y p+A.dl v y p<=_;omega
 g:=fun o r a=>by
  have a:(A.gh o r || (decide (v.kind=3)&&(decide (o=v.o)&&decide (r=v.req))))=true:=a;by_cases c:v.kind=3/\o=v.o/\r=v.req
  ·have:(A.rH v).g o r 3=v.aT:=(by show(if v.kind=3/\o=v.o/\r=v.req then _ else _)=v.aT; rw[d_ c]; rfl);rw[this]; exact⟨(lV h (.inr (.inl c.1))).1,d⟩
  ·have e:A.gh o r=true:=by
    rcases Bool.or_eq_true_iff.1 a with q|q
    ·exact q
    ·rw[S_,S_]at q; exact M_ ⟨h_ q.1,h_ q.2.1,h_ q.2.2⟩ c
   rw[Ab.MH f e 3 (by decide)];exact b.g o r e
theorem Sn.row{m':dQ}(h:Sn m)(a:m'.T=m.T)(b:m'.own=m.own):Sn m':=by
 cases m'; cases m; cases a; cases b; exact⟨h.n,h.o⟩
theorem Sn.does(h:Sn m)(l:bR v=true)(b:fM m v=0):Sn (jh m v):=by
 unfold fM at b;unfold jh;by_cases c:v.kind=1
 ·rw[d_ c]at b ⊢;have q:m.own (aO v)<5:=by
   unfold jy at b;split at b
   ·cases b
   ·omega
  have r:=kH l;have p:=h.n;refine⟨?_,fun a k => ?_⟩
  ·show((m.T.n+1:Nat):Int)=aI m.own (aO v) (m.own (aO v)+1) 0+aI m.own (aO v) (m.own (aO v)+1) 1+aI m.own (aO v) (m.own (aO v)+1) 2+aI m.own (aO v) (m.own (aO v)+1) 3+aI m.own (aO v) (m.own (aO v)+1) 4+aI m.own (aO v) (m.own (aO v)+1) 5;unfold aI
   rcases(show aO v=0\/aO v=1\/aO v=2\/aO v=3\/aO v=4\/aO v=5 by omega)with e|e|e|e|e|e <;> rw[e] <;> simp <;> omega
  show aI m.own (aO v) (m.own (aO v)+1) a<=5;have:=h.o a k;unfold aI; split <;> omega
 rw[b_ c];by_cases d:v.kind=2
 ·rw[d_ d]; exact h.row rfl rfl
 rw[b_ d];by_cases f:v.kind=3
 ·rw[d_ f]; exact h.row rfl rfl
 rw[b_ f];by_cases g:v.kind=4
 ·rw[d_ g]; exact h.row rfl rfl
 rw[b_ g];by_cases i:v.kind=5
 ·rw[d_ i]; exact h.row rfl rfl
 rw[b_ i];by_cases j:v.kind=6
 ·rw[d_ j]; exact h.row rfl rfl
 rw[b_ j]; exact h.row rfl rfl
theorem Sn.apply(h:Sn m):Sn (ji m v):=by
 unfold ji;by_cases c:cK m v=0
 ·rw[d_ c]; exact(h.does (qL c) (qM c).2.1).row rfl rfl
 rw[b_ c]; exact h
theorem abC(x:Nat->Int)(a:Nat):Rt.L x a=Dm x a:=by
 have e : ∀ i,R x a i=x (18+(6*a+i)):=fun i=>by unfold R; congr 1; omega
 have b:R x 0 a=x (18+(6*0+a)):=by unfold R; congr 1; omega
 have c:R x 1 a=x (18+(6*1+a)):=by unfold R; congr 1; omega
 have d:R x 2 a=x (18+(6*2+a)):=by unfold R; congr 1; omega
 have f:R x 3 a=x (18+(6*3+a)):=by unfold R; congr 1; omega
 have g:R x 4 a=x (18+(6*4+a)):=by unfold R; congr 1; omega
 have h:R x 5 a=x (18+(6*5+a)):=by unfold R; congr 1; omega
 unfold Rt.L Dm;rw[e,e,e,e,e,e,b,c,d,f,g,h];unfold G C F;omega
theorem Dq{x:Nat->Int}(h:may x=true)(b:bR v=true):gF x v.o=Dm x (aV v):=by
 obtain⟨e,a,_⟩:=Gz b;rw[e,oG h _ a,abC]
theorem za{x:Nat->Int}{n:Int}{b:Bool}{a:Int}{off:Nat}(h1:may x=true)(c:1<=n)(d:n<=1125899906842624)(e:b=true)(f:a=0)(g:x off+n<=1125899906842624):(cZ x n b a off).2=0:=by
 rcases oI x n b a off with ⟨_,_,h⟩|⟨_,h⟩
 ·exact M_ ⟨h1,c,d,e,f,g⟩ h
 rw[h]
theorem DZ{f:(Nat->Int)->(Nat->Int) × Int}{r:Nat->Nat->Int} : ∀ {n:Nat},(∀ i,i<n->(f (r i)).2=0)->jY f r n=0
 | 0,_=>rfl
 | n+1,h=>Df (DZ fun i a=>h i (by omega)) (h n (by omega))
theorem GD(c:m.T.ok){f:(Nat->Int)->(Nat->Int) × Int}{x:Int}(h : ∀ y,y∈m.T.path x->(f (aY m y)).2=0):dB m f (m.T.path x)=0 :=
 DZ fun i a=>by
  have b:(m.T.path x).getD i 0∈m.T.path x:=by
   rw[r_,o_ a]; exact Q_ a
  have:=h _ b;unfold aY at this;rw[d_ (dS.oL c rfl _ b)]at this;exact this
theorem A9(h:bR v=true)(b:v.kind=5):1<=v.dst/\v.dst<=6/\v.dst≠v.o:=by
 unfold bR at h;simp only[S_]at h;have a:=h.2;unfold dJ at a;rw[b_ (by omega),b_ (by omega),b_ (by omega),b_ (by omega),d_ b,S_]at a;have:=a.2;unfold mW jl at this;simp at this;omega
theorem aaj(a:bR v=true):iC v.o=true:=by have:=oJ a; unfold iC; simp; omega
end
structure Tw(m:dQ)(L:eP)(N S:Nat):Prop where
 t:Dl m L N
 w:Sn m
 s:(eY m).Sm S
 b:S<=1000000
section
variable {m:dQ} {L:eP} {N S:Nat} {x y:Int} {v:EvM}
theorem Dl.may(h:Dl m L N)(hy:m.T.has y=true):may (aY m y)=true:=by
 obtain⟨i,a,e⟩:=(h.s.T.has y).1 hy;unfold aY;rw[d_ hy,<- e,h.s.row i a];exact h.i.may i a
theorem Tw.cell(h:Tw m L N S)(y:Int)(p:Nat):aY m y p<=65536000000:=by
 have:=h.s.r y p;have a:=h.b;show(eY m).R y p<=_;omega
theorem Tw.make(h:Tw m L N S)(s:bR v=true)(k:v.kind=1)(j:(eY m).RU v):jy m v=0:=by
 obtain⟨a,b,c⟩:=j.pre.n1 k;obtain⟨d,e,f⟩:=j.k1 k;have r:rP v=oq v:=su s;rw[r]at a b;unfold jy;have d:m.own (aO v)<5:=d;rw[b_ (show ¬ (5<=m.own (aO v)\/140737488355328<v.aT) by omega)];show rU m.T.x m.T.p m.T.n (oq v) v.node=0;unfold rU;have a:dZ m.T.x m.T.n (oq v)=false:=a;rw[b_ b,b_ (by rw[a]; decide)];rw[b_ (show ¬ (¬ v.node=0/\dZ m.T.x m.T.n v.node=false)from fun q=>by
  rcases c with c|c
  ·exact q.1 c
  ·have c:dZ m.T.x m.T.n v.node=true:=c;rw[q.2]at c; cases c)]
 rw[b_];rintro (q|q)
 ·have y:=h.w.n;have g:=h.w.o;have:=g 0 (by decide); have:=g 1 (by decide); have:=g 2 (by decide); have:=g 3 (by decide); have:=g 4 (by decide); have:=g 5 (by decide);omega
 obtain⟨u,_⟩:=EN h.t.t _ v.node (A_ _);exact f fun i l=>by
  rw[Gx];exact(u i (n_ l q)).2
theorem Tw.make'(h:Tw m L N S)(k:bR v=true)(o:v.kind=1)(a:jy m v=0):(rP v≠0/\(eY m).has (rP v)=false/\(v.node=0\/(eY m).has v.node=true))/\(eY m).own (aV v)<5/\v.aT<=140737488355328 /\ ¬ ∀ i,i<4->(eY m).has ((eY m).up v.node i)=true:=by
 have j:rP v=oq v:=su k;unfold jy at a;by_cases c:5<=m.own (aO v)\/140737488355328<v.aT
 ·rw[d_ c]at a; cases a
 rw[b_ c]at a;obtain⟨d,e,f,n,g⟩:=Fa a;rw[j];refine⟨⟨d,e,f⟩,?_,by omega,fun q => ?_⟩
 ·show m.own (aO v)<5;omega
 obtain⟨_,l⟩:=EN h.t.t _ v.node (A_ _);have:=q _ (show(m.T.path v.node).length<4 from g);rw[Gx]at this;have b:m.T.has (MI m.T v.node (m.T.path v.node).length)=true:=this;rw[l]at b; cases b
theorem Tw.does(h:Tw m L N S)(c:bR v=true)(I:v.aT<=65536)(j:(eY m).RU v):fM m v=0:=by
 have k:=h.t.t;have P:=j.pre;have D:=aaj c;have G : ∀ y p n,n<=65536->aY m y p+n<=1125899906842624:=fun y p n U=>by have:=h.cell y p; omega
 unfold fM;by_cases E:v.kind=1
 ·rw[d_ E]; exact h.make c E j
 rw[b_ E];by_cases A:v.kind=2
 ·rw[d_ A];have a:m.T.has v.node=true:=P.n2 A;have:=j.k2 A;have e:(eY m).R v.node (aV v)=m.R (m.idx v.node) (aO v):=by
   show aY m v.node (aV v)=_;unfold aY; rw[d_ a]; rfl
  rw[e]at this;unfold jT;rw[b_ (by rw[a]; decide),b_ (by omega)]
 rw[b_ A];by_cases w:v.kind=3
 ·rw[d_ w];have a:m.T.has v.node=true:=(P.n3 w).1;obtain⟨b,i⟩:=j.k3 w;have b:iD m v.o v.req=false:=b;have r:=lV c (.inr (.inl w));unfold kI;rw[b_ (by rw[b]; decide),b_ (by rw[a]; decide)];refine GD (f:=fun x=>bG x v.o v.aT) k fun y u => ?_;have d:=h.t.may (dS.oL k rfl y u);have:=i y ((Dp k _ y).2 u);have this:v.aT<=Dm (aY m y) (aV v):=this;refine za d r.1 r.2 D ?_ (G y _ _ I);unfold qE;rw[Dq d c,g_ (by omega)]; rfl
 rw[b_ w];by_cases z:v.kind=4
 ·rw[d_ z];have a:jc m v.o v.of=true:=P.n4 z;obtain⟨b,i,J⟩:=j.k4 z;have b:iD m v.o v.req=false:=b;have K:(eY m).g v.o v.of 2=m.g (fF m v.o v.of) 2:=d_ ⟨a,by decide,by decide⟩;have H:(eY m).g v.o v.of 3=m.g (fF m v.o v.of) 3:=d_ ⟨a,by decide,by decide⟩;have M:(eY m).g v.o v.of 4=m.g (fF m v.o v.of) 4:=d_ ⟨a,by decide,by decide⟩;have B:=h.s.g _ _ (P.n4 z);rw[K,H]at J;rw[H]at B;rw[M]at i;unfold jK;rw[b_ (by rw[b]; decide),b_ (show ¬ (jc m v.o v.of=false\/m.g (fF m v.o v.of) 4≠0)from fun q=>q.elim (fun q=>by rw[a]at q; cases q) (fun q=>q i))]
  refine GD (f:=fun x=>bI x v.o (m.g (fF m v.o v.of) 3)) k fun y u => ?_;have d:=h.t.may (dS.oL k rfl y u);have:=J y ((Dp k _ y).2 u);have this:m.g (fF m v.o v.of) 3<=aY m y (6+aV v)-aY m y (12+aV v):=this;refine za d B.1 (by omega) D ?_ (G y _ _ B.2);unfold qF C F;rw[(Gz c).2.2,g_ (by omega)]; rfl
 rw[b_ z];by_cases l:v.kind=5
 ·rw[d_ l];have a:m.T.has v.node=true:=P.n5 l;obtain⟨b,i⟩:=j.k5 l;have b:m.inn (v.dst-1).toNat=true:=b;have i:v.aT<=Dm (aY m v.node) (aV v):=i;have r:=lV c (.inr (.inr l));have d:=h.t.may a;have O:aY m v.node=m.R (m.idx v.node):=by unfold aY; rw[d_ a]; rfl
  have Q:=A9 c l;unfold kX;rw[b_ (by rw[a]; decide),b_ (by rw[b]; decide)];show(dz (m.R (m.idx v.node)) v.o v.dst v.aT).2=0;rw[<- O];refine za d r.1 r.2 (by rw[D,show iC v.dst=true by unfold iC; simp; omega]; rfl) ?_ (G _ _ _ I);unfold nW;rw[b_ (fun e=>Q.2.2 e.symm),Dq d c,g_ (by omega)]; rfl
 rw[b_ l];split <;> rfl
theorem Tw.okE(h:Tw m L N S)(D:bR v=true)(h1:m.inn (aO v)=true)(p:m.left (aO v)=false)(d:fM m v=0):(eY m).RU v:=by
 have B:=h.t.t;unfold fM at d;have no : ∀ {k:Int} {P:Prop},v.kind≠k->v.kind=k->P:=fun a b=>M_ b a;by_cases r:v.kind=1
 ·rw[d_ r]at d;obtain⟨⟨H,I,J⟩,b⟩:=h.make' D r d;have n : ∀ {k:Int} {P:Prop},k≠1->v.kind=k->P:=fun a b=>M_ (b.symm.trans r) a;exact⟨h1,p,⟨fun _=>⟨I,H,J⟩,n (by decide),n (by decide),n (by decide),n (by decide)⟩,fun _=>b,n (by decide),n (by decide),n (by decide),n (by decide)⟩
 rw[b_ r]at d;by_cases w:v.kind=2
 ·rw[d_ w]at d;have n : ∀ {k:Int} {P:Prop},k≠2->v.kind=k->P:=fun a b=>M_ (b.symm.trans w) a;unfold jT at d
  cases f:m.T.has v.node with
  | false=>rw[d_ f]at d; cases d
  | true =>
    rw[b_ (by rw[f]; decide)]at d;have e:(eY m).R v.node (aV v)=m.R (m.idx v.node) (aO v):=by
     show aY m v.node (aV v)=_;unfold aY; rw[d_ f]; rfl
    refine⟨h1,p,⟨n (by decide),fun _=>f,n (by decide),n (by decide),n (by decide)⟩,n (by decide),fun _ => ?_,n (by decide),n (by decide),n (by decide)⟩;rw[e];by_cases c:140737488355328<m.R (m.idx v.node) (aO v)+v.aT
    ·rw[d_ c]at d; cases d
    ·omega
 rw[b_ w]at d;by_cases x:v.kind=3
 ·rw[d_ x]at d;have n : ∀ {k:Int} {P:Prop},k≠3->v.kind=k->P:=fun a b=>M_ (b.symm.trans x) a;unfold kI at d
  cases c1:iD m v.o v.req with
  | true=>rw[d_ c1]at d; cases d
  | false =>
    rw[b_ (by rw[c1]; decide)]at d
    cases f:m.T.has v.node with
    | false=>rw[d_ f]at d; cases d
    | true =>
      rw[b_ (by rw[f]; decide)]at d;have W:jc m v.o v.req=false:=qA fun i u e=>by
       have:=h.t.s.ga i u;rw[e.1,e.2,c1]at this; cases this
      refine⟨h1,p,⟨n (by decide),n (by decide),fun _=>⟨f,W⟩,n (by decide),n (by decide)⟩,n (by decide),n (by decide),fun _=>⟨c1,fun y l => ?_⟩,n (by decide),n (by decide)⟩;have l:=(Dp B _ y).1 l;have q:(bG (aY m y) v.o v.aT).2=0:=zK B d l;unfold bG at q;have G:=zJ q;have j:=G.2.2.2.2.1;unfold qE at j;rw[Dq G.1 D]at j;show v.aT<=Dm (aY m y) (aV v);by_cases c:Dm (aY m y) (aV v)<v.aT
      ·rw[f_ c]at j; cases j
      ·omega
 rw[b_ x]at d;by_cases z:v.kind=4
 ·rw[d_ z]at d;have n : ∀ {k:Int} {P:Prop},k≠4->v.kind=k->P:=fun a b=>M_ (b.symm.trans z) a;unfold jK at d
  cases c1:iD m v.o v.req with
  | true=>rw[d_ c1]at d; cases d
  | false =>
    rw[b_ (by rw[c1]; decide)]at d;by_cases A:jc m v.o v.of=false\/m.g (fF m v.o v.of) 4≠0
    ·rw[d_ A]at d; cases d
    ·rw[b_ A]at d;have f:jc m v.o v.of=true:=by
      cases e:jc m v.o v.of with
      | true=>rfl
      | false=>exact M_ (.inl e) A
     have U:m.g (fF m v.o v.of) 4=0:=Classical.byContradiction fun q=>A (.inr q);have K:(eY m).g v.o v.of 2=m.g (fF m v.o v.of) 2:=d_ ⟨f,by decide,by decide⟩;have M:(eY m).g v.o v.of 3=m.g (fF m v.o v.of) 3:=d_ ⟨f,by decide,by decide⟩;have O:(eY m).g v.o v.of 4=m.g (fF m v.o v.of) 4:=d_ ⟨f,by decide,by decide⟩;refine⟨h1,p,⟨n (by decide),n (by decide),n (by decide),fun _=>f,n (by decide)⟩,n (by decide),n (by decide),n (by decide),fun _=>⟨c1,O.trans U,fun y l => ?_⟩,n (by decide)⟩;rw[K]at l;rw[M];have l:=(Dp B _ y).1 l;have q:(bI (aY m y) v.o (m.g (fF m v.o v.of) 3)).2=0:=zK B d l;unfold bI at q;have G:=zJ q;have j:=G.2.2.2.2.1;unfold qF C F at j;rw[(Gz D).2.2]at j;show m.g (fF m v.o v.of) 3<=aY m y (6+aV v)-aY m y (12+aV v);by_cases c:aY m y (6+aV v)-aY m y (12+aV v)<m.g (fF m v.o v.of) 3
     ·rw[f_ c]at j; cases j
     ·omega
 rw[b_ z]at d;by_cases E:v.kind=5
 ·rw[d_ E]at d;have n : ∀ {k:Int} {P:Prop},k≠5->v.kind=k->P:=fun a b=>M_ (b.symm.trans E) a;unfold kX at d
  cases f:m.T.has v.node with
  | false=>rw[d_ f]at d; cases d
  | true =>
    rw[b_ (by rw[f]; decide)]at d
    cases u:m.inn (v.dst-1).toNat with
    | false=>rw[d_ u]at d; cases d
    | true =>
      rw[b_ (by rw[u]; decide)]at d;have hm:=h.t.may f;have Q:aY m v.node=m.R (m.idx v.node):=(by unfold aY; rw[d_ f]; rfl);obtain⟨a,b,ha,hb,hne,ho,hd,X,Y,V,hM,heq⟩:=BK d;refine⟨h1,p,⟨n (by decide),n (by decide),n (by decide),n (by decide),fun _=>f⟩,n (by decide),n (by decide),n (by decide),n (by decide),fun _=>⟨u,?_⟩⟩;show v.aT<=Dm (aY m v.node) (aV v);rw[Q,<- abC,show aV v=a by unfold aV; omega];exact V
 have Z:=jE D;exact⟨h1,p,⟨no r,no w,no x,no z,no E⟩,no r,no w,no x,no z,no E⟩
theorem aak{K:Nat->Int}(h:dL K v=true):lN K v=false:=by
 obtain⟨a,b,c⟩:=DI h;unfold lN;rw[g_ (show ¬ v.seq<=K (v.o-1).toNat by have b:v.seq=K (v.o-1).toNat+1:=b; omega),I_]
theorem Tw.check(h:Tw m L N S)(i:v.aT<=65536)(hr:dL m.known v=true):cK m v=0<->(eY m).RU v:=by
 have f:=(DI hr).1;constructor
 ·intro g;obtain⟨a,b,c,d⟩:=qM g;exact h.okE f c d b
 intro e;unfold cK;rw[b_ (by rw[f]; decide),b_ (by rw[aak hr]; decide),b_ (by rw[hr]; decide),b_,h.does f i e];rintro (q|q)
 ·have:=e.inn; rw[show(eY m).inn (aV v)=m.inn (aO v)from rfl,q]at this; cases this
 have:=e.left; rw[show(eY m).left (aV v)=m.left (aO v)from rfl,q]at this; cases this
end
end Rt
end
section
namespace Rt
def Xy(k:Nat):Ab:=eY (yt k 0 0 0 0 0 0)
structure Ws(k:Nat)(ev:Nat->EvM)(an:Nat):Prop extends Evs (Xy k) ev an where
 sm : ∀ i,i<an->sw (ev i)
 an:an<=1000
structure tV(k:Nat)(ev:Nat->EvM)(an:Nat)(L:eP):Prop where
 ex : ∃ m N,Dl m L N/\Sn m/\eY m=fZ ev L.known (Xy k) an
 kc:Kz ev an L.known
section
variable {ev ev':Nat->EvM} {an n k i j:Nat} {K:Nat->Int} {L L':eP} {v:EvM} {m:dQ} {N S:Nat} {A:Ab}
theorem afE(h:bR v=true):Nc v:=by
 have a:=oJ h;refine⟨⟨a.1,a.2.1⟩,a.2.2,?_,fun d=>⟨(A9 h d).1,(A9 h d).2.1⟩⟩;have i:=jE h;by_cases g:v.kind=2\/v.kind=3\/v.kind=5
 ·have:=(lV h g).1; omega
 have c:tF v=true:=by unfold bR at h; simp only[S_]at h; exact h.1.2
 have b:dJ v=true:=by unfold bR at h; simp only[S_]at h; exact h.2
 by_cases f:v.kind=1
 ·unfold dJ at b;rw[d_ f]at b;simp at b;omega
 have e:v.aT=(lM v).aT:=by unfold tF at c; simp only[S_,decide_eq_true_eq]at c; exact c.1.1.2
 rw[e];unfold lM;rw[b_ f,b_ (by omega),b_ (by omega)];split
 ·exact N_ _
 rw[b_ (by omega)];split <;> exact N_ _
theorem afF(k:Nat):(Xy k).Ok:=⟨rfl,fun _ h=>(nomatch h),fun _ _=>rfl,fun _ _ h=>(nomatch h),fun _ _ _=>rfl⟩
theorem afG(k:Nat):(Xy k).Sm 0:=⟨fun _ _=>N_ _,fun _ _ h=>(nomatch h)⟩
theorem ow0(k:Nat):Sn (yt k 0 0 0 0 0 0):=⟨rfl,fun _ _=>by show(0:Int)<=5; decide⟩
theorem Ab.Sm.mono{S':Nat}(h:A.Sm S)(a:S<=S'):A.Sm S':=⟨fun y p=>by have:=h.r y p; omega,h.g⟩
theorem Evs.cz(h:Evs A ev an):Cz 6 an ev (fun _=>fP ev an) where
 rd:=h.rd
 reg:=fun k a=>(h.g k a).reg.2
 own:=fun _ _=>rfl
 kc:=fun _ _=>⟨fun _ _=>N_ _,fun k a _ i b=>R_ ((DI (h.rd k a)).2.2 i b) (cnt_mono (by omega))⟩
theorem Ws.fsm(W:Ws k ev an)(a:Kz ev an K) : ∀ n,n<=an->(fZ ev K (Xy k) n).Sm n
 | 0,_=>afG k
 | n+1,hn=>by
   have b:=W.fsm a n (by omega)
   cases c:wE K (ev n)with
   | true =>
     rw[nC c];exact b.rH ((vY W.toEvs (n+1) hn K a).2 n (by omega) c).pre (DI (W.rd n (by omega))).1 (W.sm n (by omega)).aT
   | false=>rw[nL c]; exact b.mono (by omega)
theorem tV.tw(h:tV k ev an L)(W:Ws k ev an) : ∃ m N,Tw m L N an/\eY m=fZ ev L.known (Xy k) an:=by
 obtain⟨m,N,b,c,a⟩:=h.ex;exact⟨m,N,⟨b,c,by rw[a]; exact W.fsm h.kc an (A_ _),by have:=W.an; omega⟩,a⟩
theorem tV.ready(h:tV k ev an L)(W:Ws k ev an)(c:j<an)(hr:dL L.known (ev j)=true):bA L (ev j)=0:=by
 obtain⟨m,N,a,d⟩:=h.tw W;have b:=Ja W.toEvs h.kc c hr (show j<=an by omega) (A_ _);rw[<- d]at b;rw[<- (a.t.s.apply a.t.t a.t.i (ev j)).1];exact(a.check (W.sm j c).aT (by rw[a.t.s.known]; exact hr)).2 b
theorem tV.apply(h:tV k ev an L)(W:Ws k ev an)(b:j<an):tV k ev an (bT L (ev j)):=by
 rcases oK L (ev j)with ⟨c,e⟩|⟨c,e⟩
 ·have d:=iU c;obtain⟨m,N,a,f,g⟩:=h.ex;have l:cK m (ev j)=0:=(a.s.apply a.t a.i (ev j)).1.trans c;refine⟨⟨ji m (ev j),N+1,a.apply (ev j),f.apply,?_⟩,by rw[e]; exact W.toEvs.cz.step h.kc b d⟩;rw[RZ a.t a.s.ga l,g,e];exact(aag W.toEvs h.kc b d).symm
 rw[e]; exact h
theorem tV.pass(W:Ws k ev an){a:Nat->Int}(h:tV k ev an L) : ∀ j,j<=an->tV k ev an (nY ev a L j)
 | 0,_=>h
 | j+1,hj=>by
   unfold nY;split
   ·exact(h.pass W j (by omega)).apply W (by omega)
   ·exact h.pass W j (by omega)
theorem tV.iK(W:Ws k ev an){a:Nat->Int} : ∀ f L,tV k ev an L->tV k ev an (iK ev an a f L)
 | 0,L,hL=>by unfold Rt.iK; exact hL
 | f+1,L,hL=>by
   unfold Rt.iK;split
   ·exact hL.pass W an (A_ _)
   ·exact tV.iK W f _ (hL.pass W an (A_ _))
theorem tV.new(k:Nat)(ev:Nat->EvM)(an:Nat)(a : ∀ i,i<an->1<=(ev i).seq)(f:Nat):tV k ev an (jP k f).core:=by
 have d : ∀ n,n<=an->fZ ev (fun _=>0) (Xy k) n=Xy k:=fun n=>by
  induction n with
  | zero=>intro _; rfl
  | succ n ih =>
    intro h;have c:wE (fun _=>0) (ev n)=false:=g_ (show ¬ (ev n).seq<=0 by have:=a n (by omega); omega);rw[nL c]; exact ih (by omega)
 exact⟨⟨yt k 0 0 0 0 0 0,0,Dl.new k,ow0 k,(d an (A_ _)).symm⟩,fun i b=>F6 an i,fun i b e j g=>M_ (show(ev i).seq<=0 from e) (by have:=a i b; omega)⟩
theorem Dr(h : ∀ i,i<n->ev' i=ev i):fZ ev' K A n=fZ ev K A n:=by
 induction n with
 | zero=>rfl
 | succ n ih =>
   show(if wE K (ev' n)=true then(fZ ev' K A n).rH (ev' n)else fZ ev' K A n)=_;rw[ih fun i a=>h i (by omega),h n (by omega)]; rfl
theorem xI{v:EvM} : ∀ i,i<an->aI ev an v i=ev i:=fun i a=>b_ (by omega)
theorem vo{v:EvM}:aI ev an v an=v:=d_ rfl
theorem Kz.more(h:Kz ev an K)(g:bR v=true)(l:v.seq=fP ev an (aO v)+1):Kz (aI ev an v) (an+1) K/\wE K v=false:=by
 have c : ¬ v.seq<=K (aO v):=by have:=h.le _ (kH g); omega
 refine⟨⟨fun i b => ?_,fun i b a j f => ?_⟩,g_ c⟩
 ·have:=h.le i b;have d:=cnt_mono (ev:=aI ev an v) (j:=an) (k:=an+1) (i:=i) (by omega);rw[BO an (A_ _)]at d;omega
 by_cases e:i=an
 ·rw[e,vo]at a; exact M_ a c
 rw[xI i (by omega)]at a ⊢;exact h.cl i (by omega) a j f
theorem tV.more(h:tV k ev an L)(g:bR v=true)(f:v.seq=fP ev an (aO v)+1):tV k (aI ev an v) (an+1) L:=by
 obtain⟨m,N,c,d,e⟩:=h.ex;obtain⟨a,b⟩:=h.kc.more g f;refine⟨⟨m,N,c,d,?_⟩,a⟩;rw[nL (by rw[vo]; exact b),Dr xI];exact e
theorem Ws.more(W:Ws k ev an)(h:tV k ev an L)(u:an<1000)(p:sw v)(n:bA L v=0)(d:v.deps=L.known)(f:v.seq=fP ev an (aO v)+1):Ws k (aI ev an v) (an+1):=by
 have o:=iU n;have c:=(DI o).1;have q : ∀ j,j<=an -> ∀ i,fP (aI ev an v) j i=fP ev j i:=fun j a i=>BO j a i;have l : ∀ j,j<=an->fP (aI ev an v) j=fP ev j:=fun j a=>funext (q j a);refine { ok0:=W.ok0,rd:=fun j a => ?_,g:=fun j a => ?_,dc:=fun j a => ?_,tk:=fun j a => ?_,sm:=fun j a => ?_,an:=by omega }
 ·by_cases e:j=an
  ·rw[e,vo,l an (A_ _)];exact JZ c f (by rw[d]; exact h.kc.le)
  rw[xI j (by omega),l j (by omega)]; exact W.rd j (by omega)
 ·by_cases e:j=an
  ·rw[e,vo]; exact afE c
  rw[xI j (by omega)]; exact W.g j (by omega)
 ·by_cases e:j=an
  ·rw[e,vo,d]; exact(h.kc.more c f).1
  rw[xI j (by omega)]; exact((W.dc j (by omega)).more c f).1
 ·by_cases e:j=an
  ·rw[e,vo,d,Dr xI];obtain⟨m,N,b,r⟩:=h.tw W;rw[<- r];exact(b.check p.aT (by rw[b.t.s.known]; exact o)).1 ((b.t.s.apply b.t.t b.t.i v).1.trans n)
  rw[xI j (by omega),Dr fun i w=>xI i (by omega)]; exact W.tk j (by omega)
 by_cases e:j=an
 ·rw[e,vo]; exact p
 rw[xI j (by omega)]; exact W.sm j (by omega)
theorem Ws.zero(k:Nat)(ev:Nat->EvM):Ws k ev 0 where
 ok0:=afF k
 rd:=fun _ h=>M_ h (z_ _)
 g:=fun _ h=>M_ h (z_ _)
 dc:=fun _ h=>M_ h (z_ _)
 tk:=fun _ h=>M_ h (z_ _)
 sm:=fun _ h=>M_ h (z_ _)
 an:=by decide
end
structure WC(M:WM):Prop where
 w:Ws M.n M.ev M.an
 f : ∀ o,o<M.n->tV M.n M.ev M.an (M.ml o).core
theorem WC.new{M:WM}(a:M.an=0)(h : ∀ i,(M.ml i).core=(jP M.n 0).core):WC M:=by
 refine⟨by rw[a]; exact .zero _ _,fun o c=>by rw[h,a]; exact .new _ _ _ (fun i b=>M_ b (z_ _)) 0⟩
theorem WC.do{w':World}{M k:WM}{B p T o:Nat}{x:Eo}{v:EvM}(h:WC M)(y:oN w' B p k T)(j:o<M.n)(a:DoR o x M k v)(z:M.an<1000)(A:(M.ml o).s.known o=fP M.ev M.an o):WC k:=by
 rcases a.c with ⟨u,g,d,b⟩|⟨u,g,d,b,h5,h6,h7,h8⟩
 ·refine⟨by rw[a.n,g,d]; exact h.w,fun q i => ?_⟩;rw[a.n]at i;rw[a.n,g,d];by_cases e:q=o
  ·rw[e]
   rcases b with b|⟨_,b⟩
   ·rw[b]; exact h.f o j
   rw[b]; exact tV.iK h.w _ _ (h.f o j)
  rw[a.oth q e]; exact h.f q i
 have C:=iU b;have r:=(DI C).1;have t:aO v=o:=by unfold aO; omega
 have l:v.seq=fP M.ev M.an (aO v)+1:=by rw[t,<- A]; exact h7
 have D:sw v:=by
  have:=y.sm M.an (by omega);rw[d,vo]at this; exact this
 have m:Ws M.n (aI M.ev M.an v) (M.an+1):=h.w.more (h.f o j) z D b h8 l;refine⟨by rw[a.n,g,d]; exact m,fun q i => ?_⟩;rw[a.n]at i;rw[a.n,g,d];by_cases e:q=o
 ·rw[e,h5];have:=((h.f o j).more r l).apply m (show M.an<M.an+1 by omega);rw[vo]at this;exact this
 rw[a.oth q e]; exact(h.f q i).more r l
end Rt
end
section
namespace Rt
structure D5(L L':eP):Prop where
 inn:L'.inn=L.inn
 left:L'.left=L.left
 kn : ∀ i,i<6->L'.known i=L.known i
 nn:L'.nn=L.nn
 gn:L'.gn=L.gn
 n : ∀ k,k<L.nn->L'.id k=L.id k/\L'.par k=L.par k/\L'.R k=L.R k
 g : ∀ k,k<L.gn -> ∀ p,p<5->L'.g k p=L.g k p
section
variable {ev:Nat->EvM} {an k:Nat} {L L':eP} {m m':dQ} {N N':Nat}
theorem fV.aal(h:fV m L){q:Nat}(i:q<L.gn):jc m (L.g q 0) (L.g q 1)=true /\ ∀ p,2<=p->p<=4->(eY m).g (L.g q 0) (L.g q 1) p=L.g q p:=by
 obtain⟨j,d,e⟩:=h.g1 q i;have c:jc m (L.g q 0) (L.g q 1)=true:=tT d (by rw[<- e]) (by rw[<- e]);have f:fF m (L.g q 0) (L.g q 1)=j:=zH h.gi d (by rw[<- e]) (by rw[<- e]);refine⟨c,fun p a b => ?_⟩;rw[show(eY m).g (L.g q 0) (L.g q 1) p=m.g (fF m (L.g q 0) (L.g q 1)) p from d_ ⟨c,a,b⟩,f,e]
theorem Je{f:Nat->Int}{n i:Nat}(hi:i<n):((List.range n).map f).getD i 0=f i:=by
 rw[r_,o_ (by rw[List.length_map,List.length_range]; exact hi)]; simp
theorem Jf{f g:Nat->Int}{n n':Nat}(m : ∀ i j,i<j->j<n->f i<f j)(o : ∀ i j,i<j->j<n'->g i<g j)(h1 : ∀ i,i<n -> ∃ j,j<n'/\g j=f i)(l : ∀ j,j<n' -> ∃ i,i<n/\f i=g j):n'=n /\ ∀ i,i<n->g i=f i:=by
 have e:(List.range n).map f=(List.range n').map g:=vI (by
  rw[List.pairwise_map];exact(List.pairwise_lt_range (n:=n)).imp_of_mem fun {a b} _ hb hab=>m a b hab (O_.1 hb)) (by
  rw[List.pairwise_map];exact(List.pairwise_lt_range (n:=n')).imp_of_mem fun {a b} _ hb hab=>o a b hab (O_.1 hb)) fun x=>by
  rw[List.mem_map,List.mem_map];constructor
  ·rintro ⟨i,c,rfl⟩;obtain⟨j,d,k⟩:=h1 i (O_.1 c);exact⟨j,O_.2 d,k⟩
  ·rintro ⟨j,d,rfl⟩;obtain⟨i,c,h⟩:=l j (O_.1 d);exact⟨i,O_.2 c,h⟩
 have p:n'=n:=by have:=L_ List.length e; rw[List.length_map,List.length_map,List.length_range,List.length_range]at this; exact this.symm
 refine⟨p,fun i c => ?_⟩;have:=L_ (fun z:List Int=>z.getD i 0) e;have:((List.range n).map f).getD i 0=((List.range n').map g).getD i 0:=this;rw[Je c,Je (by omega)]at this;exact this.symm
theorem Dl.same(h:Dl m L N)(d:Dl m' L' N')(C:yu L)(D:yu L')(e:eY m'=eY m)(I : ∀ i,i<6->L'.known i=L.known i):D5 L L':=by
 have B : ∀ y,m'.T.has y=m.T.has y:=fun y=>congrFun (L_ Ab.has e) y;have J : ∀ y,m'.T.par y=m.T.par y:=fun y=>congrFun (L_ Ab.par e) y;have H : ∀ y,aY m' y=aY m y:=fun y=>congrFun (L_ Ab.R e) y;have u : ∀ o r,jc m' o r=jc m o r:=fun o r=>congrFun (congrFun (L_ Ab.gh e) o) r;have w : ∀ {m:dQ} {L:eP} {N:Nat},Dl m L N -> ∀ i,i<L.nn->m.T.has (L.id i)=true/\aY m (L.id i)=L.R i:=fun {m L N} h i k=>by
  have a:m.T.has (L.id i)=true:=(h.s.T.has _).2 ⟨i,k,rfl⟩;refine⟨a,?_⟩;unfold aY;rw[d_ a,h.s.row i k]
 obtain⟨Q,z⟩:=Jf (f:=L.id) (g:=L'.id) (n:=L.nn) (n':=L'.nn) h.i.rise d.i.rise (fun i k=>(d.s.T.has _).1 (by rw[B]; exact(w h i k).1)) (fun i k=>(h.s.T.has _).1 (by rw[<- B]; exact(w d i k).1));have F : ∀ {m m':dQ} {L L':eP} {N N':Nat},Dl m L N->Dl m' L' N'->(∀ o r,jc m' o r=jc m o r) -> ∀ q,q<L.gn -> ∃ j,j<L'.gn/\oM (L'.g j)=oM (L.g q):=fun {m m' L L' N N'} h d u q t=>by
  have a:=(h.s.aal t).1;rw[<- u]at a;obtain⟨j,O,l,x⟩:=lY.1 a;obtain⟨S,v,G⟩:=d.s.g2 j O;have l:m'.g j 0=L.g q 0:=l;have x:m'.g j 1=L.g q 1:=x;exact⟨S,v,by unfold oM; rw[G,l,x]⟩
 obtain⟨K,M⟩:=Jf (f:=fun q=>oM (L.g q)) (g:=fun q=>oM (L'.g q)) (n:=L.gn) (n':=L'.gn) C.up D.up (F h d u) (F d h fun o r=>(u o r).symm);refine⟨by rw[<- h.s.inn,<- d.s.inn]; exact L_ Ab.inn e,by rw[<- h.s.left,<- d.s.left]; exact L_ Ab.left e,I,Q,K,fun i k => ?_,fun q t p W => ?_⟩
 ·have E:i<L'.nn:=by omega
  refine⟨z i k,?_,?_⟩
  ·rw[<- h.s.T.par i k,<- d.s.T.par i E,J,z i k]
  rw[<- (w h i k).2,<- (w d i E).2,H,z i k]
 have v:q<L'.gn:=by omega
 have P:oM (L'.g q)=oM (L.g q):=M q t;have U:=(C.wf q t).1;have V:=(D.wf q v).1;unfold oM at P;unfold iX at U V;have A:L'.g q 0=L.g q 0:=by omega
 have l:L'.g q 1=L.g q 1:=by omega
 by_cases c:2<=p
 ·have a:=(h.s.aal t).2 p c (by omega);have b:=(d.s.aal v).2 p c (by omega);rw[<- a,<- b,A,l,L_ Ab.g e]
 rcases(show p=0\/p=1 by omega)with rfl|rfl
 ·exact A
 exact l
theorem Km{K K':Nat->Int}{A:Ab}(h : ∀ i,i<6->K' i=K i)(a : ∀ i,i<an->aO (ev i)<6) : ∀ n,n<=an->fZ ev K' A n=fZ ev K A n
 | 0,_=>rfl
 | n+1,hn=>by
   have c:wE K' (ev n)=wE K (ev n):=(by unfold wE; rw[h _ (a n (by omega))]);show(if wE K' (ev n)=true then(fZ ev K' A n).rH (ev n)else fZ ev K' A n)=_;rw[Km h a n (by omega),c]; rfl
theorem tV.same(h:tV k ev an L)(f:tV k ev an L')(W:Ws k ev an)(j:yu L)(l:yu L')(a : ∀ i,i<6->L'.known i=L.known i):D5 L L':=by
 obtain⟨m,N,b,o,c⟩:=h.ex;obtain⟨m',N',d,p,e⟩:=f.ex;refine b.same d j l ?_ a;rw[c,e];exact Km a (fun i n=>(W.g i n).reg.2) an (A_ _)
theorem aam(W:Ws k ev an) : ∀ i,i<an->1<=(ev i).seq:=fun i a=>(W.g i a).seq.1
end
end Rt
end
section
namespace Rt
def vZ(K c:Nat->Int):Nat->Int:=fun q=>if K q<=c q then K q else c q
section
variable {ev:Nat->EvM} {an k i r:Nat} {K K':Nat->Int} {L:eP} {v:EvM}
theorem Cb(ev:Nat->EvM)(i q:Nat):fP ev (i+1) q=fP ev i q+if aO (ev i)=q then 1 else 0:=rfl
theorem tV.nextK(h:tV k ev an L)(W:Ws k ev an)(hi:i<an)(m:Kz ev an K)(f : ∀ q,q<6->L.known q=vZ K (fP ev i) q)(n:(ev i).seq<=K (aO (ev i))) :
 bA L (ev i)=0 /\ ∀ q,q<6->(bT L (ev i)).known q=vZ K (fP ev (i+1)) q:=by
 obtain⟨a,b,c⟩:=DI (W.rd i hi);have l:=kH a;have g:L.known (aO (ev i))=fP ev i (aO (ev i)):=by rw[f _ l]; unfold vZ; rw[b_ (by omega)]
 have o:dL L.known (ev i)=true:=JZ a (by rw[g]; exact b) fun q d=>by
  rw[f q d]; unfold vZ;split
  ·exact m.cl i hi n q d
  ·exact c q d
 have j:=h.ready W hi o;refine⟨j,fun q d => ?_⟩;rw[zI j];unfold aI;by_cases e:q=aO (ev i)
 ·rw[d_ e,g,e];unfold vZ;rw[Cb,d_ rfl,R3 (by omega)]
 rw[b_ e,f q d];unfold vZ;rw[Cb,b_ (show ¬ aO (ev i)=q from fun z=>e z.symm),D_]
where R3 {a b:Int} (h:b<=a):(if a<=b then a else b)=b:=by split <;> omega
theorem ajK(W:Ws k ev an)(hi:i<an)(c : ∀ q,q<6->L.known q=vZ K (fP ev i) q)(a : ¬ (ev i).seq<=K (aO (ev i))) : ∀ q,q<6->L.known q=vZ K (fP ev (i+1)) q:=fun q d=>by
 have b:=(DI (W.rd i hi)).2.1;rw[c q d];unfold vZ;rw[Cb];by_cases e:aO (ev i)=q
 ·rw[d_ e]; rw[e]at b a;rw[d_ (by omega),d_ (by omega)]
 ·rw[b_ e,D_]
theorem ajL(c:Kz ev an K)(a : ∀ q,q<6->0<=K q) : ∀ q,q<6->(0:Int)=vZ K (fP ev 0) q:=fun q b=>by
 unfold vZ; show(0:Int)=if K q<=0 then K q else 0;have:=a q b;split <;> omega
theorem ajM(a:Kz ev an K) : ∀ q,q<6->vZ K (fP ev an) q=K q:=fun q b=>by unfold vZ; rw[d_ (a.le q b)]
theorem afH(W:Ws k ev an)(hi:i<an)(e : ∀ q,q<6->L.known q=K q)(d:(ev i).seq<=K (aO (ev i))):bA L (ev i)=14/\bT L (ev i)=L:=by
 have a:=(DI (W.rd i hi)).1;have c:lN L.known (ev i)=true:=by
  have f:(ev i).seq<=L.known (aO (ev i)):=by rw[e _ (kH a)]; exact d
  unfold lN; rw[a,f_ (show(ev i).seq<=L.known ((ev i).o-1).toNat from f)]; rfl
 have b:bA L (ev i)=14:=by unfold bA; rw[b_ (by rw[a]; decide),d_ c]
 exact⟨b,by unfold bT; rw[b_ (by rw[b]; decide)]⟩
end
end Rt
end
namespace Rt
theorem D5.st{L L':eP}(h:D5 L L')(d:Option Addr)(e:Nat)(a:Option Addr)(b:Nat) : ∀ p,p<20->lS (Dk L' d e a b) p=lS (Dk L d e a b) p:=fun p f=>by
 unfold lS Dk;simp only[h.inn,h.left,h.nn,h.gn];by_cases c:12<=p/\p<18
 ·rw[h.kn (p-12) (by omega)]
 ·repeat' split
  all_goals first|rfl|omega
end Rt
theorem KD.same{w:World}{s:Ef}{L L':eP}(h:KD w s L')(d:D5 L L'):KD w (Dk L s.na s.nc s.ga s.gc) L:=by
 refine⟨rfl,?_,?_⟩
 ·have e:=h.n;rw[d.nn]at e;exact e.congr fun j k=>by
   unfold flat WX;obtain⟨a,b,c⟩:=d.n (j / 56) (by omega);rw[a,b,c]
 have e:=h.g;rw[d.gn]at e;exact e.congr fun j k=>by
  unfold flat GU jf;have g:=d.g (j / 5) (by omega) (j % 5) (J_ _ (by decide));have f:=d.g (j / 5) (by omega) 0 (by decide);have i:=d.g (j / 5) (by omega) 3 (by decide);rw[g,f,i]
theorem aan{w:World}{d a:Ef}{L L':eP}(h1:KD w d L)(b:KD w a L')(c:D5 L L')(g:LWf L):Calls Tryz.prog 17 #[.agg (aA 20 (lS d)),.agg (aA 20 (lS a))] w fun e w'=>e = .returned (.bool true)/\Below w.heap.size w w' :=
 nZ (Qh h1 (b.same c) g) (by rw[Fx.dO (show ∀ p,p<20->lS a p=lS (Dk L a.na a.nc a.ga a.gc) p from fun p f=>by rw[b.e]; exact c.st _ _ _ _ p f)])
namespace Rt
structure iT where
 kind:Int
 node:Int
 dst:Int
 aT:Int
 req:Int
 of:Int
def gQ(x:iT):Nat->Value:=fun p=>if p=0 then .int .u8 x.kind else if p=1 then .int .u64 x.node else if p=2 then .int .i64 x.dst else if p=3 then .int .i64 x.aT else if p=4 then .int .u64 x.req else .int .u64 x.of
theorem XA(x:iT)(j:Nat):(gQ x j).oneCell'=true:=by unfold gQ; repeat (first|rfl|split)
structure qN(x:iT):Prop where
 kind:0<=x.kind/\x.kind<=255
 node:iX x.node
 dst:qc x.dst
 aT:qc x.aT
 req:iX x.req
 of:iX x.of
end Rt
namespace Rt
def oO(K:Nat->Int)(i:Int)(x:iT):EvM:=⟨i,K (i-1).toNat+1,K,x.kind,x.node,x.dst,x.aT,x.req,x.of⟩
end Rt
theorem aao(K:Nat->Int)(i:Int)(hr:jl i=false)(w:World) :
 Calls Tryz.prog 41 #[.agg (aA 6 (rv .u64 K)),au i] w fun e w'=>e = .returned (.tuple #[aC 0,au 10])/\Below w.heap.size w w':=by
 refine Kent Tryz.func41 21 ?_;refine ay<|om fun f j b c d k => ?_;have a:=bD d.old (Below.refl w.heap.size w);have g:=gI b;have h:=c.lt;refine av (aC 0)<|av (au 0)<|aD<|Ws<|Wb<|ay<|av (au i)<|mE (J7 i _) aF (by rw[hr])<|av aG<|av aG<|aD<|aM<|ay<|av (aC 0)<|av (au 10)<|aD<|Wr<|bM<|sR<|aJ (.tuple #[aC 0,au 10]) ?_;exact⟨rfl,a⟩
theorem aap(K:Nat->Int)(i:Int)(a:Nat)(ha:a<6)(h:i=(a:Int)+1)(g:Ay K)(w:World) :
 Calls Tryz.prog 41 #[.agg (aA 6 (rv .u64 K)),au i] w fun e w'=>e = .returned (.tuple #[aC (K a+1),au 0])/\Below w.heap.size w w':=by
 have j:jl i=true:=by rw[h]; unfold jl; simp; omega
 have l:=g a ha;refine Kent Tryz.func41 21 ?_;refine ay<|om fun c o f b k p => ?_;have d:=bD k.old (Below.refl w.heap.size w);have m:=gI f;have n:=b.lt;refine av (aC 0)<|av (au 0)<|aD<|Ws<|Wb<|ay<|av (au i)<|mE (J7 i _) aG (by rw[j])<|av aF<|av aF<|aD<|aK<|ay<|av (au i)<|Lv (au a) gN<|Lv (pf c a) (jV 6 1)<|Lv (aC (K a)) (aL b.aH a)<|Lv aF HZ<|av aF<|aD<|aK<|Wk<|bS<|sN<|ay<|av (au i)<|Lv (au a) gN<|Lv (pf c a) (jV 6 1)<|Lv (aC (K a)) (aL b.aH a)<|Lv (aC ((K a)+1)) fH<|av (aC ((K a)+1))<|av (au 0)<|aD<|Wr<|aJ (.tuple #[aC ((K a)+1),au 0]) ?_;exact⟨rfl,d⟩
theorem ajN(v:EvM)(i c:Int)(K:Nat->Int)(a:Nat)(w:World)(b:aP w a 14 (bJ v) 37)(d:Nat)(g:Nat)(f:Nat)(hi:aP w d 1 (fun _=>au i) 3)(k:aP w g 1 (fun _=>aC c) 23)(h:aP w f 6 (rv .u64 (K)) 35) :
 Calls Tryz.prog 43 #[(pt a),(pt d),(pt g),(pt f)] w fun e w'=>e = .returned (.tuple #[])/\aP w' a 14 (bJ ⟨i,c,K,v.kind,v.node,v.dst,v.aT,v.req,v.of⟩) 37/\Stp a w w':=by
 have L:=b.lt;have M:=hi.lt;have O:=k.lt;have N:=h.lt;have P:d≠a:=fun e=>M_ (Fx.Ty.only (e ▸ hi.ty) b.ty) (by decide);have Q:g≠a:=fun e=>M_ (Fx.Ty.only (e ▸ k.ty) b.ty) (by decide);have R:f≠a:=fun e=>M_ (Fx.Ty.only (e ▸ h.ty) b.ty) (by decide);refine Kent Tryz.func43 17 ?_;refine zY [0,1,2,3,6,7,4,5,8,9,10,11,12,13,14] [0,0,0,4,1,1,0,0,2,0,0,2,0,0,2] (Fx.zm [37]) Fx.zm.refl Fx.zm.trans (fK := [(8,3,[3]),(11,3,[3]),(14,3,[3]),(9,8,[8]),(10,8,[8]),(11,8,[8]),(12,8,[8]),(13,8,[8]),(14,8,[8]),(12,11,[11]),(13,11,[11]),(14,11,[11])]) (by kernel_rfl) (by kernel_rfl) (by kernel_rfl) (by kernel_rfl) (by kernel_rfl) fun H m J => ?_;have F:Stp w.heap.size w H:=Sb m;have⟨n,C,D,E⟩:=jw m b hi k h;have t:=(nM a w).then F (.inr (nM a w).size);refine aX (pt a)<|aX (pt a)<|aX (pt a)<|Rs (au i) (aL C.aH 0) ?_;refine aX (pt a)<|aX (pt a)<|Rd (v:=aC c) (by rfl) (by rfl) (Fx.zm.refl _) (fun G l=>aZ (x:=fun _=>aC c) rfl rfl (by kernel_rfl) (D.yG l (by decide)).aH (i:=0) (by omega) (by omega) rfl) ?_;refine Rd (v := .agg (aA 6 (rv .u64 (K)))) (by rfl) (by rfl) (Fx.zm.refl _) (fun G l=>dR (x:=rv .u64 (K)) (y:=rv .u64 (K)) rfl rfl (by kernel_rfl) (by kernel_rfl) (E.yG l (by decide)).aH (i:=0) (by omega) (by omega) (fun j _=>by rw[G_])) ?_;refine yw<|jv n 0 (au i) fun S o q V => ?_;have u:=t.then q (by omega);refine Ln ⟨Fx.zm.Jw ((fQ q n.ty).wide (by decide)),?_⟩;refine aX (pt a)<|aX (pf a 1)<|yw<|jv o 1 (aC c) fun T p r W => ?_;have z:=u.then r (by omega);refine Ln ⟨Fx.zm.Jw ((fQ r o.ty).wide (by decide)),?_⟩;refine aX (pt a)<|aX (pf a 2)<|yw<|dG p 2 fun U B s X => ?_;have A:=z.then s (by omega);refine Ln ⟨Fx.zm.Jw ((fQ s p.ty).wide (by decide)),?_⟩;refine Rn (⟨.tuple #[],jd Tryz.results43,?_⟩);exact⟨rfl,B.congr (fun j I=>by rcases j with _|_|_|_|_|_|_|_|_|_|_|_|_|_|j <;> first|rfl|omega),A⟩
theorem afI(x:iT)(i d:Int)(K:Nat->Int)(w:World)(g:Nat)(k:Nat)(h:Nat)(hi:aP w g 1 (fun _=>au i) 3)(m:aP w k 1 (fun _=>aC d) 23)(l:aP w h 6 (rv .u64 (K)) 35) :
 Calls Tryz.prog 42 #[.agg (aA 6 (gQ x)),.func (.func 43) #[] #[(pt g),(pt k),(pt h)]] w fun e w'=>e = .returned (.agg (aA 14 (bJ ⟨i,d,K,x.kind,x.node,x.dst,x.aT,x.req,x.of⟩)))/\Below w.heap.size w w':=by
 have lgi:=hi.lt;have lgs:=m.lt;have lgk:=l.lt;refine Kent Tryz.func42 22 ?_;refine ay<|om fun c w1 y n s1 z1 => ?_;have⟨C,E,F,r⟩:=jw s1.old hi m l (Below.refl w.heap.size w);have qZ:=gI y;have⟨mJ,UU,yV⟩:=Bq y hi.lt m.lt l.lt;have sF:=n.lt;refine oC 14 zQ0 fun O w2 z p s2 z2 => ?_;have⟨G,H,I,b,s⟩:=lJ s2.old C E F n r;have pK:=iw z r.size;have⟨abj,Iq,Vz,L6⟩:=Nu z C.lt E.lt F.lt n.lt;have xR:=p.lt;refine aD<|ay<|av (pt c)<|Lv (.int .u8 (x.kind)) (aL b.aH 0)<|av (pf c 1)<|Lv (aC x.node) (aL b.aH 1)<|av (pf c 2)<|Lv (au x.dst) (aL b.aH 2)<|av (pf c 3)<|Lv (au x.aT) (aL b.aH 3)<|av (pf c 4)<|Lv (aC x.req) (aL b.aH 4)<|av (pf c 5)<|Lv (aC x.of) (aL b.aH 5)<|av (.agg (aA 14 (bC (bC (bC (bC (bC (bC zQ0 8 1 (fun _ => .int .u8 (x.kind))) 9 1 (fun _=>aC x.node)) 10 1 (fun _=>au x.dst)) 11 1 (fun _=>au x.aT)) 12 1 (fun _=>aC x.req)) 13 1 (fun _=>aC x.of))))<|oC 14 zQ0 fun f w3 A o s3 z3 => ?_;have⟨R,S,T,U,t⟩:=lJ s3.old G H I p s;have Ae:=iw A s.size;have⟨Ot,Ou,aeU,WL,aeV⟩:=Ap A G.lt H.lt I.lt b.lt p.lt;have Ed:=o.lt;refine dG o 0 (h1:=(bB (bB (bB (bB (bB (bB (fun Q _=>by show(zQ0 Q).oneCell'=true; simp only[zQ0]; repeat (first|rfl|split)) (fun _ _=>rfl)) (fun _ _=>rfl)) (fun _ _=>rfl)) (fun _ _=>rfl)) (fun _ _=>rfl)) (fun _ _=>rfl))) fun M V q z4 => ?_
 have W:aP M f 14 (bC (bC (bC (bC (bC (bC zQ0 8 1 (fun _ => .int .u8 (x.kind))) 9 1 (fun _=>aC x.node)) 10 1 (fun _=>au x.dst)) 11 1 (fun _=>au x.aT)) 12 1 (fun _=>aC x.req)) 13 1 (fun _=>aC x.of)) 37:=aN V;have X:aP M f 14 (bJ ⟨0,0,fun _=>0,x.kind,x.node,x.dst,x.aT,x.req,x.of⟩) 37:=W.congr (fun j hj=>by rcases j with _|_|_|_|_|_|_|_|_|_|_|_|_|_|j <;> first|rfl|omega)
 have P:=fQ q o.ty;have⟨Y,Z,aa⟩:=Bp P R S T;have ab:=U.bW q (by omega);have u:=q.below t t.size (by omega);refine aD<|ay<|av (.func (.func 43) #[] #[(pt g),(pt k),(pt h)])<|zX (by rfl) (Fx.Bn (args := [(pt f)]) rfl rfl rfl (all := #[(pt f),(pt g),(pt k),(pt h)]) rfl Tryz.func43 rfl rfl) rfl<|(ajN ⟨0,0,fun _=>0,x.kind,x.node,x.dst,x.aT,x.req,x.of⟩ i d K f _ X g k h Y Z aa).mono ?_;rintro e9 w5 ⟨B,D,J⟩;refine⟨_,B,?_⟩;clear B;have ac:=ab.bW J (by omega);have v:=J.below u u.size (by omega);refine aD<|ay<|Lv (.agg (aA 14 (bJ ⟨i,d,K,x.kind,x.node,x.dst,x.aT,x.req,x.of⟩))) (eT D.aH 0)<|dG ac 0 (h1:=(eH _)) fun w6 ad L z5 => ?_;have ae:aP w6 O 14 (bJ ⟨i,d,K,x.kind,x.node,x.dst,x.aT,x.req,x.of⟩) 37:=aN ad;have mO:=D.bW L (by omega);have N:=L.below v v.size (by omega);refine aD (Wr (⟨.agg (aA 14 (bJ ⟨i,d,K,x.kind,x.node,x.dst,x.aT,x.req,x.of⟩)),rV Tryz.results42 ⟨_,rfl,aR ae.aH (by kernel_rfl) (by kernel_rfl)⟩,?_⟩));exact⟨rfl,N⟩
namespace Rt
theorem xJ{z y:Nat->Value}{a b:Int}(d : ∀ j,j<14->z j=y j)(c:a=b):Ending.returned (.tuple #[.agg (aA 14 z),au a])=Ending.returned (.tuple #[.agg (aA 14 y),au b]):=by rw[Fx.dO d,c]
noncomputable def gT(L:eP)(i:Int)(x:iT):Int:=if jl i=false then 10 else bA L (oO L.known i x)
open Classical in
noncomputable def eB(L:eP)(i:Int)(x:iT):EvM:=if gT L i x=0 then oO L.known i x else zeroE
theorem tX{L:eP}{i:Int}{x:iT}(h:jl i=false):gT L i x=10/\eB L i x=zeroE:=by
 have:gT L i x=10:=by unfold gT; rw[d_ h]
 refine⟨this,?_⟩;unfold eB;rw[b_ (by rw[this]; decide)]
theorem jA{L:eP}{i:Int}{x:iT}(h:jl i=true):gT L i x=bA L (oO L.known i x):=by unfold gT; rw[b_ (by rw[h]; decide)]
theorem Kn{K:Nat->Int}{i:Int}{x:iT}(b:Ay K)(hx:qN x)(hi:jl i=true):gD (oO K i x):=by
 obtain⟨a,c,f⟩:=fq hi;have g:=b a c;have e:(i-1).toNat=a:=by omega
 refine⟨⟨?_,?_⟩,⟨?_,?_⟩,fun j d => ?_,hx.kind,hx.node,hx.dst,hx.aT,hx.req,hx.of⟩
 ·show -9223372036854775808<=i; omega
 ·show i<=9223372036854775807; omega
 ·show 0<=K (i-1).toNat+1; rw[e]; omega
 ·show K (i-1).toNat+1<=18446744073709551615; rw[e]; omega
 have:=b j d; exact⟨by show 0<=K j; omega,by show K j<=_; omega⟩
end Rt
theorem aaq(lp B N:Nat)(m:dQ)(L:eP)(w:World)(h:xX w B lp m L N)(hB:1<=B)(S:iV w 0 0 8 A8)(i:Int)(x:iT)(hr:jl i=false) :
 Calls Tryz.prog 13 #[(pt lp),au i,.agg (aA 6 (gQ x))] w fun e w'=>e = .returned (.tuple #[.agg (aA 14 (bJ (eB L i x))),au (gT L i x)])/\Below w.heap.size w w':=by
 have l0:=S.lt (by omega);have lq:=h.q.lt;refine Kent Tryz.func13 39 ?_;refine ay<|xY (au i) fun g1 w1 O b s1 z1 => ?_;have⟨m2,g⟩:=fC s1.old h (Below.refl w.heap.size w);have qZ:=gI O;have sF:=b.lt;refine om fun g2 w2 s d s2 z2 => ?_;have⟨m4,F,k⟩:=gL s2.old m2 b g;have pK:=iw s g.size;have Fz:=cu s b.lt;have xR:=d.lt;refine oC 14 zQ0 fun P w3 t G s3 z3 => ?_;have⟨m7,m8,m9,K⟩:=jw s3.old m4 F d k;have Ae:=iw t k.size;have⟨VL,VN⟩:=oQ t F.lt d.lt;have Ed:=G.lt;refine av (au 0)<|aD<|Ws<|ay<|av (pt lp)<|Lv aF (Fx.nD rfl rfl rfl (by kernel_rfl))<|aD<|aK<|Wk<|sN<|ay<|av (pt lp)<|dU (Qk m7) _ rfl ?_;intro w4 T;have⟨y,z,A,l⟩:=jw T m8 m9 G K;refine oC 6 (rv .u64 (fun _=>0)) fun Q w5 u c s5 z4 => ?_;have⟨Y,Z,aa,n⟩:=jw s5.old y z A l;have PE:=iw u l.size;have⟨Ov,XB,XC⟩:=Bq u y.lt z.lt A.lt;have NS:=c.lt;refine dG c 0 fun w6 ab H z5 => ?_;have C:aP w6 Q 6 (rv .u64 ((L).known)) 35:=aN ab;have V:=fQ H c.ty;have⟨D,m23,m24⟩:=Bp V Y Z aa;have M:=H.below n n.size (by omega);refine aD<|ay<|Lv (.agg (aA 6 (rv .u64 ((L).known)))) (eT C.aH 0)<|Lv (au i) (aL D.aH 0)<|dU (aao L.known i hr _) _ rfl ?_;intro w7 U;have⟨mU,oo,E,nG,o⟩:=lJ U D m23 m24 C M;refine av (.tuple #[aC 0,au 10])<|av (aC 0)<|av (au 10)<|oC 1 (rv .u64 (fun _=>0)) fun R w8 v f s8 z6 => ?_;have⟨nH,p⟩:=fC s8.old E o;have lg5:=iw v o.size;have⟨afJ,afK,afL,afM⟩:=Nu v mU.lt oo.lt E.lt nG.lt;have tg5:=f.lt;refine jv f 0 (aC 0) fun w9 mO I z7 => ?_;have qy:aP w9 R 1 (fun _=>aC 0) 23:=dI mO;have W:=fQ I f.ty;have mP:=iW W nH;have r:=I.below p p.size (by omega);refine av (au 10)<|aD<|Ws<|ay<|av (au 10)<|Lv aG (dP rfl)<|aD<|aM<|ay<|av (.agg (aA 14 zQ0))<|av (au 10)<|dG mP 0 (h1:=(fun X _=>by show(zQ0 X).oneCell'=true; simp only[zQ0]; repeat (first|rfl|split))) fun rW mV s10 z8 => ?_
 have pI:aP rW P 14 zQ0 37:=aN mV;have J:=s10.below r r.size (by omega);refine av (au 10) (aD (Wr (sR (⟨.tuple #[.agg (aA 14 zQ0),au 10],fE Tryz.results13 ⟨_,rfl,aR pI.aH (by kernel_rfl) (by kernel_rfl)⟩ (by exact rfl),?_⟩))));exact⟨by rw[(tX hr).1,(tX hr).2]; exact xJ (fun j hj=>by rcases j with _|_|_|_|_|_|_|_|_|_|_|_|_|_|j <;> first|rfl|omega) rfl,J⟩
theorem aar(lp B N:Nat)(m:dQ)(L:eP)(w:World)(h:xX w B lp m L N)(hB:1<=B)(Q:iV w 0 0 8 A8)(i:Int)(x:iT)(hx:qN x)(a:Nat)(ha:a<6)(S:i=(a:Int)+1) :
 Calls Tryz.prog 13 #[(pt lp),au i,.agg (aA 6 (gQ x))] w fun e w'=>e = .returned (.tuple #[.agg (aA 14 (bJ (eB L i x))),au (gT L i x)])/\Below w.heap.size w w':=by
 have l0:=Q.lt (by omega);have lq:=h.q.lt;have d:jl i=true:=by rw[S]; unfold jl; simp; omega
 have eia:(i-1).toNat=a:=by omega
 have hka:=h.i.kn a ha;refine Kent Tryz.func13 39 ?_;refine ay<|xY (au i) fun l w1 kM n s1 z1 => ?_;have⟨m2,y⟩:=fC s1.old h (Below.refl w.heap.size w);have qZ:=gI kM;have sF:=n.lt;refine om fun g2 w2 I p s2 z2 => ?_;have⟨m4,m5,D⟩:=gL s2.old m2 n y;have pK:=iw I y.size;have Fz:=cu I n.lt;have xR:=p.lt;refine oC 14 zQ0 fun P w3 J m6 s3 z3 => ?_;have⟨m7,m8,m9,b3⟩:=jw s3.old m4 m5 p D;have Ae:=iw J D.size;have⟨VL,VN⟩:=oQ J m5.lt p.lt;have Ed:=m6.lt;refine av (au 0)<|aD<|Ws<|ay<|av (pt lp)<|Lv aF (Fx.nD rfl rfl rfl (by kernel_rfl))<|aD<|aK<|Wk<|sN<|ay<|av (pt lp)<|dU (Qk m7) _ rfl ?_;intro w4 hb1;have⟨m10,T,U,V,E⟩:=lJ hb1 m7 m8 m9 m6 b3;refine oC 6 (rv .u64 (fun _=>0)) fun g w5 K o s5 z4 => ?_;have⟨m15,m16,m17,m18,F⟩:=lJ s5.old m10 T U V E;have PE:=iw K E.size;have⟨Ov,XB,XC⟩:=Bq K T.lt U.lt V.lt;have NS:=o.lt;refine dG o 0 fun w6 m19 s6 z5 => ?_;have W:aP w6 g 6 (rv .u64 ((L).known)) 35:=aN m19;have fO:=fQ s6 o.ty;have⟨m21,X,m23,m24⟩:=Jt fO m15 m16 m17 m18;have b6:=s6.below F F.size (by omega);refine aD<|ay<|Lv (.agg (aA 6 (rv .u64 ((L).known)))) (eT W.aH 0)<|Lv (au i) (aL X.aH 0)<|dU (aap L.known i a ha S h.i.kn _) _ rfl ?_;intro w7 hb2;have⟨mM,Y,Z,aa,ab,G⟩:=qY hb2 m21 X m23 m24 W b6;refine av (.tuple #[aC (L.known a+1),au 0])<|av (aC (L.known a+1))<|av (au 0)<|oC 1 (rv .u64 (fun _=>0)) fun k w8 M r s8 z6 => ?_;have⟨lI,m32,oU,nH,nR,H⟩:=qY s8.old mM Y Z aa ab G;have lg5:=iw M G.size;have⟨afJ,afK,afL,afM⟩:=Nu M Y.lt Z.lt aa.lt ab.lt;have tg5:=r.lt;refine jv r 0 (aC (L.known a+1)) fun w9 mO s9 z7 => ?_;have ac:aP w9 k 1 (fun _=>aC (L.known a+1)) 23:=dI mO;have jJ:=fQ s9 r.ty;have⟨pX,ad,ae,mP,af⟩:=rT jJ lI m32 oU nH nR;have b9:=s9.below H H.size (by omega);refine av (au 0)<|aD<|Ws<|ay<|av (au 0)<|Lv aF (jo rfl rfl rfl (by decide))<|aD<|aK<|Wk<|sN<|ay<|Lv (.agg (aA 6 (gQ x))) (eT ae.aH 0)<|Lv (.func (.func 43) #[] #[(pt l),(pt k),(pt g)]) (Fx.mR (us := []) (vs := [(pt l),(pt k),(pt g)]) rfl rfl rfl)<|kU (afI x i (L.known a+1) L.known _ l k g ad ac af) ?_;rintro e9 rW ⟨R,hb3⟩;refine⟨.agg (aA 14 (bJ (oO L.known i x))),by rw[R]; unfold oO; rw[eia],?_⟩;clear R;have⟨mV,pI,qb,ag,sG,uQ,z⟩:=kg hb3 pX ad ae mP af ac b9;refine oC 14 zQ0 fun g6 Ec O s s11 z8 => ?_;have⟨qD,sJ,A⟩:=gL s11.old mV ag z;have lg6:=iw O z.size;have⟨arU,arV,arW,arX,arY⟩:=Ap O pI.lt qb.lt ag.lt sG.lt uQ.lt;have tg6:=s.lt;refine dG s 0 (h1:=(eH _)) fun Bd uf u z9 => ?_;have sK:aP Bd g6 14 (bJ (oO L.known i x)) 37:=aN uf;have nQ:=fQ u s.ty;have ug:=iW nQ qD;have uo:=sJ.bW u (by omega);have C:=u.below A A.size (by omega);refine aD<|Ws<|ay<|av (pt lp)<|Lv (.agg (aA 14 (bJ (oO L.known i x)))) (eT sK.aH 0)<|dU (Z0 (v:=(oO L.known i x)) ug (Kn h.i.kn hx d) hB (Q.below C l0) (fun _ _=>rfl)) _ rfl ?_;intro Fh hb4;have⟨uT,t,f⟩:=gL hb4 uo sK C;refine av (au (bA L (oO L.known i x)))<|aD<|ay<|av (au (bA L (oO L.known i x))) ?_;by_cases c:(bA L (oO L.known i x))=0
 ·refine Lv aF (iN c)<|aD<|aK<|Wk<|sN<|ay<|Lv (.agg (aA 14 (bJ (oO L.known i x)))) (eT t.aH 0)<|dG uT 0 (h1:=(eH _)) fun K8 uH Af z10 => ?_;have wB:aP K8 P 14 (bJ (oO L.known i x)) 37:=aN uH;have zw:=t.bW Af (by omega);have b14:=Af.below f f.size (by omega);refine av (au 0) (aD (Wr (⟨.tuple #[.agg (aA 14 (bJ (oO L.known i x))),au 0],fE Tryz.results13 ⟨_,rfl,aR wB.aH (by kernel_rfl) (by kernel_rfl)⟩ (by exact rfl),?_⟩)));exact⟨by rw[jA d,show eB L i x=oO L.known i x by unfold eB; rw[d_ (by rw[jA d]; exact c),]]; exact xJ (fun _ _=>rfl) c.symm,b14⟩
 refine Lv aG (jZ c)<|aD<|aM<|ay<|av (.agg (aA 14 zQ0))<|av (au (bA L (oO L.known i x)))<|dG uT 0 (h1:=(fun jq _=>by show(zQ0 jq).oneCell'=true; simp only[zQ0]; repeat (first|rfl|split))) fun Kv xQ s15 z11 => ?_
 have wU:aP Kv P 14 zQ0 37:=aN xQ;have Bf:=t.bW s15 (by omega);have b15:=s15.below f f.size (by omega);refine av (au (bA L (oO L.known i x))) (aD (Wr (sR (⟨.tuple #[.agg (aA 14 zQ0),au (bA L (oO L.known i x))],fE Tryz.results13 ⟨_,rfl,aR wU.aH (by kernel_rfl) (by kernel_rfl)⟩ (by exact rfl),?_⟩))));exact⟨by rw[jA d,show eB L i x=zeroE by unfold eB; rw[b_ (by rw[jA d]; exact c)]]; exact xJ (fun j hj=>by rcases j with _|_|_|_|_|_|_|_|_|_|_|_|_|_|j <;> first|rfl|omega) rfl,b15⟩
theorem afN{lp B N:Nat}{m:dQ}{L:eP}{w:World}(h:xX w B lp m L N)(b:1<=B)(c:iV w 0 0 8 A8)(i:Int){x:iT}(hx:qN x){y:Nat->Value}(hy : ∀ j,j<6->y j=gQ x j) :
 Calls Tryz.prog 13 #[(pt lp),au i,.agg (aA 6 y)] w fun e w'=>e = .returned (.tuple #[.agg (aA 14 (bJ (eB L i x))),au (gT L i x)])/\Below w.heap.size w w':=by
 rw[Fx.dO hy]
 cases hr:jl i with
 | false=>exact aaq lp B N m L w h b c i x hr
 | true =>
   obtain⟨a,f,d⟩:=fq hr;exact aar lp B N m L w h b c i x hx a f d
section
namespace Rt
section
variable {A:Ab} {ev gv:Nat->EvM} {an n k i j:Nat} {K:Nat->Int} {L:eP} {v:EvM} {y x:Int} {m:dQ} {N:Nat}
end
end Rt
end
end Go.Proofs.YtcbedgfikejkoaaGreatDoor
namespace Go.Proofs.YtcbedgfikejkoaaGreatDoor
open Go.RowKit Go
namespace Rt
def qO(i r:Int)(x:Nat->Int):Bool:=decide (x 0=i)&&(decide (x 1=r) || decide (x 4=r))
def tY(L:eP)(i r:Int):Int:=iq (fun q=>qO i r (L.g q)) L.gn
def og(x:iT)(g:Nat->Int):Bool:=decide (x.kind=3)&&(decide (g 1=x.req)&&(decide (g 2=x.node)&&decide (g 3=x.aT)))
def mY(x:iT)(g:Nat->Int):Bool:=decide (x.kind=4)&&(decide (g 4=x.req)&&decide (g 1=x.of))
def XD(x:iT):Bool := !decide (x.req=0)&&(decide (x.kind=3) || decide (x.kind=4))
def dw(L:eP)(i:Int)(x:iT):Bool:=XD x&&decide (0<=tY L i x.req)
def eX(L:eP)(i:Int)(x:iT):Int:=if dw L i x=true then(if(og x (L.g (tY L i x.req).toNat) || mY x (L.g (tY L i x.req).toNat))=true then 0 else 14)else 0
theorem ze{i r:Int}{x:Nat->Int}:qO i r x=true<->x 0=i/\(x 1=r\/x 4=r):=by
 unfold qO;rw[S_,Bool.or_eq_true,P_,P_,P_]
structure Nf(L:eP)(i:Int):Prop where
 a : ∀ q,q<L.gn -> ∀ r,r≠0->qO i r (L.g q)=true -> ∃ j,j<L.rn (i-1).toNat/\L.rq (i-1).toNat j=r
 u : ∀ r,r≠0 -> ∀ q p,q<L.gn->p<L.gn->qO i r (L.g q)=true->qO i r (L.g p)=true->q=p
def Qo(y:iT)(i:Int)(g:Nat->Int):Prop:=g 0=i/\((y.kind=3/\g 1=y.req/\g 2=y.node/\g 3=y.aT)\/(y.kind=4/\g 4=y.req/\g 1=y.of))
def uL(L:eP)(i:Int)(y:iT):Prop:=y.req≠0 /\ ∃ q,q<L.gn/\Qo y i (L.g q)
theorem MO{y:iT}{i:Int}{g:Nat->Int}(h:Qo y i g):qO i y.req g=true:=by
 rw[ze];obtain⟨b,⟨_,a,_⟩|⟨_,a,_⟩⟩:=h
 ·exact⟨b,.inl a⟩
 exact⟨b,.inr a⟩
section
variable {L:eP} {N:Nat} {v:EvM} {i:Int} {y z:iT}
theorem Nf.new(k:Nat):Nf (jP k 0).core i:=⟨fun _ h=>M_ h (z_ _),fun _ _ _ _ h=>M_ h (z_ _)⟩
theorem GH(h:Nf L i)(d:uL L i y) : ∃ q:Nat,tY L i y.req=(q:Int)/\Qo y i (L.g q):=by
 obtain⟨c,q,b,a⟩:=d;unfold tY
 rcases iF (fun q=>qO i y.req (L.g q)) L.gn with ⟨k,f,e,j⟩|⟨_,hn⟩
 ·have:=h.u _ c k q f b j (MO a);subst this;exact⟨k,e,a⟩
 have:=hn q b;rw[MO a]at this; cases this
theorem Qp(b:uL L i y):XD y=true:=by
 obtain⟨a,q,_,_,c⟩:=b;unfold XD;rw[g_ a]
 rcases c with ⟨e,_⟩|⟨e,_⟩
 ·rw[f_ e]; rfl
 rw[f_ e,Bool.or_true]; rfl
theorem OH(h:Nf L i)(f:uL L i y):dw L i y=true/\eX L i y=0:=by
 obtain⟨q,e,g⟩:=GH h f;have d:dw L i y=true:=by
  unfold dw;rw[Qp f,e,f_ (by omega:(0:Int)<=(q:Int))]; rfl
 refine⟨d,?_⟩;unfold eX;rw[d_ d,e,d_];rw[Int.toNat_natCast];obtain⟨_,⟨a,b,c,j⟩|⟨a,b,c⟩⟩:=g
 ·unfold og;rw[f_ a,f_ b,f_ c,f_ j]; rfl
 unfold mY;rw[f_ a,f_ b,f_ c,Bool.or_eq_true]; exact .inr rfl
attribute [local irreducible] fB dn
theorem MP(h:Nf L i)(G:v.o=i)(hr:1<=v.req)(A:iQ L v=0):Nf (jg L v) i/\(∀ w,uL L i w->uL (jg L v) i w) /\ ∃ q,q<(jg L v).gn/\(jg L v).g q=pz v:=by
 unfold iQ at A;split at A
 ·cases A
 rename_i c1;have z:aO v=(i-1).toNat:=by unfold aO; rw[G]
 obtain⟨H,I⟩:=BX (L:=L) (a:=aO v) (r:=v.req) (jg L v) rfl rfl;have D : ∀ j,j<L.gn -> ¬ qO i v.req (L.g j)=true:=fun j m e=>c1 (by
  obtain⟨q,f,d⟩:=h.a j m v.req (by omega) e;unfold eP.kF;rw[vW,z];exact⟨q,f,f_ d⟩)
 obtain⟨k,C⟩ : ∃ k,k=Fx.down (fun i=>CQ v (L.g i)) L.gn:=⟨_,rfl⟩;have y:k<=L.gn:=by rw[C]; exact Fx.uD _ _
 have t:(jg L v).g=Fx.cO L.g k (pz v):=by rw[C]; rfl
 have x:(jg L v).gn=L.gn+1:=rfl;have B : ∀ r,r≠0->qO i r (pz v)=true->r=v.req:=fun r b e=>by
  obtain⟨_,e|e⟩:=ze.1 e
  ·exact e.symm
  ·exact M_ e.symm b
 refine⟨⟨fun q f r b e => ?_,fun r b q p f s n d => ?_⟩,fun w ⟨b,q,f,F⟩=>⟨b,?_⟩,k,by rw[x]; omega,by rw[t,dA]⟩
 ·rw[x]at f;rw[t]at e;rw[<- z]
  rcases dH y f with rfl|⟨j,m,ej,_,_⟩
  ·rw[dA]at e; rw[B r b e]; exact I
  rw[ej]at e;obtain hx:=h.a j m r b e;rw[<- z]at hx;exact H _ _ hx
 ·rw[x]at f s;rw[t]at n d
  rcases dH y f with rfl|⟨j,m,ej,j1,j2⟩
  ·rw[dA]at n
   rcases dH y s with rfl|⟨j,m,ej,j1,j2⟩
   ·rfl
   rw[ej,B r b n]at d; exact M_ d (D j m)
  rw[ej]at n
  rcases dH y s with rfl|⟨l,hl,el,l1,l2⟩
  ·rw[dA]at d; rw[B r b d]at n; exact M_ n (D j m)
  rw[el]at d;have:=h.u r b j l m hl n d;subst this;by_cases c:j<k
  ·rw[j1 c,l1 c]
  rw[j2 (by omega),l2 (by omega)]
 obtain⟨p,s,_,E⟩:=yS (k:=k) f;exact⟨p,by rw[x]; exact s,by rw[t,E]; exact F⟩
theorem MQ(h:Nf L i)(G:v.o=i)(hr:1<=v.req)(s:iJ L v=0):Nf (gG L v) i/\(∀ w,uL L i w->uL (gG L v) i w) /\ ∃ q,q<(gG L v).gn/\(gG L v).g q 0=i/\(gG L v).g q 4=v.req/\(gG L v).g q 1=v.of:=by
 unfold iJ at s;split at s
 ·cases s
 rename_i c1;split at s
 ·cases s
 rename_i c2;have y:aO v=(i-1).toNat:=by unfold aO; rw[G]
 obtain⟨P,Q⟩:=BX (L:=L) (a:=aO v) (r:=v.req) (gG L v) rfl rfl;have F : ∀ j,j<L.gn -> ¬ qO i v.req (L.g j)=true:=fun j K e=>c1 (by
  obtain⟨q,m,f⟩:=h.a j K v.req (by omega) e;unfold eP.kF;rw[vW,y];exact⟨q,m,f_ f⟩)
 have A : ¬ L.grant v.o v.of<0:=fun e=>c2 (.inl e);have B:L.g (xW L v) 4=0:=Classical.byContradiction fun e=>c2 (.inr e);obtain⟨k,M,E,N,O⟩ : ∃ k,k<L.gn/\xW L v=k/\L.g k 0=v.o/\L.g k 1=v.of:=by
  unfold xW
  rcases iF (fun i=>decide (L.g i 0=v.o)&&decide (L.g i 1=v.of)) L.gn with ⟨k,t,e,l⟩|⟨e,_⟩
  ·rw[S_,P_,P_]at l;exact⟨k,t,by unfold eP.grant; rw[e]; rfl,l.1,l.2⟩
  ·unfold eP.grant at A; rw[e]at A; omega
 rw[E]at B;have D : ∀ q,(gG L v).g q=if q=k then aI (L.g k) 4 v.req else L.g q:=fun q=>by rw[<- E]; rfl
 have n : ∀ q p,p≠4->(gG L v).g q p=L.g q p:=fun q p l=>by
  rw[D];by_cases c:q=k
  ·subst c; rw[d_ rfl]; unfold aI; rw[b_ l]
  ·rw[b_ c]
 have z : ∀ q,(gG L v).g q 4=if q=k then v.req else L.g q 4:=fun q=>by
  rw[D];by_cases c:q=k
  ·rw[d_ c,d_ c]; rfl
  ·rw[b_ c,b_ c]
 have R:(gG L v).gn=L.gn:=rfl;have x : ∀ r,r≠0 -> ∀ q,qO i r ((gG L v).g q)=true->qO i r (L.g q)=true\/q=k/\r=v.req:=fun r d q e=>by
  rw[ze]at e ⊢;rw[n q 0 (by decide),n q 1 (by decide),z q]at e;obtain⟨C,b|b⟩:=e
  ·exact .inl ⟨C,.inl b⟩
  ·by_cases c:q=k
   ·rw[d_ c]at b; exact .inr ⟨c,b.symm⟩
   ·rw[b_ c]at b; exact .inl ⟨C,.inr b⟩
 refine⟨⟨fun q m r d e => ?_,fun r d q p m l b f => ?_⟩,fun w ⟨d,q,m,J⟩=>⟨d,q,m,?_⟩,k,M,by rw[n k 0 (by decide),N,G],by rw[z,d_ rfl],by rw[n k 1 (by decide),O]⟩
 ·rw[<- y]
  rcases x r d q e with e|⟨_,rfl⟩
  ·have H:=h.a q m r d e;rw[<- y]at H;exact P _ _ H
  exact Q
 ·rcases x r d q b with b|⟨rfl,rfl⟩
  ·rcases x r d p f with f|⟨rfl,rfl⟩
   ·exact h.u r d q p m l b f
   exact M_ b (F q m)
  rcases x _ d p f with f|⟨rfl,_⟩
  ·exact M_ f (F p l)
  rfl
 obtain⟨I,t⟩:=J;refine⟨by rw[n q 0 (by decide)]; exact I,?_⟩;rw[n q 1 (by decide),n q 2 (by decide),n q 3 (by decide),z q]
 rcases t with t|⟨k2,k3,k4⟩
 ·exact .inl t
 refine .inr ⟨k2,?_,k4⟩;rw[b_]
 ·exact k3
 rintro rfl;exact d (k3.symm.trans B)
theorem GI(c:bA L v=0):bR v=true/\dW L v=0:=by
 have a:=(DI (iU c)).1;refine⟨a,?_⟩;unfold bA at c;rw[b_ (by rw[a]; decide)]at c;split at c; · cases c
 split at c; · cases c
 split at c; · cases c
 exact c
theorem OI(h:bR v=true):dJ v=true:=by
 unfold bR at h;rw[S_]at h;exact h.2
theorem Ko(h:bR v=true)(a:v.kind=3\/v.kind=4):1<=v.req:=by
 have:=OI h;unfold dJ at this
 rcases a with k|k
 ·rw[k,b_ (by decide),b_ (by decide),d_ rfl,S_]at this;exact h_ this.2
 rw[k,b_ (by decide),b_ (by decide),b_ (by decide),d_ rfl,S_,S_]at this;exact h_ this.1.1
theorem MR(h:Nf L i)(l:v.o=i):Nf (bT L v) i/\(∀ w,uL L i w->uL (bT L v) i w):=by
 unfold bT;by_cases c:bA L v=0
 ·rw[d_ c];obtain⟨k,e⟩:=GI c;have f:Nf (gH L v) i/\(∀ w,uL L i w->uL (gH L v) i w):=by
   unfold dW at e;unfold gH;by_cases m:v.kind=1
   ·rw[d_ m]; exact⟨⟨h.a,h.u⟩,fun w d=>d⟩
   rw[b_ m]at e ⊢;by_cases n:v.kind=2
   ·rw[d_ n]; exact⟨⟨h.a,h.u⟩,fun w d=>d⟩
   rw[b_ n]at e ⊢;by_cases g:v.kind=3
   ·rw[d_ g]at e ⊢;obtain⟨a,b,_⟩:=MP h l (Ko k (.inl g)) e;exact⟨a,b⟩
   rw[b_ g]at e ⊢;by_cases j:v.kind=4
   ·rw[d_ j]at e ⊢;obtain⟨a,b,_⟩:=MQ h l (Ko k (.inr j)) e;exact⟨a,b⟩
   rw[b_ j];split
   ·exact⟨⟨h.a,h.u⟩,fun w d=>d⟩
   split <;> exact⟨⟨h.a,h.u⟩,fun w d=>d⟩
  exact⟨⟨f.1.a,f.1.u⟩,fun w d=>f.2 w d⟩
 rw[b_ c]; exact⟨h,fun w d=>d⟩
theorem OJ(h:Nf L i)(c:bA L v=0)(d:v.o=i)(l:y.kind=3\/y.kind=4)(b:v.kind=y.kind)(n:v.node=y.node)(p:v.aT=y.aT)(j:v.req=y.req)(r:v.of=y.of):uL (bT L v) i y:=by
 unfold bT;rw[d_ c];obtain⟨s,a⟩:=GI c;have m:=Ko s (by rw[b]; exact l);refine⟨by omega,?_⟩;show ∃ q,q<(gH L v).gn/\Qo y i ((gH L v).g q);unfold dW at a;unfold gH
 rcases l with k3|k4
 ·have k:v.kind=3:=b.trans k3;rw[b_ (by rw[k]; decide),b_ (by rw[k]; decide),d_ k]at a ⊢;obtain⟨_,_,q,f,e⟩:=MP h d m a;exact⟨q,f,by rw[e]; exact⟨d,.inl ⟨k3,j,n,p⟩⟩⟩
 have k:v.kind=4:=b.trans k4;rw[b_ (by rw[k]; decide),b_ (by rw[k]; decide),b_ (by rw[k]; decide),d_ k]at a ⊢;obtain⟨_,_,q,f,t,w,u⟩:=MQ h d m a;exact⟨q,f,t,.inr ⟨k4,w.trans j,u.trans r⟩⟩
end
end Rt
end Go.Proofs.YtcbedgfikejkoaaGreatDoor
namespace Go.Proofs.YtcbedgfikejkoaaGreatDoor
open Go.RowKit Rt
open Fx (Ws ev cO down)
section
namespace Rt
def KO(L:eP):Prop := ∀ q,6<=q->L.known q=0
def G5(L:eP):Prop := ∀ q,q<L.gn -> ∀ p,5<=p->L.g q p=0
structure GK(L:eP):Prop where
 g:yu L
 k:KO L
 r:G5 L
structure WG(M:WM):Prop where
 g : ∀ o,o<M.n->GK (M.ml o).core
section
variable {ev:Nat->EvM} {K:Nat->Int} {an k i c N N':Nat} {L L':eP} {v:EvM} {m:dQ}
attribute [local irreducible] fB dn in
theorem KO.apply(h:KO L):KO (bT L v):=by
 rcases oK L v with ⟨c,e⟩|⟨_,e⟩
 ·intro q a;have:=kH (DI (iU c)).1;rw[e]; unfold aI; rw[b_ (by omega)]; exact h q a
 rw[e]; exact h
attribute [local irreducible] fB dn in
theorem G5.apply(h:G5 L):G5 (bT L v):=by
 unfold bT;split
 ·show ∀ q,q<(gH L v).gn -> ∀ p,5<=p->(gH L v).g q p=0;unfold gH;split; · exact h
  split; · exact h
  split
  ·intro q a p b;have a:q<L.gn+1:=a;show cO L.g (down (fun i=>CQ v (L.g i)) L.gn) (pz v) q p=0;have c:down (fun i=>CQ v (L.g i)) L.gn<=L.gn:=Fx.uD _ _;generalize down (fun i=>CQ v (L.g i)) L.gn=k at c ⊢
   rcases dH c a with rfl|⟨j,hj,ej,_,_⟩
   ·rw[dA]; unfold pz; rw[b_ (by omega),b_ (by omega),b_ (by omega),b_ (by omega)]
   rw[ej]; exact h j hj p b
  split
  ·intro q a p b;have a:q<L.gn:=a;show aI L.g (xW L v) (aI (L.g (xW L v)) 4 v.req) q p=0;generalize xW L v=k;unfold aI;by_cases e:q=k
   ·rw[d_ e];show(if p=4 then v.req else L.g k p)=0;rw[b_ (by omega),<- e]; exact h q a p b
   rw[b_ e]; exact h q a p b
  split; · exact h
  split <;> exact h
 exact h
theorem KO.eq(h:KO L)(a:KO L')(e : ∀ q,q<6->L'.known q=L.known q):L'.known=L.known:=by
 funext q
 by_cases c:q<6
 ·exact e q c
 rw[h q (by omega),a q (by omega)]
theorem GK.apply(h:GK L)(a:gD v):GK (bT L v):=⟨Gm h.g a,h.k.apply,h.r.apply⟩
theorem XE(k a:Nat):GK (jP k a).core:=⟨Mv k a,fun _ _=>rfl,fun q h=>M_ h (z_ _)⟩
theorem EO(a : ∀ j,j<an->gD (ev j))(h:GK L) : ∀ j,j<=an->GK (nY ev K L j)
 | 0,_=>h
 | j+1,hj=>by
   unfold nY;split
   ·exact(EO a h j (by omega)).apply (a j (by omega))
   ·exact EO a h j (by omega)
theorem MS(a : ∀ j,j<an->gD (ev j)) : ∀ f L,GK L->GK (iK ev an K f L)
 | 0,L,h=>by unfold Rt.iK; exact h
 | f+1,L,h=>by
   unfold Rt.iK;split
   ·exact EO a h an (A_ _)
   ·exact MS a f _ (EO a h an (A_ _))
theorem WG.new{M:WM}(h : ∀ i,(M.ml i).core=(jP M.n 0).core):WG M:=⟨fun o _=>by rw[h]; exact XE _ _⟩
theorem WG.do{w':World}{M d:WM}{B p T o:Nat}{x:Eo}(h:WG M)(l:oN w' B p d T)(i:o<M.n)(b:DoR o x M d v):WG d:=⟨fun q k=>by
 rw[b.n]at k
 rcases b.c with ⟨m,r,f,a⟩|⟨m,r,f,a,h5,h6,h7,h8⟩
 ·by_cases e:q=o
  ·rw[e]
   rcases a with a|⟨_,a⟩
   ·rw[a]; exact h.g o i
   ·rw[a]; exact MS (fun j s=>by have:=l.wf j (by omega); rw[f]at this; exact this) _ _ (h.g o i)
  ·rw[b.oth q e]; exact h.g q k
 ·by_cases e:q=o
  ·rw[e,h5];exact(h.g o i).apply (by have:=l.wf M.an (by omega); rw[f,vo]at this; exact this)
  ·rw[b.oth q e]; exact h.g q k⟩
theorem Qq{f g:Nat->Int}{o:Int} : ∀ {n:Nat},(∀ i,i<n->f i=g i)->ny f o n=ny g o n
 | 0,_=>rfl
 | n+1,h=>by unfold ny; rw[Qq (n:=n) fun i a=>h i (by omega),h n (by omega)]
theorem tV.asks(h:tV k ev an L)(o:tV k ev an L')(W:Ws k ev an)(n : ∀ i,i<6->L'.known i=L.known i) : ∀(a:Nat) (r:Int),a<6->((∃ j,j<L'.rn a/\L'.rq a j=r) <-> ∃ j,j<L.rn a/\L.rq a j=r):=by
 obtain⟨m,N,c,q,d⟩:=h.ex;obtain⟨m',N',f,t,l⟩:=o.ex;have e:eY m'=eY m:=by
  rw[d,l];exact Km n (fun i p=>(W.g i p).reg.2) an (A_ _)
 intro a r b;rw[<- c.s.ask a r b,<- f.s.ask a r b];have:iD m' ((a:Int)+1) r=iD m ((a:Int)+1) r:=congrFun (congrFun (L_ Ab.ask e) _) r;rw[this]
theorem fV.to(h:fV m L)(b:D5 L L')(z:L'.known=L.known)(ha : ∀(a:Nat) (r:Int),a<6->((∃ j,j<L'.rn a/\L'.rq a j=r) <-> ∃ j,j<L.rn a/\L.rq a j=r))(r:G5 L)(A:G5 L'):fV m L':=by
 have o : ∀ {i},i<L'.nn->i<L.nn:=fun {i} q=>by rw[<- b.nn]; exact q
 have s : ∀ {i},i<L'.gn->i<L.gn:=fun {i} q=>by rw[<- b.gn]; exact q
 have t : ∀ q,q<L.gn->L'.g q=L.g q:=fun q l=>by
  funext p
  by_cases c:p<5
  ·exact b.g q l p c
  ·rw[r q l p (by omega),A q (by rw[b.gn]; exact l) p (by omega)]
 refine⟨⟨fun k=>(h.T.has k).trans ⟨fun⟨i,d,e⟩=>⟨i,by rw[b.nn]; exact d,by rw[(b.n i d).1]; exact e⟩,fun⟨i,d,e⟩=>⟨i,o d,by rw[<- (b.n i (o d)).1]; exact e⟩⟩,by rw[b.nn]; exact h.T.n,fun i d=>by rw[(b.n i (o d)).1,(b.n i (o d)).2.1]; exact h.T.par i (o d)⟩,
  by rw[b.inn]; exact h.inn,by rw[b.left]; exact h.left,by rw[z]; exact h.known,fun i d=>by rw[(b.n i (o d)).1,(b.n i (o d)).2.2]; exact h.row i (o d),fun a ha=>by rw[b.nn,Qq (f:=L'.id) (g:=L.id) fun i d=>(b.n i d).1]; exact h.own a ha,
  h.gi,by rw[b.gn]; exact h.gn,fun q l=>by rw[t q (s l)]; exact h.g1 q (s l),fun j y => ?_,fun a r w=>(h.ask a r w).trans (ha a r w).symm,h.ga,fun p q x l u v => ?_⟩
 ·obtain⟨q,l,e⟩:=h.g2 j y;exact⟨q,by rw[b.gn]; exact l,by rw[t q l]; exact e⟩
 rw[t p (s x),t q (s l)]at u v;exact h.li p q (s x) (s l) u v
def nxC(c i n:Nat):Nat:=if c=n then n else i+1
theorem XF(h:c=i\/c=an)(hi:i<an):nxC c i an=i+1\/nxC c i an=an:=by unfold nxC; split <;> omega
theorem afP(h:tV k ev an L)(W:Ws k ev an)(hi:i<an)(b:Kz ev an K)(a : ∀ q,q<6->L.known q=vZ K (fP ev c) q)(j:c=i\/c=an)(d:(ev i).seq<=K (aO (ev i))) : ∀ q,q<6->(bT L (ev i)).known q=vZ K (fP ev (nxC c i an)) q:=by
 unfold nxC;by_cases e:c=an
 ·rw[d_ e];subst e;rw[(afH W hi (fun q f=>(a q f).trans (ajM b q f)) d).2]; exact a
 rw[b_ e];have g:c=i:=by omega
 subst g;exact(h.nextK W hi b a d).2
theorem afQ(W:Ws k ev an)(hi:i<an)(a : ∀ q,q<6->L.known q=vZ K (fP ev c) q)(f:c=i\/c=an)(d : ¬ (ev i).seq<=K (aO (ev i))) : ∀ q,q<6->L.known q=vZ K (fP ev (nxC c i an)) q:=by
 unfold nxC;by_cases e:c=an
 ·rw[d_ e,<- e]; exact a
 rw[b_ e];have b:c=i:=by omega
 subst b;exact ajK W hi a d
end
end Rt
open Rt
theorem xX.to{w:World}{B lp N N':Nat}{m:dQ}{L L':eP}(h:xX w B lp m L N)(c:fV m L')(a:Inv L' N')(b:yu L'):xX w B lp m L' N':=⟨h.q,c,a.toInv0,a.s,b⟩
end
end Go.Proofs.YtcbedgfikejkoaaGreatDoor
