/-
  What the proof of the law rests on, part 7: walks of functions, and plain laws; each says its conditions itself.
-/
import Derived.Test.YtcbedgfikejkoaaGreatDoorZD6
set_option maxRecDepth 20000
set_option linter.unusedVariables false
set_option maxHeartbeats 1600000
set_option linter.unusedSimpArgs false
namespace Go.Proofs.YtcbedgfikejkoaaGreatDoor
open Go.RowKit Rt
open Fx (Lv sN Ln Ws Wl Wr Sb Wk Wb Wx Wo wV yc gH yC tK xZ aA aP bB ev dB aZ bI cells_one iF ig bP bX bY gP gW)
namespace Rt
def Nt(x y:Value):Nat->Value:=fun q=>if q=0 then x else y
theorem ajA(x y v:Value):dB (Nt x y) 0 v=Nt v y:=by funext q; unfold dB Nt; split <;> rfl
theorem ajB(x y v:Value) : ∀ j,j<2->dB (Nt x y) 1 v j=Nt x v j:=fun j a=>by
 unfold dB Nt
 rcases j with _|_|j
 ·rfl
 ·rfl
 ·omega
def H9(a:Nat->Nat):Nat->Value:=fun i=>(pt (a i))
def Jh(w:World)(B n:Nat)(b:Nat->Nat)(a:Nat->mo):Prop := ∀ i,i<n->uh w B (b i) (a i)
theorem Jh.up{w w':World}{B n:Nat}{b:Nat->Nat}{a:Nat->mo}(h:Jh w B n b a)(c:Below w.heap.size w w'):Jh w' B n b a:=fun i d=>(h i d).up c
instance {w w':World} {B n:Nat} {c:Nat->Nat} {a:Nat->mo}:Rt.Tr w w' (Jh w B n c a) (Jh w' B n c a):=⟨fun b h=>h.up b⟩
theorem Jh.lu{w w':World}{B n:Nat}{c:Nat->Nat}{b:Nat->mo}{a:List TypeId}(h:Jh w B n c b)(e:iF a w w')(f:(LM.all fun T => !a.contains T)=true):Jh w' B n c b:=fun i d=>(h i d).lu e f
instance {w w':World} {B n:Nat} {d:Nat->Nat} {c:Nat->mo} {a:List TypeId}:Rt.Tc a w w' (Jh w B n d c) (Jh w' B n d c) (LM.all fun T => !a.contains T):=⟨fun b h e=>h.lu b (by simpa using e)⟩
theorem Jh.put{w:World}{B n o p:Nat}{b:Nat->Nat}{a:Nat->mo}{m:mo}(h:Jh w B n b a)(d:uh w B p m):Jh w B n (aI b o p) (aI a o m):=fun i c=>by
 unfold aI;by_cases e:i=o
 ·rw[d_ e,d_ e]; exact d
 ·rw[b_ e,b_ e]; exact h i c
theorem Jh.snoc{w:World}{B n p:Nat}{b:Nat->Nat}{a:Nat->mo}{m:mo}(h:Jh w B n b a)(c:uh w B p m):Jh w B (n+1) (aI b n p) (aI a n m):=fun i d=>by
 unfold aI;by_cases e:i=n
 ·rw[d_ e,d_ e]; exact c
 ·rw[b_ e,b_ e]; exact h i (by omega)
theorem afP{n p:Nat}{a:Nat->Nat}{z:Nat->Value} : ∀ j,j<(n+1)*1->ig (H9 a) (n*1) (bB z (0*1) 1 (fun _=>(pt p))) j=H9 (aI a n p) j:=by
 intro j b;unfold ig H9 aI;by_cases h:j<n*1
 ·rw[d_ h,b_ (by omega)]
 rw[b_ h,d_ (by omega)];unfold bB;rw[d_ (by omega)]
theorem Xp{o p:Nat}{a:Nat->Nat}:dB (H9 a) o (pt p)=H9 (aI a o p):=by
 funext j; unfold dB H9 aI
 by_cases h:j=o
 ·rw[d_ h,d_ h]
 rw[b_ h,b_ h]
theorem afQ{n:Nat}{e:Nat->EvM}{v:EvM}{z:Nat->Value} : ∀ j,j<(n+1)*14->ig (evX e) (n*14) (bB z (0*14) 14 (bM v)) j=evX (aI e n v) j:=fun j a =>
 (Fx.vS j a).trans (bI (fun i _ q _=>by unfold Fx.rz aI; split <;> rfl) j a)
structure WM where
 n:Nat
 la:Option Addr
 lc:Nat
 pl:Nat->Nat
 ml:Nat->mo
 an:Nat
 aa:Option Addr
 ac:Nat
 ev:Nat->EvM
end Rt
structure oZ(w:World)(B p:Nat)(M:WM)(T:Nat):Prop where
 c:aP w p 2 (Nt (.slice M.la M.n M.lc) (.slice M.aa M.an M.ac)) 78
 l:Fx.Own w B 29 1 (.slice M.la M.n M.lc) M.n (H9 M.pl)
 a:Fx.Own w B 37 14 (.slice M.aa M.an M.ac) M.an (evX M.ev)
 g:Jh w B M.n M.pl M.ml
 inv : ∀ i,i<M.n->Inv (M.ml i).core T
 wf : ∀ k,k<M.an->gL (M.ev k)
 may : ∀ k,k<M.an->bR (M.ev k)=true
 sm : ∀ k,k<M.an->sM (M.ev k)
 cz:Cz M.n M.an M.ev fun o=>(M.ml o).s.known
 pB:B<=p
 n1:1<=M.n
 n6:M.n<=6
theorem oZ.up{w w':World}{B p T:Nat}{M:WM}(h:oZ w B p M T)(b:Below w.heap.size w w'):oZ w' B p M T := { h with c:=h.c.cZ (Sb b) (u_ h.c.lt),l:=h.l.up b,a:=h.a.up b,g:=h.g.up b }
instance {w w':World} {B p T:Nat} {M:WM}:Rt.Tr w w' (oZ w B p M T) (oZ w' B p M T):=⟨fun b h=>h.up b⟩
theorem aam{w:World}{B p k a:Nat}(d:aP w p 27 (mD (mJ k a)) 56)(f:aP w a 1 (fun _ => .slice none 0 0) 156)(h1:B<=p)(b:B<=a):uh w B p (mJ k a) where
 c:=d
 n:=tK _ _ _ _ _
 g:=tK _ _ _ _ _
 tc:=f
 t:=tK _ _ _ _ _
 r:=⟨fun _ _=>tK _ _ _ _ _,fun _ _ _ _ _ _ e=>by cases e⟩
 pB:=h1
 tB:=b
 bn:=K_ _
 bg:=K_ _
 bt:=K_ _
 br:=fun _ _=>K_ _
theorem Rt.Ck(k a:Nat):Inv (mJ k a).core 0 where
 Db:=rfl
 nn:=K_ _
 tid:=fun _ h=>M_ h (z_ _)
 rise:=fun _ _ _ h=>M_ h (z_ _)
 pos:=fun _ h=>M_ h (z_ _)
 top:=fun _ h=>M_ h (z_ _)
 up:=fun _ h=>M_ h (z_ _)
 dep:=fun _=>⟨0,K_ _,by show(-1:Int)<0; decide⟩
 gn:=A_ _
 rn:=fun _ _=>A_ _
 may:=fun _ h=>M_ h (z_ _)
 g47:=fun _ h=>M_ h (z_ _)
 kn:=fun _ _=>⟨N_ _,by show(0:Int)<_; decide⟩
 s:=⟨fun _ h=>M_ h (z_ _),fun _ h=>M_ h (z_ _)⟩
 b:=⟨fun _ _=>N_ _,fun _ h=>M_ h (z_ _),fun _ _ _ h=>M_ h (z_ _)⟩
set_option maxRecDepth 20000 in
theorem OX(n:Nat)(w:World)(V:1<=n)(W:n<=6) :
 Calls Tryz.prog 27 #[au (n:Int)] w fun e w' => ∃ p M,e = .returned (pt p)/\M.n=n/\M.an=0/\(∀ i,(M.ml i).core=(mJ n 0).core)/\oZ w' w.heap.size p M 0/\Below w.heap.size w w':=by
 refine Kent Tryz.func27 30 ?_;refine ay<|av (.pointer none)<|aC<|ay<|av (.agg (aA 2 (fun _ => .slice none 0 0)))<|oz fun b P kQ X s1 z1 => ?_;have b1:=bf s1.old (Below.refl w.heap.size w);have rF:=gD kQ;have sQ:=X.lt;refine av (pt b)<|aC<|Ws<|ay<|av (au 0)<|aC<|Wb ?_;have m2:aP P b 2 (Nt (.slice none 0 0) (.slice none 0 0)) 78:=X.congr (fun j _=>by unfold Nt; split <;> rfl)
 have m3:Fx.Own P w.heap.size 29 1 (.slice none 0 0) 0 (H9 (fun _=>0)):=tK _ _ _ _ _;have m4:Jh P w.heap.size 0 (fun _=>0) (fun _=>mJ n 0):=fun _ h=>M_ h (z_ _);refine Wo (fun f G => ∃ k:Nat,∃ a:Option Addr,∃ u:Nat,∃ t:Nat->Nat,∃ r:Nat->mo,k<=n/\(∀ i,∃ z,r i=mJ n z)/\f 0=au (n:Int)/\f 3=(pt b)/\f 4=au (k:Int)/\aP G b 2 (Nt (.slice a k u) (.slice none 0 0)) 78/\Fx.Own G w.heap.size 29 1 (.slice a (k) (u)) k (H9 t)/\Jh G w.heap.size k t r/\Below w.heap.size w G) (fun f _=>(n-(intOf (f 4)).toNat)) ⟨0,none,0,(fun _=>0),(fun _=>mJ n 0),by omega,(fun _=>⟨0,rfl⟩),Fx.ic,(by rfl),Fx.ic,m2,m3,m4,b1⟩ ?_;rintro f1 w2 ⟨k,a,u,t,r,hk,F,J,E,K,m5,m6,m7,A⟩;refine Ws<|ay<|aU K<|aU J ?_;by_cases S:(k:Int)<(n:Int)
 ·refine Lv aG (gM S)<|aC<|aM<|Wk<|sN<|Ws<|Wb<|ay<|aU J<|lD (aib n _ V W) ?_;rintro e9 w3 ⟨d,O,T,hp3,_,hb3,hc3,ht3,arV⟩;refine⟨.tuple #[(pt d),au 0],T,?_⟩;clear T;have⟨N,m9,m10,Q⟩:=jN hb3 m5 m6 m7 A;have hL1:uh w3 w.heap.size d (mJ n O):=aam hc3 ht3 (m_ A.size hp3) (m_ A.size arV);refine av (.tuple #[(pt d),au 0])<|av (pt d)<|av (au 0)<|av (pt d)<|av (au 0)<|aC<|Wl<|aU E<|aU E<|av (pt b)<|av (pt b)<|Lv (.slice a (k) (u)) (aL N.aH 0)<|av (pt d)<|wV (vs := [(0,(pt d))]) (s:=1) (zc:=fun _ => .pointer none) (y:=bB (fun j => .pointer none) (0*1) 1 (fun _=>(pt d))) (by rfl) rfl rfl Tryz.underlying75 (by kernel_rfl) (by rfl) (by rfl) (by kernel_rfl) (by rw[aZ (off:=0*1) (s:=1) (y:=fun _=>(pt d)) rfl (cells_one (by rfl)) (by rfl)]; rfl) rfl fun g2 w4 I Y s3 z2 => ?_;have⟨m12,L,m14,m15,H⟩:=nN s3.old N m9 m10 hL1 Q;have pO:=iw I Q.size;have Dk:=cu I N.lt;have zf:(.slice a (k) (u):Value).ownBlock≠some g2:=by rw[I]; exact m9.jF (A_ _)
  have yu:=Y.lt;refine yc (B:=w.heap.size) (s:=1) (bytes:=8) (k:=k) (m:=1) (v := .slice a (k) (u)) (x:=H9 t) (by rfl) rfl rfl rfl Tryz.underlying75 (by kernel_rfl) (by kernel_rfl) rfl rfl L Y.aH (uT (fun _=>rfl)) (by omega) (by omega) (by omega) H.size fun D C w5 ho1 U tO hlt1 => ?_;have fV:=yC U L;have⟨Z,m18,m19⟩:=zZ fV m12 m14 m15;have m16:Fx.Own w5 w.heap.size 29 1 (bK D (k+1) C) (k+1) (H9 (aI t k d)):=(ho1.congr (fun j hj=>afP j hj));have R:Below w.heap.size w w5:=xZ H U H.size (fun q hq=>(L.ge hq).1);refine av (pt b)<|av (pt b)<|ji Z 0 (bK D (k+1) C) fun w6 m20 s4 z3 => ?_;have m21:aP w6 b 2 (Nt (bK D (k+1) C) (.slice none 0 0)) 78:=m20.to (ajA _ _ _);have jr:=gH s4 Z.ty;have⟨m22,m23,m24⟩:=zZ jr m18 m19 m16;have b6:=s4.below R R.size (by omega);refine Ln<|bP<|sN<|Wl<|aU K<|Lv (au ((k:Int)+1)) fA<|av (au ((k:Int)+1))<|Ln ?_;have mZ:Jh w6 w.heap.size (k+1) (aI t k d) (aI r k (mJ n O)):=m22.snoc m23
  skip
  refine gW ⟨k+1,(some ⟨D,0,none⟩),C,(aI t k d),(aI r k (mJ n O)),by omega,(fun i=>by unfold aI; split <;> first|exact⟨_,rfl⟩|exact F i),(J.trans Fx.ic),E,Fx.ic,m21,m24,mZ,b6⟩ ?_
  show(n-(intOf (au ((k:Int)+1))).toNat)<_;simp only[K,intOf]; omega
 refine Lv aF (gN S)<|aC<|aK<|Wx<|bX<|gP<|bY<|sN<|ay<|aU E<|av (pt b)<|aC<|Wr<|aJ (pt b) ?_;obtain rfl:k=n:=by omega
 exact⟨b,⟨k,a,u,t,r,0,none,0,fun _=>⟨0,0,fun _=>0,0,0,0,0,0,0⟩⟩,rfl,rfl,rfl,(fun i=>by obtain⟨z,e⟩:=F i; show(r i).core=_; rw[e]; rfl),{ c:=m5,l:=m6,a:=tK _ _ _ _ _,g:=m7,inv:=fun i _=>by obtain⟨z,e⟩:=F i; show Inv (r i).core 0; rw[e]; exact Ck k z,wf:=fun _ h=>M_ h (z_ _),may:=fun _ h=>M_ h (z_ _),sm:=fun _ h=>M_ h (z_ _),cz:=Cz.zero k (fun o _=>by obtain⟨z,e⟩:=F o; show(r o).s.known=_; rw[e]; rfl),pB:=rF,n1:=V,n6:=W },A⟩
end Go.Proofs.YtcbedgfikejkoaaGreatDoor
namespace Go.Proofs.YtcbedgfikejkoaaGreatDoor
open Go.RowKit Go Rt
namespace Rt
section
variable {L:dP} {N:Nat} {v:EvM}
theorem OY(b:Inv0 L N)(h:Bf L):Bf (bV L v):=by
 unfold bV;by_cases c:bD L v=0
 ·rw[d_ c];have a:=(Ew (jD c)).1;have d:dX L v=0:=by
   unfold bD at c;rw[b_ (by rw[a]; decide)]at c;split at c; · cases c
   split at c; · cases c
   split at c; · cases c
   exact c
  have:=IY b h a d;exact⟨this.us,this.gb⟩
 rw[b_ c]; exact h
def jy(L:dP)(x i:Int):Int:=if L.node x<0 then 0 else bT (L.R (L.node x).toNat) i
theorem OZ(i:Int):bT Gw i=0:=by
 unfold bT;by_cases c:(gG i&&may Gw)=true
 ·rw[d_ c];rw[T_]at c;obtain⟨a,d,e,b⟩:=qw c.1;have:=zK (mI c.2) a d;rw[b,this]; rfl
 rw[b_ c]
theorem fZ.local{m:dN}(h:fZ m L)(a:Inv0 L N)(x i:Int):bT (aY m x) i=jy L x i:=by
 unfold aY jy;by_cases c:L.node x<0
 ·rw[b_ (by rw[(h.MN a x).2 c]; decide),d_ c]; exact OZ i
 rw[d_ ((h.node a x).2 (by omega)),b_ c,h.rk a (by omega)]
structure Ji(m m':dN):Prop where
 et:m'.tp=m.tp
 em:m'.mb=m.mb
 ep:m'.pb=m.pb
 er:m'.rb=m.rb
 eg:m'.gb=m.gb
 ea:m'.ab=m.ab
end
end Rt
structure vP(w:World)(B lp:Nat)(m:dN)(L:dP)(N:Nat):Prop where
 q:mM w B lp m
 s:fZ m L
 i:Inv0 L N
 u:Bf L
 g:yG L
section
variable {w w':World} {B lp:Nat} {m:dN} {L:dP} {N:Nat} {v:EvM}
theorem vP.up(h:vP w B lp m L N)(a:Below w.heap.size w w'):vP w' B lp m L N := { h with q:=h.q.up a }
instance:Rt.Tr w w' (vP w B lp m L N) (vP w' B lp m L N):=⟨fun b h=>h.up b⟩
theorem vP.lu{a:List TypeId}(h:vP w B lp m L N)(b:Fx.iF a w w')(c:(a.contains 114 || a.contains 165)=false):vP w' B lp m L N := { h with q:=h.q.lu b c }
instance {a:List TypeId}:Rt.Tc a w w' (vP w B lp m L N) (vP w' B lp m L N) (!(a.contains 114 || a.contains 165)):=⟨fun b h e=>h.lu b (by simpa using e)⟩
theorem vP.weak{a:Nat}(h:vP w B lp m L N)(b:a<=B):vP w a lp m L N := { h with q:=h.q.weak b }
theorem vP.mono{N':Nat}(h:vP w B lp m L N)(a:N<=N'):vP w B lp m L N' := { h with i:=h.i.mono a }
theorem vP.wf(h:vP w B lp m L N)(a:N<=900000):LWf L:=LWf.of h.i h.u h.g a
theorem mM.Kk(h:mM w B lp m)(a:Fx.jM (R8 m lp w.heap.size) w w')(c:B<=w.heap.size):Below B w w':=⟨a.os,a.tape,a.output,a.size,fun k d=>a.block k (by omega) fun b=>by
 rcases b with b|b
 ·have:=(h.ltS b).1; omega
 ·omega⟩
theorem mM.typed(h:mM w B lp m)(d:Fx.jM (R8 m lp w.heap.size) w w'):Fx.zF [114] w w':=⟨d.os,d.tape,d.output,d.size,fun k T b e=>d.block k b.ltw fun f=>by
 rcases f with (rfl|rfl|rfl|rfl|rfl|rfl)|f
 ·have:=Fx.Ty.only h.c.ty b;rw[this]at e; simp at e
 ·exact h.t.map.tL b
 ·exact h.p.tL b
 ·exact h.r.tL b
 ·exact h.g.tL b
 ·exact h.a.tL b
 ·have:=b.ltw; omega⟩
theorem ajC{B:Nat}{a b c:World}(h:Below a.heap.size a b)(e:Below B b c)(d:a.heap.size<=B):Below a.heap.size a c:=h.trans (e.mono d)
theorem zR{P:Program}{g:Nat}{a b:Array Value}{w:World}{R:Ending->World->Prop}(h:Calls P g b w R)(e:a=b):Calls P g a w R:=e ▸ h
theorem QK{x:Value}{y:Nat->Value}(hy : ∀ j,j<14->y j=bM v j):(#[x,.agg (Fx.aA 14 y)]:Array Value) = #[x,.agg (Fx.aA 14 (bM v))]:=L_ (fun z=>(#[x,.agg z]:Array Value)) (Fx.dZ hy)
theorem ajD(k:Nat)(d:1<=k/\k<=6)(w:World):Calls Tryz.prog 29 #[au (k:Int)] w fun e w' => ∃ lp m,e = .returned (.tuple #[(pt lp),au 0])/\vP w' w.heap.size lp m (mJ k 0).core 0/\Below w.heap.size w w' :=
 (ajt k d w).mono fun e w' ⟨lp,m,c,⟨n,i,j,l,h,g,a⟩,f,b⟩=>⟨lp,m,c,⟨f,by rw[a]; exact fZ.new ..,(Ck k 0).toInv0,(Ck k 0).s,MP k 0⟩,b⟩
theorem QL(h:vP w B lp m L N)(b:gL v)(c:1<=B)(d:Fx.iU w 0 0 8 Cj){y:Nat->Value}(hy : ∀ j,j<14->y j=bM v j) :
 Calls Tryz.prog 20 #[(pt lp),.agg (Fx.aA 14 y)] w fun e w'=>e = .returned (au (bD L v))/\vP w' B lp (jY m v) (bV L v) (N+1)/\Fx.jM (R8 m lp w.heap.size) w w':=by
 have a:=h.s.apply h.q.t.inv h.i v;refine zR ((ZY m lp B w h.q v b (h.s.sound h.q.t.inv h.i) c d).mono fun e w' ⟨k,l,f⟩=>⟨by rw[k,a.1],⟨l,a.2,Bd h.i,OY h.i h.u,Gz h.g b⟩,f⟩) (QK hy)
theorem aan(h:vP w B lp m L N)(g:gL v)(a:1<=B)(b:Fx.iU w 0 0 8 Cj){y:Nat->Value}(hy : ∀ j,j<14->y j=bM v j) :
 Calls Tryz.prog 19 #[(pt lp),.agg (Fx.aA 14 y)] w fun e w'=>e = .returned (au (bD L v))/\Below w.heap.size w w':=by
 have f:=h.s.apply h.q.t.inv h.i v;refine zR ((arz m lp B w h.q v g (h.s.sound h.q.t.inv h.i) a b).mono fun e w' ⟨d,c⟩=>⟨by rw[d,f.1],c⟩) (QK hy)
theorem QM(h:vP w B lp m L N):Calls Tryz.prog 21 #[(pt lp)] w fun e w'=>e = .returned (.agg (Fx.aA 6 (Fx.rv .u64 L.known)))/\Below w.heap.size w w':=by
 rw[<- h.s.known]; exact Z0 m lp B w h.q
theorem QN(h:vP w B lp m L N)(i x:Int)(hi : -9223372036854775808<=i/\i<=9223372036854775807):Calls Tryz.prog 31 #[(pt lp),au i,aD x] w fun e w'=>e = .returned (au (jy L x i))/\Below w.heap.size w w':=by
 rw[<- h.s.local h.i]; exact Z4 m lp B w h.q i x hi
structure KP(w:World)(B:Nat)(s:uR)(L:dP):Prop where
 e:s=qM L s.na s.nc s.ga s.gc
 n:Fx.Own w B 84 56 (.slice s.na L.nn s.nc) L.nn (Fx.flat 56 (OW L))
 g:Fx.Own w B 106 5 (.slice s.ga L.gn s.gc) L.gn (Fx.flat 5 (Ns L))
theorem KP.r{s:uR}(h:KP w B s L):KI w s L:=⟨h.e,h.n.arr,h.g.arr⟩
theorem KP.up{s:uR}(h:KP w B s L)(a:Below w.heap.size w w'):KP w' B s L:=⟨h.e,h.n.up a,h.g.up a⟩
instance {s:uR}:Rt.Tr w w' (KP w B s L) (KP w' B s L):=⟨fun b h=>h.up b⟩
theorem KP.lu{s:uR}{a:List TypeId}(h:KP w B s L)(c:Fx.iF a w w')(b:(a.contains 84 || a.contains 106)=false):KP w' B s L:=by
 rw[Bool.or_eq_false_iff]at b;exact⟨h.e,h.n.lu c b.1,h.g.lu c b.2⟩
instance {s:uR} {a:List TypeId}:Rt.Tc a w w' (KP w B s L) (KP w' B s L) (!(a.contains 84 || a.contains 106)):=⟨fun b h e=>h.lu b (by simpa using e)⟩
theorem KP.Em{s:uR}{a:List TypeId}(h:KP w B s L)(c:Fx.zF a w w')(b:(a.contains 84 || a.contains 106)=false):KP w' B s L:=by
 rw[Bool.or_eq_false_iff]at b;exact⟨h.e,h.n.Em c b.1,h.g.Em c b.2⟩
theorem Kl(h:vP w B lp m L N)(z:N<=900000):Calls Tryz.prog 18 #[(pt lp)] w fun e w' => ∃ s,e = .returned (.agg (Fx.aA 20 (kI s)))/\KP w' w.heap.size s L/\Below w.heap.size w w':=by
 refine(aai m lp B w h.q (by rw[h.s.gn]; have:=h.i.gn; omega)).mono fun e w' ⟨s,l,y,x,a,v⟩=>⟨s,x,?_,v⟩;have b:=StC.of h.s h.i h.g a.ls a.gs;have o:s.nn=L.nn:=by rw[a.nn,b.nn]
 have p:s.gn=L.gn:=by rw[a.gn,b.gn]
 have f:=a.n;have d:=a.g;rw[o]at f;rw[p]at d;refine⟨(KI.of a h.s h.i h.g).e,f.congr (Fx.bI fun k c j _ => ?_),d.congr (Fx.bI fun k c j _ => ?_)⟩
 ·obtain⟨r,t,u⟩:=b.n k c;unfold Xk OW;rw[t,u,r]
 unfold Yq Ns;rw[b.g k c]
end
end Go.Proofs.YtcbedgfikejkoaaGreatDoor
namespace Go.Proofs.YtcbedgfikejkoaaGreatDoor
open Go.RowKit Rt
open Fx (bA dA gI dQ gy Lv sN Ln Ws Qv Wl Rp Wc Wr Sb Wk rV sR Rs Rd Wb qZ Qn wV yc gH yC uG uW vI Bo zX rv aA aP bB ev Stp aQ dB aS aZ jM iN bE cells_one iF bJ rT jS bP)
namespace Rt
theorem Xq{m:dN}(b:m.T.ok)(v:EvM):(jY m v).T.ok:=by
 unfold jY;by_cases c:cK m v=0
 ·rw[d_ c];have f:=qK c;have a:=(qL c).2.1;have g:=oP f;show(je m v).T.ok;unfold fM at a;unfold je;by_cases d:v.kind=1
  ·rw[d_ d]at a ⊢;have e:m.T.err (oC v) v.node=0:=by
    unfold jw at a;split at a
    ·cases a
    ·exact a
   exact Cq.put b e (by unfold oC; omega)
  rw[b_ d]
  repeat' split
  all_goals exact b
 rw[b_ c]; exact b
structure GD(m:dN)(L:dP)(N:Nat):Prop where
 s:fZ m L
 t:m.T.ok
 i:Inv0 L N
theorem GD.new(k:Nat):GD (zk k 0 0 0 0 0 0) (mJ k 0).core 0:=⟨fZ.new ..,Cq.zero _ _,(Ck k 0).toInv0⟩
theorem GD.apply{m:dN}{L:dP}{N:Nat}(h:GD m L N)(v:EvM):GD (jY m v) (bV L v) (N+1):=⟨(h.s.apply h.t h.i v).2,Xq h.t v,Bd h.i⟩
end Rt
namespace Rt
structure ED where
 who:Nat
 meet:Bool
 other:Nat
 kind:Nat
 node:Nat
 dst:Nat
 aT:Nat
 req:Nat
 of:Nat
structure GH(x:ED):Prop where
 who:x.who<=255
 other:x.other<=255
 kind:x.kind<=255
 node:x.node<=255
 dst:x.dst<=255
 aT:x.aT<=65535
 req:x.req<=255
 of:x.of<=255
def GI(x:ED):Nat->Value:=fun p=>if p=0 then .int .u8 (x.who:Int)else if p=1 then .bool x.meet else if p=2 then .int .u8 (x.other:Int)else if p=3 then .int .u8 (x.kind:Int)else if p=4 then .int .u8 (x.node:Int)else if p=5 then .int .u8 (x.dst:Int)else if p=6 then .int .u16 (x.aT:Int)else if p=7 then .int .u8 (x.req:Int)else .int .u8 (x.of:Int)
theorem EF{k n r:Nat}(e:r=k % n):Int.tmod (k:Int) (n:Int)=(r:Int):=by
 rw[Int.tmod_eq_emod_of_nonneg (by omega),e];exact(Int.natCast_emod k n).symm
theorem Fa(V:EvM)(x:Int) : ∀ j,j<14->dB (bM V) 9 (aD x) j=bM { V with node:=x } j:=fun j a=>by
 rcases j with _|_|_|_|_|_|_|_|_|_|_|_|_|_|j <;> first|rfl|omega
theorem Xr(V:EvM)(x:Int) : ∀ j,j<14->dB (bM V) 10 (au x) j=bM ⟨V.o,V.seq,V.deps,V.kind,V.node,x,V.aT,V.req,V.of⟩ j:=fun j a=>by
 rcases j with _|_|_|_|_|_|_|_|_|_|_|_|_|_|j <;> first|rfl|omega
theorem GJ(V:EvM)(x:Int) : ∀ j,j<14->dB (bM V) 11 (au x) j=bM { V with aT:=x } j:=fun j a=>by
 rcases j with _|_|_|_|_|_|_|_|_|_|_|_|_|_|j <;> first|rfl|omega
theorem Xt(V:EvM)(x:Int) : ∀ j,j<14->dB (bM V) 12 (aD x) j=bM { V with req:=x } j:=fun j a=>by
 rcases j with _|_|_|_|_|_|_|_|_|_|_|_|_|_|j <;> first|rfl|omega
theorem ajF(V:EvM)(x:Int) : ∀ j,j<14->dB (bM V) 13 (aD x) j=bM { V with of:=x } j:=fun j a=>by
 rcases j with _|_|_|_|_|_|_|_|_|_|_|_|_|_|j <;> first|rfl|omega
end Rt
set_option maxRecDepth 20000 in
set_option maxHeartbeats 2000000 in
theorem aao(M:WM)(B p T:Nat)(x:ED)(w:World)(Z:oZ w B p M T)(hx:GH x) :
 Calls Tryz.prog 57 #[(pt p),.agg (aA 9 (GI x))] w fun e w' => ∃ V,gL V/\sM V/\(V.o=((x.who % M.n:Nat):Int)+1/\V.seq=(M.ml (x.who % M.n)).s.known (x.who % M.n)+1/\V.deps=(M.ml (x.who % M.n)).s.known)/\e = .returned (.agg (aA 14 (bM V)))/\Below w.heap.size w w':=by
 have hWc:=Z.c;have hWl:=Z.l;have hWa:=Z.a;have hWg:=Z.g;have hn1:=Z.n1;have hn6:=Z.n6;have hpB:=Z.pB;have lpp:p<w.heap.size:=hWc.lt;have hxw:=hx.who;have hxo:=hx.other;have hxk:=hx.kind;have hxn:=hx.node;have hxt:=hx.dst;have hxa:=hx.aT;have hxr:=hx.req;have hxf:=hx.of;refine Kent Tryz.func57 143 ?_;refine ay<|oz fun G w1 kQ m1 s1 z1 => ?_;have⟨m2,m3,m4,m5,b1⟩:=nN s1.old hWc hWl hWa hWg (Below.refl w.heap.size w);have rF:=gD kQ;have ny:=cu kQ hWc.lt;have sQ:=m1.lt;refine qR 14 zQ0 fun U w2 yw m6 s2 z2 => ?_;have⟨m7,m8,m9,m10,m11,b2⟩:=oJ s2.old m2 m3 m4 m5 m1 b1;have pO:=iw yw b1.size;have LQ:=cu yw m2.lt;have Mr:(.slice M.aa (M.an) (M.ac):Value).ownBlock≠some U:=by rw[yw]; exact m4.jF (A_ _)
 have Gp:=cu yw m1.lt;have yu:=m6.lt;refine aC<|Ws ?_;obtain⟨o,eo⟩ : ∃ r,r=x.who % M.n:=⟨_,rfl⟩;have ho:o<M.n:=by rw[eo]; exact J_ _ (by omega)
 refine vV<|aW (pt G)<|Qv (.int .u8 (x.who:Int)) (fun E D=>aL (m11.aH.dr D) 0)<|Qv (au x.who) (fun E D=>dA rfl rfl (by kernel_rfl) Tryz.underlying3 (iN (by omega) rfl))<|aW (pt p)<|aW (pt p)<|aW (pt p)<|Qv (.slice M.la (M.n) (M.lc)) (fun E D=>aL (m7.aH.dr D) 0)<|aW (au M.n)<|Qv (au o) (fun E D=>Fx.xX rfl rfl rfl (by omega) (EF eo))<|aW (au o)<|Qn ?_;rintro _ ⟨qd,rfl⟩;obtain⟨BM,nV⟩ : ∃ E,E=World.drewN w2 qd:=⟨_,rfl⟩;rw[<- nV];have s3:Stp w2.heap.size w2 BM:=by rw[nV]; exact Sb (jA w2 qd)
 have⟨m12,m13,m14,m15,m16,m17,b3⟩:=jT s3.old m7 m8 m9 m10 m11 m6 b2;clear nV;refine sN<|ay<|av (pt p)<|av (pt p)<|av (pt p)<|Lv (.slice M.la (M.n) (M.lc)) (aL m12.aH 0)<|av (au o) ?_;obtain⟨Eu,eq1⟩:=m13.addr (by omega);have m18:Fx.Own BM B 29 1 (bK Eu M.n M.lc) M.n (H9 M.pl):=m13.eY (L_ (fun q=>Value.slice q M.n M.lc) eq1);refine Lv (pf Eu o) (dw 1 (hx:=(rfl.trans (L_ (fun q=>Value.slice q (M.n) (M.lc)) eq1))))<|Lv (pt (M.pl o)) (aL m18.aH o)<|av (pt (M.pl o))<|aC<|Ws ?_;obtain⟨H,ajG⟩ : ∃ r,r=x.kind % 7:=⟨_,rfl⟩;have ayH:H<7:=by rw[ajG]; exact J_ _ (by omega)
 have aap:=m15 o (by omega);have GL:=aap.c;have ajH:=aap.n;have hkn:=(Z.inv o (by omega)).kn;have hko:=hkn o (by omega);have hko:0<=(M.ml o).s.known o/\(M.ml o).s.known o<1099511627776:=hko;have hU : ∀ k,k<(M.ml o).s.nn->iY ((M.ml o).id k):=fun k hk=>by have Y:=(Z.inv o (by omega)).pos k hk; have I:=(Z.inv o (by omega)).top k hk; exact⟨by show(0:Int)<=(M.ml o).core.id k; omega,by show(M.ml o).core.id k<=_; omega⟩
 have hbn:=(Z.g o (by omega)).bn;refine qZ (T:=37) (T':=37) (a := .tmp 7) (v := .tmp 44) (m:=14) (z:=fun h=>if h<1 then au 0 else if h<8 then aD 0 else if h<9 then .int .u8 (0)else if h<10 then aD 0 else if h<12 then au 0 else aD 0) (y:=bB (bB (bB (bB zQ0 0 1 (fun _=>au ((o:Int)+1))) 1 1 (fun _=>aD ((M.ml o).s.known o+1))) 2 6 (rv .u64 ((M.ml o).s.known))) 8 1 (fun _ => .int .u8 ((H:Int)+1))) (u := .agg (aA 14 (bB (bB (bB (bB zQ0 0 1 (fun _=>au ((o:Int)+1))) 1 1 (fun _=>aD ((M.ml o).s.known o+1))) 2 6 (rv .u64 ((M.ml o).s.known))) 8 1 (fun _ => .int .u8 ((H:Int)+1))))) 20 21 (List.replicate 22 (0,2,[],[])) #[au (o:Int),au ((o:Int)+1),(pt (M.pl o)),au (o:Int),(pt (M.pl o)),(pt (M.pl o)),(pf (M.pl o) 12),(pf (M.pl o) (o+12)),aD ((M.ml o).s.known o),aD ((M.ml o).s.known o+1),(pt (M.pl o)),(pt (M.pl o)),(pt (M.pl o)),(pf (M.pl o) 12),.agg (aA 6 (rv .u64 ((M.ml o).s.known))),(pf G 3),.int .u8 (x.kind:Int),.int .u8 (H:Int),.int .u8 ((H:Int)+1),.agg (aA 14 (bB (bB (bB (bB zQ0 0 1 (fun _=>au ((o:Int)+1))) 1 1 (fun _=>aD ((M.ml o).s.known o+1))) 2 6 (rv .u64 ((M.ml o).s.known))) 8 1 (fun _ => .int .u8 ((H:Int)+1)))),undef,undef] (by kernel_rfl) (by kernel_rfl) (by kernel_rfl) (by kernel_rfl) (by kernel_rfl) (by kernel_rfl) rfl (by kernel_rfl) rfl rfl (by kernel_rfl) (fun A=>(show ev _ (.tmp 7)=(pt A)from by kernel_rfl)) (fun A=>(show ev _ (.tmp 44) = .agg (aA 14 (bB (bB (bB (bB zQ0 0 1 (fun _=>au ((o:Int)+1))) 1 1 (fun _=>aD ((M.ml o).s.known o+1))) 2 6 (rv .u64 ((M.ml o).s.known))) 8 1 (fun _ => .int .u8 ((H:Int)+1))))from by kernel_rfl)) (bE _ _) (bJ (bJ (bJ (bJ (fun jq _=>by show(zQ0 jq).oneCell'=true; simp only[zQ0]; repeat (first|rfl|split)) (fun _ _=>rfl)) (fun _ _=>rfl)) (fun _ _=>rfl)) (fun _ _=>rfl)) (by kernel_rfl) (fun A => ?_) ?_
 ·refine⟨?_,?_,?_,?_,?_,?_,?_,?_,?_,?_,?_,?_,?_,?_,?_,?_,?_,?_,?_,?_,?_,?_,trivial⟩
  ·exact .inr (.inr qV)
  ·exact .inr (.inr (uH (au ((o:Int)+1)) fun E D=>Fx.KT rfl (show ev _ (.tmp 25)=au (o:Int)from by kernel_rfl) (show ev _ (.const (au 1))=au 1 from by kernel_rfl) Fx.io))
  ·exact .inr (.inr qV)
  ·exact .inr (.inr qV)
  ·exact .inr (.inr qV)
  ·exact .inr (.inr qV)
  ·exact .inr (.inr qV)
  ·exact .inr (.inr (uH (pf (M.pl o) (o+12)) fun E D=>gI rfl (show ev _ (.tmp 31)=(pf (M.pl o) 12)from by kernel_rfl) (show ev _ (.tmp 28)=au (o:Int)from by kernel_rfl) Tryz.underlying35 (s:=1) (by kernel_rfl) (by omega) (by omega) (by omega)))
  ·exact .inr (.inr (uH (aD ((M.ml o).s.known o)) fun E D=>bA (x:=mD (M.ml o)) rfl (show ev _ (.tmp 32)=(pf (M.pl o) (o+12))from by kernel_rfl) (by kernel_rfl) (GL.aH.below D (by have:=GL.lt; omega)) (i:=o+12) (by omega) (by omega) (kV _ (by omega) (jV _ (by omega) (by omega)))))
  ·exact .inr (.inr (uH (aD ((M.ml o).s.known o+1)) fun E D=>Fx.KT rfl (show ev _ (.tmp 33)=aD ((M.ml o).s.known o)from by kernel_rfl) (show ev _ (.const (aD 1))=aD 1 from by kernel_rfl) (jS (by omega) (by omega))))
  ·exact .inr (.inr qV)
  ·exact .inr (.inr qV)
  ·exact .inr (.inr qV)
  ·exact .inr (.inr qV)
  ·exact .inr (.inr (uH (.agg (aA 6 (rv .u64 ((M.ml o).s.known)))) fun E D=>dQ (x:=mD (M.ml o)) (y:=rv .u64 ((M.ml o).s.known)) rfl (show ev _ (.tmp 38)=(pf (M.pl o) 12)from by kernel_rfl) (by kernel_rfl) (by kernel_rfl) (GL.aH.below D (by have:=GL.lt; omega)) (i:=12) (by omega) (by omega) (fun j C=>kV _ (by omega) (jV _ C (by omega)))))
  ·exact .inr (.inr qV)
  ·exact .inr (.inr (uH (.int .u8 (x.kind:Int)) fun E D=>bA (x:=GI x) rfl (show ev _ (.tmp 40)=(pf G 3)from by kernel_rfl) (by kernel_rfl) (m16.aH.below D (by have:=m16.lt; omega)) (i:=3) (by omega) (by omega) rfl))
  ·exact .inr (.inr (uH (.int .u8 (H:Int)) fun E D=>Fx.xX rfl (show ev _ (.tmp 41) = .int .u8 (x.kind:Int)from by kernel_rfl) (show ev _ (.const (.int .u8 (7))) = .int .u8 (7)from by kernel_rfl) (by omega) (EF ajG)))
  ·exact .inr (.inr (uH (.int .u8 ((H:Int)+1)) fun E D=>Fx.KT rfl (show ev _ (.const (.int .u8 (1))) = .int .u8 (1)from by kernel_rfl) (show ev _ (.tmp 42) = .int .u8 (H:Int)from by kernel_rfl) (Fx.u8e (by omega) (by omega))))
  ·exact .inr (.inr (uH (.agg (aA 14 (bB (bB (bB (bB zQ0 0 1 (fun _=>au ((o:Int)+1))) 1 1 (fun _=>aD ((M.ml o).s.known o+1))) 2 6 (rv .u64 ((M.ml o).s.known))) 8 1 (fun _ => .int .u8 ((H:Int)+1))))) fun E D=>gy (vs := [(0,au ((o:Int)+1)),(1,aD ((M.ml o).s.known o+1)),(2,.agg (aA 6 (rv .u64 ((M.ml o).s.known)))),(3,.int .u8 ((H:Int)+1))]) (places := #[(0,1),(1,1),(2,6),(8,1),(9,1),(10,1),(11,1),(12,1),(13,1)]) (m:=14) (x:=fun h=>if h<1 then au 0 else if h<8 then aD 0 else if h<9 then .int .u8 (0)else if h<10 then aD 0 else if h<12 then au 0 else aD 0) rfl (Fx.acI (show ev _ (.tmp 26)=au ((o:Int)+1)from by kernel_rfl) (show ev _ (.tmp 34)=aD ((M.ml o).s.known o+1)from by kernel_rfl) (show ev _ (.tmp 39) = .agg (aA 6 (rv .u64 ((M.ml o).s.known)))from by kernel_rfl) (show ev _ (.tmp 43) = .int .u8 ((H:Int)+1)from by kernel_rfl)) Tryz.underlying37 (by kernel_rfl) (by kernel_rfl) (by rw[aZ (off:=0) (s:=1) (y:=fun _=>au ((o:Int)+1)) (by kernel_rfl) (cells_one (by rfl)) (by rfl)]; rw[aZ (off:=1) (s:=1) (y:=fun _=>aD ((M.ml o).s.known o+1)) (by kernel_rfl) (cells_one (by rfl)) (by rfl)]; rw[aZ (off:=2) (s:=6) (y:=rv .u64 ((M.ml o).s.known)) (by kernel_rfl) (bE _ _) (by rfl)]; rw[aZ (off:=8) (s:=1) (y:=fun _ => .int .u8 ((H:Int)+1)) (by kernel_rfl) (cells_one (by rfl)) (by rfl)]; rfl)))
  ·exact .inl rfl
  exact .inr (.inl rfl)
 rintro A w3 f1 hf1 Bp m19 hb1;have Xf:p≠A:=u_ (n_ (m12.lt) Bp);have arZ:G≠A:=u_ (n_ (m16.lt) Bp);have afw:U≠A:=u_ (n_ (m17.lt) Bp);have asa:Eu≠A:=u_ (n_ (m18.lt) Bp);have ajI:(M.pl o)≠A:=u_ (n_ (GL.lt) Bp);have OM:(.slice M.aa (M.an) (M.ac):Value).ownBlock≠some A:=fun e=>by have:=(m14.ge e).2; omega
 have⟨m22,m23,m24,mZ,nH,b4⟩:=oJ hb1 m15 m16 m17 m18 ajH b3;have Bp:w.heap.size<=A:=m_ b3.size Bp;have Hg:=m19.lt;have q1:f1 3=(pt G):=by rw[hf1]; kernel_rfl
 have q2:f1 4=(pt U):=by rw[hf1]; kernel_rfl
 have q3:f1 6=(pt (M.pl o)):=by rw[hf1]; kernel_rfl
 have q4:f1 7=(pt A):=by rw[hf1]; kernel_rfl
 clear hf1;refine sN<|Ws ?_;obtain⟨d,eV0⟩ : ∃ V:EvM,V=(⟨(o:Int)+1,(M.ml o).s.known o+1,(M.ml o).s.known,(H:Int)+1,0,0,0,0,0⟩:EvM):=⟨_,rfl⟩;have hz1:iY 0:=⟨by decide,by decide⟩;have hz2:oM 0:=⟨by decide,by decide⟩;have t:gL d:=by rw[eV0]; exact⟨⟨by show(_:Int)<=(o:Int)+1; omega,by show(o:Int)+1<=_; omega⟩,⟨by show(0:Int)<=(M.ml o).s.known o+1; omega,by show(M.ml o).s.known o+1<=_; omega⟩,fun i hi=>⟨(hkn i hi).1,by have q:(M.ml o).s.known i<1099511627776:=(hkn i hi).2; show(M.ml o).s.known i<=_; omega⟩,⟨by show(0:Int)<=(H:Int)+1; omega,by show(H:Int)+1<=255; omega⟩,hz1,hz2,hz2,hz1,hz1⟩
 have og:aP w3 A 14 (bM d) 37:=m19.congr (fun j C=>by rw[eV0]; rcases j with _|_|_|_|_|_|_|_|_|_|_|_|_|_|j <;> first|rfl|omega|exact L_ (Value.int .u8) (by omega))
 have X:sM d:=by rw[eV0]; exact⟨by show(0:Int)<=_; decide,by show(0:Int)<=_; decide⟩
 have hd0:d.o=(o:Int)+1/\d.seq=(M.ml o).s.known o+1/\d.deps=(M.ml o).s.known:=by rw[eV0]; exact⟨rfl,rfl,rfl⟩
 have ek0:d.kind=(H:Int)+1:=by rw[eV0]
 refine Wl<|av (aD 0)<|aC ?_;have oh:Fx.Own w3 B 29 1 (.slice M.la (M.n) (M.lc)) M.n (H9 M.pl):=mZ.eY (L_ (fun q=>Value.slice q M.n M.lc) eq1.symm);refine Bo (fun f w_ => ∃ nd:Int,iY nd/\f 3=(pt G)/\f 4=(pt U)/\f 7=(pt A)/\f 8=aD nd/\aP w_ G 9 (GI x) 72/\aP w_ U 14 zQ0 37/\aP w_ A 14 (bM d) 37/\Below w.heap.size w w_) ?_ ?_
 ·refine Ws ?_;have aaq:=m22 o (by omega);have Xu:=aaq.c;have auQ:=aaq.n;refine Wl<|aU q3<|av (pt (M.pl o))<|av (pt (M.pl o))<|av (pf (M.pl o) 18)<|Lv (.slice (M.ml o).s.na ((M.ml o).s.nn) ((M.ml o).s.nc)) (aL Xu.aH 18)<|av (au (((M.ml o).s.nn:Nat):Int))<|Lv (.bool (decide (0<(((M.ml o).s.nn:Nat):Int)))) (Fx.Tm rfl rfl rfl)<|aC<|Wc (b:=decide (0<(((M.ml o).s.nn:Nat):Int))) rfl (fun c51 => ?_)<|fun c51 => ?_
  ·have c51:=h_ c51;obtain⟨Yr,ajK⟩ : ∃ r,r=x.node % (M.ml o).s.nn:=⟨_,rfl⟩;have asb:Yr<(M.ml o).s.nn:=(by rw[ajK]; exact J_ _ (by omega));refine vV<|eG q3<|aW (pt (M.pl o))<|aW (pt (M.pl o))<|aW (pf (M.pl o) 18)<|Qv (.slice (M.ml o).s.na ((M.ml o).s.nn) ((M.ml o).s.nc)) (fun E D=>aL (Xu.aH.dr D) 18)<|Qv (pf G 4) (fun E D=>iL q1 4)<|Qv (.int .u8 (x.node:Int)) (fun E D=>aL (m23.aH.dr D) 4)<|Qv (au x.node) (fun E D=>dA rfl rfl (by kernel_rfl) Tryz.underlying3 (iN (by omega) rfl))<|eG q3<|aW (pt (M.pl o))<|aW (pt (M.pl o))<|aW (pf (M.pl o) 18)<|Qv (.slice (M.ml o).s.na ((M.ml o).s.nn) ((M.ml o).s.nc)) (fun E D=>aL (Xu.aH.dr D) 18)<|aW (au (((M.ml o).s.nn:Nat):Int))<|Qv (au Yr) (fun E D=>Fx.xX rfl rfl rfl (by omega) (EF ajK)) ?_;obtain⟨Oj,Ev⟩:=nH.addr (by omega);have oD:Fx.Own w3 B 84 56 (.slice (some ⟨Oj,0,none⟩) ((M.ml o).s.nn) ((M.ml o).s.nc)) ((M.ml o).s.nn) (KE (M.ml o)):=nH.eY (L_ (fun q=>Value.slice q ((M.ml o).s.nn) ((M.ml o).s.nc)) Ev);refine Qv (pf Oj (56*Yr)) (fun E D=>dw 56 (hx:=(rfl.trans (L_ (fun q=>Value.slice q ((M.ml o).s.nn) ((M.ml o).s.nc)) Ev))))<|aW (pf Oj (56*Yr))<|Qv (aD ((M.ml o).id Yr)) (fun E D=>aL (oD.aH.dr D) (56*Yr) (Fx.fU (k:=Yr) (j:=0) (by omega) (by omega) rfl))<|aW (aD ((M.ml o).id Yr))<|Qn ?_;rintro _ ⟨qd,rfl⟩;obtain⟨wq2,um⟩ : ∃ E,E=World.drewN w3 qd:=⟨_,rfl⟩;rw[<- um];have s5:Stp w3.heap.size w3 wq2:=(by rw[um]; exact Sb (jA w3 qd));have⟨nR,pF,qW,sS,b5⟩:=nN s5.old m23 m24 og oD b4;clear um;have mh:Fx.Own wq2 B 84 56 (.slice (M.ml o).s.na ((M.ml o).s.nn) ((M.ml o).s.nc)) ((M.ml o).s.nn) (KE (M.ml o)):=sS.eY (L_ (fun q=>Value.slice q ((M.ml o).s.nn) ((M.ml o).s.nc)) Ev.symm);exact rT ⟨((M.ml o).id Yr),(hU Yr asb),q1,q2,q4,Fx.ic,nR,pF,qW,b5⟩
  have c51:=j_ c51;refine Wk ?_;exact rT ⟨0,⟨by decide,by decide⟩,q1,q2,q4,Fx.ic,m23,m24,og,b4⟩
 rintro f2 w4 ⟨nd,QO,Y,I,F,h4,lM,mH,K,J⟩;refine Ws<|ay<|Lv (pf A 8) (iL F 8)<|Lv (.int .u8 (d.kind)) (aL K.aH 8)<|aC<|Wb<|ay ?_;by_cases c73:d.kind=1
 ·refine Lv aG (eH c73)<|av aG<|aC<|aM<|Ws<|Ws ?_;obtain⟨r76,ajL⟩ : ∃ r,r=x.node % 2:=⟨_,rfl⟩;have ayI:r76<2:=by rw[ajL]; exact J_ _ (by omega)
  refine Wl<|Lv (pf G 4) (iL Y 4)<|Lv (.int .u8 (x.node:Int)) (aL lM.aH 4)<|Lv (.int .u8 (r76:Int)) (Fx.xX rfl rfl rfl (by omega) (EF ajL)) ?_;by_cases c77:(r76:Int)=1
  ·refine Lv aG (eH c77)<|aC<|aM<|Wl<|aU h4<|Lv (pf A 9) (iL F 9)<|ji K 9 (aD nd) fun w5 qh s6 z3 => ?_;obtain⟨L,eV1⟩ : ∃ V:EvM,V=⟨d.o,d.seq,d.deps,d.kind,nd,d.dst,d.aT,d.req,d.of⟩:=⟨_,rfl⟩;have MR:gL L:=(by rw[eV1]; exact⟨t.o,t.seq,t.deps,t.kind,QO,t.dst,t.aT,t.req,t.of⟩);have ase:L.o=(o:Int)+1/\L.seq=(M.ml o).s.known o+1/\L.deps=(M.ml o).s.known:=(by rw[eV1]; exact hd0);have asf:sM L:=(by rw[eV1]; exact⟨X.aT,X.req⟩);have om:aP w5 A 14 (bM L) 37:=qh.congr (fun j C=>by rw[eV1]; exact Fa _ _ j C);have fV:=gH s6 K.ty;have rW:=jo fV lM;have wh:=mH.cZ s6 (by omega);have b7:=s6.below J J.size (by omega);refine aC<|Wl<|Lv (pf G 6) (iL Y 6)<|Lv (.int .u16 (x.aT:Int)) (aL rW.aH 6)<|Lv (au x.aT) (dA rfl rfl (by kernel_rfl) Tryz.underlying2 (iN (by omega) rfl))<|Lv (pf A 11) (iL F 11)<|ji om 11 (au x.aT) fun w6 uD s7 z4 => ?_;obtain⟨V2,eV2⟩ : ∃ V:EvM,V=⟨L.o,L.seq,L.deps,L.kind,L.node,L.dst,(x.aT:Int),L.req,L.of⟩:=⟨_,rfl⟩;have asg:gL V2:=(by rw[eV2]; exact⟨MR.o,MR.seq,MR.deps,MR.kind,MR.node,MR.dst,(show oM (x.aT:Int)from⟨by omega,by omega⟩),MR.req,MR.of⟩);have ash:V2.o=(o:Int)+1/\V2.seq=(M.ml o).s.known o+1/\V2.deps=(M.ml o).s.known:=(by rw[eV2]; exact ase);have asi:sM V2:=(by rw[eV2]; exact⟨by show(x.aT:Int)<=65536; omega,asf.req⟩);have qX:aP w6 A 14 (bM V2) 37:=uD.congr (fun j C=>by rw[eV2]; exact GJ _ _ j C);have uZ:=wh.cZ s7 (by omega);have b8:=s7.below b7 b7.size (by omega);refine Ln<|bP<|sN<|ay<|Lv (.agg (aA 14 (bM V2))) (eT qX.aH 0 (ha:=F))<|dU uZ 0 (ha:=I) (h1:=(gK _)) fun w7 uE s8 z5 => ?_;have wm:aP w7 U 14 (bM V2) 37:=aQ uE;have tQ:=qX.cZ s8 (by omega);have b9:=s8.below b8 b8.size (by omega);refine aC (Wr (⟨.agg (aA 14 (bM V2)),rV Tryz.results57 ⟨_,I,aS wm.aH (by kernel_rfl) (by kernel_rfl)⟩,?_⟩));exact⟨V2,asg,asi,by rw[<- eo]; exact ash,rfl,b9⟩
  refine Lv aF (fC c77)<|aC<|aK<|Wk<|sN<|Wl<|Lv (pf G 6) (iL Y 6)<|Lv (.int .u16 (x.aT:Int)) (aL lM.aH 6)<|Lv (au x.aT) (dA rfl rfl (by kernel_rfl) Tryz.underlying2 (iN (by omega) rfl))<|Lv (pf A 11) (iL F 11)<|ji K 11 (au x.aT) fun w8 tT s9 z6 => ?_;obtain⟨V3,eV3⟩ : ∃ V:EvM,V=⟨d.o,d.seq,d.deps,d.kind,d.node,d.dst,(x.aT:Int),d.req,d.of⟩:=⟨_,rfl⟩;have asj:gL V3:=by rw[eV3]; exact⟨t.o,t.seq,t.deps,t.kind,t.node,t.dst,(show oM (x.aT:Int)from⟨by omega,by omega⟩),t.req,t.of⟩
  have asl:V3.o=(o:Int)+1/\V3.seq=(M.ml o).s.known o+1/\V3.deps=(M.ml o).s.known:=by rw[eV3]; exact hd0
  have asn:sM V3:=by rw[eV3]; exact⟨by show(x.aT:Int)<=65536; omega,X.req⟩
  have uF:aP w8 A 14 (bM V3) 37:=tT.congr (fun j C=>by rw[eV3]; exact GJ _ _ j C);have rG:=mH.cZ s9 (by omega);have b10:=s9.below J J.size (by omega);refine Ln<|bP<|sN<|ay<|Lv (.agg (aA 14 (bM V3))) (eT uF.aH 0 (ha:=F))<|dU rG 0 (ha:=I) (h1:=(gK _)) fun w9 vK s10 z7 => ?_;have pz:aP w9 U 14 (bM V3) 37:=aQ vK;have m64:=uF.cZ s10 (by omega);have b11:=s10.below b10 b10.size (by omega);refine aC (Wr (⟨.agg (aA 14 (bM V3)),rV Tryz.results57 ⟨_,I,aS pz.aH (by kernel_rfl) (by kernel_rfl)⟩,?_⟩));exact⟨V3,asj,asn,by rw[<- eo]; exact asl,rfl,b11⟩
 refine Lv aF (fC c73)<|av aF<|aC<|aK<|ay ?_;by_cases c85:d.kind=2
 ·refine Lv aG (eH c85)<|av aG<|aC<|aM<|ay<|aU h4<|Lv (pf A 9) (iL F 9)<|ji K 9 (aD nd) fun pJ xw s11 z8 => ?_;obtain⟨P,eV4⟩ : ∃ V:EvM,V=⟨d.o,d.seq,d.deps,d.kind,nd,d.dst,d.aT,d.req,d.of⟩:=⟨_,rfl⟩;have MS:gL P:=by rw[eV4]; exact⟨t.o,t.seq,t.deps,t.kind,QO,t.dst,t.aT,t.req,t.of⟩
  have aso:P.o=(o:Int)+1/\P.seq=(M.ml o).s.known o+1/\P.deps=(M.ml o).s.known:=by rw[eV4]; exact hd0
  have asq:sM P:=by rw[eV4]; exact⟨X.aT,X.req⟩
  have wN:aP pJ A 14 (bM P) 37:=xw.congr (fun j C=>by rw[eV4]; exact Fa _ _ j C);have Ac:=gH s11 K.ty;have vL:=jo Ac lM;have xA:=mH.cZ s11 (by omega);have b12:=s11.below J J.size (by omega);refine aC<|Wl<|Lv (pf G 6) (iL Y 6)<|Lv (.int .u16 (x.aT:Int)) (aL vL.aH 6)<|Lv (au x.aT) (dA rfl rfl (by kernel_rfl) Tryz.underlying2 (iN (by omega) rfl))<|Lv (au ((x.aT:Int)+1)) fA<|Lv (pf A 11) (iL F 11)<|ji wN 11 (au ((x.aT:Int)+1)) fun DV tV s12 z9 => ?_;obtain⟨V5,eV5⟩ : ∃ V:EvM,V=⟨P.o,P.seq,P.deps,P.kind,P.node,P.dst,(x.aT:Int)+1,P.req,P.of⟩:=⟨_,rfl⟩;have asr:gL V5:=by rw[eV5]; exact⟨MS.o,MS.seq,MS.deps,MS.kind,MS.node,MS.dst,(show oM ((x.aT:Int)+1)from⟨by omega,by omega⟩),MS.req,MS.of⟩
  have asu:V5.o=(o:Int)+1/\V5.seq=(M.ml o).s.known o+1/\V5.deps=(M.ml o).s.known:=by rw[eV5]; exact aso
  have asv:sM V5:=by rw[eV5]; exact⟨by show(x.aT:Int)+1<=65536; omega,asq.req⟩
  have vM:aP DV A 14 (bM V5) 37:=tV.congr (fun j C=>by rw[eV5]; exact GJ _ _ j C);have vN:=xA.cZ s12 (by omega);have b13:=s12.below b12 b12.size (by omega);refine Ln<|bP<|sN<|ay<|Lv (.agg (aA 14 (bM V5))) (eT vM.aH 0 (ha:=F))<|dU vN 0 (ha:=I) (h1:=(gK _)) fun Ct vO s13 z10 => ?_;have zI:aP Ct U 14 (bM V5) 37:=aQ vO;have yI:=vM.cZ s13 (by omega);have b14:=s13.below b13 b13.size (by omega);refine aC (Wr (⟨.agg (aA 14 (bM V5)),rV Tryz.results57 ⟨_,I,aS zI.aH (by kernel_rfl) (by kernel_rfl)⟩,?_⟩));exact⟨V5,asr,asv,by rw[<- eo]; exact asu,rfl,b14⟩
 refine Lv aF (fC c85)<|av aF<|aC<|aK<|ay ?_;by_cases c94:d.kind=3
 ·refine Lv aG (eH c94)<|av aG<|aC<|aM<|ay<|aU h4<|Lv (pf A 9) (iL F 9)<|ji K 9 (aD nd) fun EM yJ Cr z11 => ?_;obtain⟨Q,eV6⟩ : ∃ V:EvM,V=⟨d.o,d.seq,d.deps,d.kind,nd,d.dst,d.aT,d.req,d.of⟩:=⟨_,rfl⟩;have MU:gL Q:=by rw[eV6]; exact⟨t.o,t.seq,t.deps,t.kind,QO,t.dst,t.aT,t.req,t.of⟩
  have asw:Q.o=(o:Int)+1/\Q.seq=(M.ml o).s.known o+1/\Q.deps=(M.ml o).s.known:=by rw[eV6]; exact hd0
  have asx:sM Q:=by rw[eV6]; exact⟨X.aT,X.req⟩
  have yK:aP EM A 14 (bM Q) 37:=yJ.congr (fun j C=>by rw[eV6]; exact Fa _ _ j C);have aen:=gH Cr K.ty;have yt:=jo aen lM;have xB:=mH.cZ Cr (by omega);have b15:=Cr.below J J.size (by omega);refine aC<|ay<|Lv (pf G 6) (iL Y 6)<|Lv (.int .u16 (x.aT:Int)) (aL yt.aH 6)<|Lv (au x.aT) (dA rfl rfl (by kernel_rfl) Tryz.underlying2 (iN (by omega) rfl))<|Lv (au ((x.aT:Int)+1)) fA<|Lv (pf A 11) (iL F 11)<|ji yK 11 (au ((x.aT:Int)+1)) fun KD xC s15 z12 => ?_;obtain⟨R,eV7⟩ : ∃ V:EvM,V=⟨Q.o,Q.seq,Q.deps,Q.kind,Q.node,Q.dst,(x.aT:Int)+1,Q.req,Q.of⟩:=⟨_,rfl⟩;have MV:gL R:=by rw[eV7]; exact⟨MU.o,MU.seq,MU.deps,MU.kind,MU.node,MU.dst,(show oM ((x.aT:Int)+1)from⟨by omega,by omega⟩),MU.req,MU.of⟩
  have asy:R.o=(o:Int)+1/\R.seq=(M.ml o).s.known o+1/\R.deps=(M.ml o).s.known:=by rw[eV7]; exact asw
  have asz:sM R:=by rw[eV7]; exact⟨by show(x.aT:Int)+1<=65536; omega,asx.req⟩
  have yR:aP KD A 14 (bM R) 37:=xC.congr (fun j C=>by rw[eV7]; exact GJ _ _ j C);have ajM:=gH s15 yK.ty;have AP:=jo ajM yt;have yS:=xB.cZ s15 (by omega);have b16:=s15.below b15 b15.size (by omega);refine aC<|Wl<|Lv (pf G 7) (iL Y 7)<|Lv (.int .u8 (x.req:Int)) (aL AP.aH 7)<|Lv (aD x.req) (dA rfl rfl (by kernel_rfl) Tryz.underlying23 (jS (by omega) rfl))<|Lv (aD ((x.req:Int)+1)) fA<|Lv (pf A 12) (iL F 12)<|ji yR 12 (aD ((x.req:Int)+1)) fun Lp BI s16 z13 => ?_;obtain⟨V8,eV8⟩ : ∃ V:EvM,V=⟨R.o,R.seq,R.deps,R.kind,R.node,R.dst,R.aT,(x.req:Int)+1,R.of⟩:=⟨_,rfl⟩;have asA:gL V8:=by rw[eV8]; exact⟨MV.o,MV.seq,MV.deps,MV.kind,MV.node,MV.dst,MV.aT,(show iY ((x.req:Int)+1)from⟨by omega,by omega⟩),MV.of⟩
  have asB:V8.o=(o:Int)+1/\V8.seq=(M.ml o).s.known o+1/\V8.deps=(M.ml o).s.known:=by rw[eV8]; exact asy
  have asC:sM V8:=by rw[eV8]; exact⟨asz.aT,by show(x.req:Int)+1<=256; omega⟩
  have Bq:aP Lp A 14 (bM V8) 37:=BI.congr (fun j C=>by rw[eV8]; exact Xt _ _ j C);have AQ:=yS.cZ s16 (by omega);have b17:=s16.below b16 b16.size (by omega);refine Ln<|bP<|sN<|ay<|Lv (.agg (aA 14 (bM V8))) (eT Bq.aH 0 (ha:=F))<|dU AQ 0 (ha:=I) (h1:=(gK _)) fun w16 AU KC z14 => ?_;have BJ:aP w16 U 14 (bM V8) 37:=aQ AU;have Es:=Bq.cZ KC (by omega);have b18:=KC.below b17 b17.size (by omega);refine aC (Wr (⟨.agg (aA 14 (bM V8)),rV Tryz.results57 ⟨_,I,aS BJ.aH (by kernel_rfl) (by kernel_rfl)⟩,?_⟩));exact⟨V8,asA,asC,by rw[<- eo]; exact asB,rfl,b18⟩
 refine Lv aF (fC c94)<|av aF<|aC<|aK<|ay ?_;by_cases ajN:d.kind=4
 ·refine Lv aG (eH ajN)<|av aG<|aC<|aM<|ay<|Lv (pf G 7) (iL Y 7)<|Lv (.int .u8 (x.req:Int)) (aL lM.aH 7)<|Lv (aD x.req) (dA rfl rfl (by kernel_rfl) Tryz.underlying23 (jS (by omega) rfl))<|Lv (aD ((x.req:Int)+1)) fA<|Lv (pf A 12) (iL F 12)<|ji K 12 (aD ((x.req:Int)+1)) fun Ur CU Nq z15 => ?_;obtain⟨S,eV9⟩ : ∃ V:EvM,V=⟨d.o,d.seq,d.deps,d.kind,d.node,d.dst,d.aT,(x.req:Int)+1,d.of⟩:=⟨_,rfl⟩;have MW:gL S:=by rw[eV9]; exact⟨t.o,t.seq,t.deps,t.kind,t.node,t.dst,t.aT,(show iY ((x.req:Int)+1)from⟨by omega,by omega⟩),t.of⟩
  have asD:S.o=(o:Int)+1/\S.seq=(M.ml o).s.known o+1/\S.deps=(M.ml o).s.known:=by rw[eV9]; exact hd0
  have ajO:sM S:=by rw[eV9]; exact⟨X.aT,by show(x.req:Int)+1<=256; omega⟩
  have DX:aP Ur A 14 (bM S) 37:=CU.congr (fun j C=>by rw[eV9]; exact Xt _ _ j C);have ajP:=gH Nq K.ty;have AY:=jo ajP lM;have Hl:=mH.cZ Nq (by omega);have b19:=Nq.below J J.size (by omega);refine aC<|Wl<|Lv (pf G 8) (iL Y 8)<|Lv (.int .u8 (x.of:Int)) (aL AY.aH 8)<|Lv (aD x.of) (dA rfl rfl (by kernel_rfl) Tryz.underlying23 (jS (by omega) rfl))<|Lv (aD ((x.of:Int)+1)) fA<|Lv (pf A 13) (iL F 13)<|ji DX 13 (aD ((x.of:Int)+1)) fun Ut ET s19 z16 => ?_;obtain⟨Yt,aar⟩ : ∃ V:EvM,V=⟨S.o,S.seq,S.deps,S.kind,S.node,S.dst,S.aT,S.req,(x.of:Int)+1⟩:=⟨_,rfl⟩;have ajQ:gL Yt:=by rw[aar]; exact⟨MW.o,MW.seq,MW.deps,MW.kind,MW.node,MW.dst,MW.aT,MW.req,(show iY ((x.of:Int)+1)from⟨by omega,by omega⟩)⟩
  have ajR:Yt.o=(o:Int)+1/\Yt.seq=(M.ml o).s.known o+1/\Yt.deps=(M.ml o).s.known:=by rw[aar]; exact asD
  have ajS:sM Yt:=by rw[aar]; exact⟨ajO.aT,ajO.req⟩
  have Ho:aP Ut A 14 (bM Yt) 37:=ET.congr (fun j C=>by rw[aar]; exact ajF _ _ j C);have xL:=Hl.cZ s19 (by omega);have b20:=s19.below b19 b19.size (by omega);refine Ln<|bP<|sN<|ay<|Lv (.agg (aA 14 (bM Yt))) (eT Ho.aH 0 (ha:=F))<|dU xL 0 (ha:=I) (h1:=(gK _)) fun w19 yV s20 z17 => ?_;have xM:aP w19 U 14 (bM Yt) 37:=aQ yV;have qF:=Ho.cZ s20 (by omega);have NU:=s20.below b20 b20.size (by omega);refine aC (Wr (⟨.agg (aA 14 (bM Yt)),rV Tryz.results57 ⟨_,I,aS xM.aH (by kernel_rfl) (by kernel_rfl)⟩,?_⟩));exact⟨Yt,ajQ,ajS,by rw[<- eo]; exact ajR,rfl,NU⟩
 refine Lv aF (fC ajN)<|av aF<|aC<|aK<|ay ?_;by_cases ajT:d.kind=5
 ·refine Lv aG (eH ajT)<|av aG<|aC<|aM<|ay<|aU h4<|Lv (pf A 9) (iL F 9)<|ji K 9 (aD nd) fun Uw ql s21 z18 => ?_;obtain⟨N,aas⟩ : ∃ V:EvM,V=⟨d.o,d.seq,d.deps,d.kind,nd,d.dst,d.aT,d.req,d.of⟩:=⟨_,rfl⟩;have Ef:gL N:=by rw[aas]; exact⟨t.o,t.seq,t.deps,t.kind,QO,t.dst,t.aT,t.req,t.of⟩
  have ajU:N.o=(o:Int)+1/\N.seq=(M.ml o).s.known o+1/\N.deps=(M.ml o).s.known:=by rw[aas]; exact hd0
  have ajV:sM N:=by rw[aas]; exact⟨X.aT,X.req⟩
  have rJ:aP Uw A 14 (bM N) 37:=ql.congr (fun j C=>by rw[aas]; exact Fa _ _ j C);have ajW:=gH s21 K.ty;have qG:=jo ajW lM;have sI:=mH.cZ s21 (by omega);have PL:=s21.below J J.size (by omega);refine aC<|ay<|Lv (pf G 6) (iL Y 6)<|Lv (.int .u16 (x.aT:Int)) (aL qG.aH 6)<|Lv (au x.aT) (dA rfl rfl (by kernel_rfl) Tryz.underlying2 (iN (by omega) rfl))<|Lv (au ((x.aT:Int)+1)) fA<|Lv (pf A 11) (iL F 11)<|ji rJ 11 (au ((x.aT:Int)+1)) fun w21 uo s22 z19 => ?_;obtain⟨O,aat⟩ : ∃ V:EvM,V=⟨N.o,N.seq,N.deps,N.kind,N.node,N.dst,(x.aT:Int)+1,N.req,N.of⟩:=⟨_,rfl⟩;have Eh:gL O:=by rw[aat]; exact⟨Ef.o,Ef.seq,Ef.deps,Ef.kind,Ef.node,Ef.dst,(show oM ((x.aT:Int)+1)from⟨by omega,by omega⟩),Ef.req,Ef.of⟩
  have ajX:O.o=(o:Int)+1/\O.seq=(M.ml o).s.known o+1/\O.deps=(M.ml o).s.known:=by rw[aat]; exact ajU
  have abX:sM O:=by rw[aat]; exact⟨by show(x.aT:Int)+1<=65536; omega,ajV.req⟩
  have wB:aP w21 A 14 (bM O) 37:=uo.congr (fun j C=>by rw[aat]; exact GJ _ _ j C);have ajY:=gH s22 rJ.ty;have sJ:=jo ajY qG;have vk:=sI.cZ s22 (by omega);have YN:=s22.below PL PL.size (by omega);refine aC ?_;obtain⟨W,er6⟩ : ∃ r,r=x.dst % 6:=⟨_,rfl⟩;have hr6:W<6:=by rw[er6]; exact J_ _ (by omega)
  refine Wl<|Lv (pf G 5) (iL Y 5)<|Lv (.int .u8 (x.dst:Int)) (aL sJ.aH 5)<|Lv (au x.dst) (dA rfl rfl (by kernel_rfl) Tryz.underlying3 (iN (by omega) rfl))<|Lv (au W) (Fx.xX rfl rfl rfl (by omega) (EF er6))<|Lv (au ((W:Int)+1)) fA<|Lv (pf A 10) (iL F 10)<|ji wB 10 (au ((W:Int)+1)) fun w22 Ad s23 z20 => ?_;obtain⟨Yu,aau⟩ : ∃ V:EvM,V=⟨O.o,O.seq,O.deps,O.kind,O.node,(W:Int)+1,O.aT,O.req,O.of⟩:=⟨_,rfl⟩;have akb:gL Yu:=by rw[aau]; exact⟨Eh.o,Eh.seq,Eh.deps,Eh.kind,Eh.node,(show oM ((W:Int)+1)from⟨by omega,by omega⟩),Eh.aT,Eh.req,Eh.of⟩
  have akc:Yu.o=(o:Int)+1/\Yu.seq=(M.ml o).s.known o+1/\Yu.deps=(M.ml o).s.known:=by rw[aau]; exact ajX
  have akd:sM Yu:=by rw[aau]; exact⟨abX.aT,abX.req⟩
  have wC:aP w22 A 14 (bM Yu) 37:=Ad.congr (fun j C=>by rw[aau]; exact Xr _ _ j C);have CV:=vk.cZ s23 (by omega);have YO:=s23.below YN YN.size (by omega);refine Ln<|bP<|sN<|ay<|Lv (.agg (aA 14 (bM Yu))) (eT wC.aH 0 (ha:=F))<|dU CV 0 (ha:=I) (h1:=(gK _)) fun w23 yF s24 z21 => ?_;have vo:aP w23 U 14 (bM Yu) 37:=aQ yF;have yX:=wC.cZ s24 (by omega);have b25:=s24.below YO YO.size (by omega);refine aC (Wr (⟨.agg (aA 14 (bM Yu)),rV Tryz.results57 ⟨_,I,aS vo.aH (by kernel_rfl) (by kernel_rfl)⟩,?_⟩));exact⟨Yu,akb,akd,by rw[<- eo]; exact akc,rfl,b25⟩
 refine Lv aF (fC ajT)<|av aF<|aC<|aK<|ay ?_;by_cases ake:d.kind=6
 ·refine Lv aG (eH ake)<|av aG<|aC<|aM ?_;obtain⟨W,er6⟩ : ∃ r,r=x.dst % 6:=⟨_,rfl⟩;have hr6:W<6:=by rw[er6]; exact J_ _ (by omega)
  refine Wl<|Lv (pf G 5) (iL Y 5)<|Lv (.int .u8 (x.dst:Int)) (aL lM.aH 5)<|Lv (au x.dst) (dA rfl rfl (by kernel_rfl) Tryz.underlying3 (iN (by omega) rfl))<|Lv (au W) (Fx.xX rfl rfl rfl (by omega) (EF er6))<|Lv (au ((W:Int)+1)) fA<|Lv (pf A 10) (iL F 10)<|ji K 10 (au ((W:Int)+1)) fun w24 yY s25 z22 => ?_;obtain⟨Yv,aav⟩ : ∃ V:EvM,V=⟨d.o,d.seq,d.deps,d.kind,d.node,(W:Int)+1,d.aT,d.req,d.of⟩:=⟨_,rfl⟩;have akf:gL Yv:=by rw[aav]; exact⟨t.o,t.seq,t.deps,t.kind,t.node,(show oM ((W:Int)+1)from⟨by omega,by omega⟩),t.aT,t.req,t.of⟩
  have akg:Yv.o=(o:Int)+1/\Yv.seq=(M.ml o).s.known o+1/\Yv.deps=(M.ml o).s.known:=by rw[aav]; exact hd0
  have akh:sM Yv:=by rw[aav]; exact⟨X.aT,X.req⟩
  have vw:aP w24 A 14 (bM Yv) 37:=yY.congr (fun j C=>by rw[aav]; exact Xr _ _ j C);have JU:=mH.cZ s25 (by omega);have b26:=s25.below J J.size (by omega);refine Ln<|bP<|sN<|ay<|Lv (.agg (aA 14 (bM Yv))) (eT vw.aH 0 (ha:=F))<|dU JU 0 (ha:=I) (h1:=(gK _)) fun w25 FX s26 z23 => ?_;have BP:aP w25 U 14 (bM Yv) 37:=aQ FX;have HZ:=vw.cZ s26 (by omega);have b27:=s26.below b26 b26.size (by omega);refine aC (Wr (⟨.agg (aA 14 (bM Yv)),rV Tryz.results57 ⟨_,I,aS BP.aH (by kernel_rfl) (by kernel_rfl)⟩,?_⟩));exact⟨Yv,akf,akh,by rw[<- eo]; exact akg,rfl,b27⟩
 refine Lv aF (fC ake)<|av aF<|aC<|aK<|Wk<|bP<|sN<|ay<|Lv (.agg (aA 14 (bM d))) (eT K.aH 0 (ha:=F))<|dU mH 0 (ha:=I) (h1:=(gK _)) fun w26 CX s27 z24 => ?_;have AZ:aP w26 U 14 (bM d) 37:=aQ CX;have LV:=K.cZ s27 (by omega);have b28:=s27.below J J.size (by omega);refine aC (Wr (⟨.agg (aA 14 (bM d)),rV Tryz.results57 ⟨_,I,aS AZ.aH (by kernel_rfl) (by kernel_rfl)⟩,?_⟩));exact⟨d,t,X,by rw[<- eo]; exact hd0,rfl,b28⟩
theorem Rt.Sw{L:dP}{v:EvM}(h:bD L v=0):bR v=true:=by
 unfold bD at h;split at h; · cases h
 rename_i h1; simpa using h1
structure Rt.DoR(o:Nat)(x:ED)(M M':WM)(v:EvM):Prop where
 n:M'.n=M.n
 oth : ∀ q,q≠o->M'.ml q=M.ml q
 c:(v=zeroE/\M'.an=M.an/\M'.ev=M.ev/\((M'.ml o).core=(M.ml o).core\/x.meet=true/\(M'.ml o).core=Gj M.ev M.an (M.ml (x.other % M.n)).s.known (M.ml o).core))\/(x.meet=false/\M'.an=M.an+1/\M'.ev=aI M.ev M.an v/\bD (M.ml o).core v=0/\(M'.ml o).core=bV (M.ml o).core v/\v.o=(o:Int)+1/\v.seq=(M.ml o).s.known o+1/\v.deps=(M.ml o).s.known)
theorem Rt.zS{L:dP}{v:EvM}(h:bD L v=0):(bV L v).known=aI L.known (aN v) (L.known (aN v)+1):=by
 rcases oQ L v with ⟨_,a⟩|⟨h1,_⟩
 ·exact a
 exact M_ h h1
theorem Rt.GN:gL zeroE:=by
 have z:iY 0:=⟨by decide,by decide⟩;have y:oM 0:=⟨by decide,by decide⟩;exact⟨y,z,fun _ _=>z,⟨by decide,by decide⟩,z,y,y,z,z⟩
def Yw(p:Nat)(M:WM)(k:Nat):Prop:=k=p\/(Value.slice M.la M.n M.lc).ownBlock=some k\/(Value.slice M.aa M.an M.ac).ownBlock=some k
def aaw(w:World)(p:Nat)(M a:WM):Prop := ∀ k,Yw p a k->Yw p M k\/w.heap.size<=k
theorem oZ.ge{w:World}{B p T:Nat}{M:WM}(h:oZ w B p M T) : ∀ k,Yw p M k->B<=k/\k<w.heap.size:=fun k b=>by
 rcases b with rfl|e|e
 ·exact⟨h.pB,h.c.lt⟩
 ·exact h.l.ge e
 ·exact h.a.ge e
theorem oZ.Kk{w w':World}{B p T:Nat}{M:WM}(h:oZ w B p M T)(a:B<=w.heap.size)(c:jM (Yw p M) w w'):Below B w w':=Fx.jM.below (Below.refl B w) c (fun k b=>(h.ge k b).1) a
theorem aaw.app{w b:World}{p g:Nat}{M a:WM}(i:(Value.slice M.aa M.an M.ac).ownBlock=some g\/g=b.heap.size)(l:w.heap.size<=b.heap.size)(h1:a.la=M.la:=by rfl)(c:a.n=M.n:=by rfl)(d:a.lc=M.lc:=by rfl)(f:(Value.slice a.aa a.an a.ac).ownBlock=some g:=by rfl):aaw w p M a:=fun k j=>by
 rcases j with h|h|h
 ·exact .inl (.inl h)
 ·rw[h1,c,d]at h; exact .inl (.inr (.inl h))
 ·have e:g=k:=C_ (f.symm.trans h)
  rcases i with h5|h5
  ·exact .inl (.inr (.inr (e ▸ h5)))
  ·exact .inr (by omega)
set_option maxRecDepth 20000 in
set_option maxHeartbeats 2000000 in
theorem aki(M:WM)(B p T:Nat)(x:ED)(w:World)(d:oZ w B p M T)(hB:B<=w.heap.size)(hx:GH x)(han:M.an<=60)(hT:T<=890000) :
 Calls Tryz.prog 28 #[(pt p),.agg (aA 9 (GI x))] w fun e w' => ∃ v,e = .returned (.agg (aA 14 (bM v)))/\gL v /\ ∃ O,oZ w' B p O (T+3660)/\DoR (x.who % M.n) x M O v/\O.an<=M.an+1/\(x.meet=true->O.an=M.an)/\jM (Yw p M) w w'/\aaw w p M O:=by
 have hWc:=d.c;have hWl:=d.l;have hWa:=d.a;have hWg:=d.g;have hn1:=d.n1;have hn6:=d.n6;have hpB:=d.pB;have lpp:p<w.heap.size:=hWc.lt;have hxw:=hx.who;have hxo:=hx.other;have hxk:=hx.kind;have hxn:=hx.node;have hxt:=hx.dst;have hxa:=hx.aT;have hxr:=hx.req;have hxf:=hx.of;refine Kent Tryz.func28 94 ?_;refine ay<|oz fun g1 w1 kQ m1 s1 z1 => ?_;have⟨m2,f,m4,m5,m6⟩:=nN s1.old hWc hWl hWa hWg d;have b1:=(uW (Yw p M) w).then s1 (.inr (uW (Yw p M) w).size);have rF:w.heap.size<=g1:=by rw[kQ]; exact(uW (Yw p M) w).size
 have ny:=cu kQ hWc.lt;have sQ:=m1.lt;refine qR 14 zQ0 fun R w2 ad m7 s2 z2 => ?_;have⟨m8,m9,m10,m11,m12,m13⟩:=oJ s2.old m2 f m4 m5 m6 m1;have b2:=b1.then s2 (.inr b1.size);have pO:=iw ad b1.size;have VW:=cu ad m2.lt;have Gv:(.slice M.aa (M.an) (M.ac):Value).ownBlock≠some R:=by rw[ad]; exact m4.jF (A_ _)
 have zf:=cu ad m1.lt;have yu:=m7.lt;refine aC<|Ws ?_;obtain⟨o,Q⟩ : ∃ r,r=x.who % M.n:=⟨_,rfl⟩;have ho:o<M.n:=by rw[Q]; exact J_ _ (by omega)
 refine vV<|aW (pt g1)<|Qv (.int .u8 (x.who:Int)) (fun D C=>aL (m13.aH.dr C) 0)<|Qv (au x.who) (fun D C=>dA rfl rfl (by kernel_rfl) Tryz.underlying3 (iN (by omega) rfl))<|aW (pt p)<|aW (pt p)<|aW (pt p)<|Qv (.slice M.la (M.n) (M.lc)) (fun D C=>aL (m8.aH.dr C) 0)<|aW (au M.n)<|Qv (au o) (fun D C=>Fx.xX rfl rfl rfl (by omega) (EF Q))<|aW (au o)<|Qn ?_;rintro _ ⟨qd,rfl⟩;obtain⟨BM,nV⟩ : ∃ D,D=World.drewN w2 qd:=⟨_,rfl⟩;rw[<- nV];have s3:Stp w2.heap.size w2 BM:=by rw[nV]; exact Sb (jA w2 qd)
 have⟨m14,m15,m16,m17,m18,Y,m20⟩:=jT s3.old m8 m9 m10 m11 m12 m13 m7;have Z:=b2.then s3 (.inr b2.size);clear nV;refine sN<|Ws<|ay<|av (pf g1 1) ?_;by_cases H:x.meet=true
 ·refine Lv aG (aL Y.aH 1 ((show _=Value.bool x.meet from rfl).trans (L_ Value.bool H)))<|aC<|aM<|Ws ?_;obtain⟨A,afS⟩ : ∃ r,r=x.other % M.n:=⟨_,rfl⟩;have ayK:A<M.n:=by rw[afS]; exact J_ _ (by omega)
  have aap:=m17 A (by omega);have GL:=aap.c;have aaq:=m17 o (by omega);refine kH [0,1,2,4,5,6,7,9,12,13,14,16,17,18,20,23,24,25,3,8,10,11,15,19,21,22,26,27,28,29,30,31,32,33,34,35,36,37] [0,0,0,1,0,0,0,0,4,0,0,4,0,0,0,4,0,0,0,4,0,4,0,0,0,0,4,0,0,0,4,0,0,0,4,2,0,3] [(37,3,[3]),(35,8,[11,10,8]),(37,8,[8]),(35,11,[11]),(37,11,[11]),(35,15,[15]),(37,15,[15]),(35,19,[34,33,32,31,30,29,19]),(37,19,[19]),(35,21,[34,33,32,31,30,29,28,22,21]),(37,21,[21]),(35,26,[34,33,32,31,30,29,28,27,26]),(37,26,[26]),(35,30,[34,33,32,31,30]),(37,30,[30]),(35,34,[34]),(37,34,[34]),(36,35,[35]),(37,35,[35])] fun rE dR iK => ?_;have s4:Stp BM.heap.size BM rE:=Sb dR;have⟨G,m22,m23,m24,mZ,nQ,nH,og⟩:=nO dR m14 m15 m16 m17 Y m20 GL aaq;have b4:=Z.then s4 (.inr Z.size);refine aX (pt p)<|aX (pt p)<|aX (pt p)<|aX (au o)<|aX (pt p)<|aX (pt p)<|aX (pt p)<|aX (au o)<|aX (pt p)<|aX (pt p)<|aX (pf p 1)<|aX (pt p)<|aX (pt p)<|aX (pt p)<|aX (pf g1 2)<|aX (pt p)<|aX (pt p)<|aX (pt p)<|Rd (v := .slice M.la (M.n) (M.lc)) (by rfl) (by rfl) (uG _) (fun D C=>bA (x:=Nt (.slice M.la (M.n) (M.lc)) (.slice M.aa (M.an) (M.ac))) rfl rfl (by kernel_rfl) (G.aH.below C (by have:=G.lt; omega)) (i:=0) (by omega) (by omega) rfl) ?_;refine Rs (.slice M.la (M.n) (M.lc)) (aL G.aH 0) ?_;obtain⟨S,J⟩:=m22.addr (by omega);have oh:Fx.Own rE B 29 1 (bK S M.n M.lc) M.n (H9 M.pl):=m22.eY (L_ (fun q=>Value.slice q M.n M.lc) J);refine Rp (pf S o) (fun _=>dw 1 (hx:=(rfl.trans (L_ (fun q=>Value.slice q (M.n) (M.lc)) J))))<|Rs (pt (M.pl o)) (aL oh.aH o) ?_;refine Rs (.slice M.aa (M.an) (M.ac)) (aL G.aH 1) ?_;refine Rs (.slice M.la (M.n) (M.lc)) (aL G.aH 0) ?_;refine Rs (.int .u8 (x.other:Int)) (aL mZ.aH 2) ?_;refine Rp (au x.other) (fun D=>dA rfl rfl (by kernel_rfl) Tryz.underlying3 (iN (by omega) rfl))<|Rs (.slice M.la (M.n) (M.lc)) (aL G.aH 0) ?_;refine aX (au M.n)<|Rp (au A) (fun D=>Fx.xX rfl rfl rfl (by omega) (EF afS))<|Rp (pf S A) (fun _=>dw 1 (hx:=(rfl.trans (L_ (fun q=>Value.slice q (M.n) (M.lc)) J))))<|Rs (pt (M.pl A)) (aL oh.aH A) ?_;refine aX (pt (M.pl A))<|aX (pt (M.pl A))<|aX (pf (M.pl A) 12)<|Rs (.agg (aA 6 (rv .u64 ((M.ml A).s.known)))) (eT nH.aH 12 (fun j W=>kV _ (by omega) (jV _ W (by omega)))) ?_;refine zD<|lD (ZA (M.ml o) B (M.pl o) T M.aa M.an M.ac M.ev ((M.ml A).s.known) _ og (d.inv o (by omega)) m23.arr d.wf d.may d.sm han hT) ?_;rintro e9 w3 ⟨t,f,E,hlc,hI3,hL1,hb1⟩;refine⟨(pt t),E,?_⟩;clear E;have s5:=Sb hb1;have⟨oD,lI,m32,nR,nS⟩:=nN hb1 G m23 m24 nQ oh;have b5:=b4.then s5 (.inr b4.size);refine Ln ⟨s5.old,?_⟩;refine Rp (pf S o) (fun _=>dw 1 (hx:=(rfl.trans (L_ (fun q=>Value.slice q (M.n) (M.lc)) J))))<|gZ<|qU nS o (pt t) fun w4 qW s6 z3 => ?_;have fV:=gH s6 nS.KY;have⟨qB,pK,sS,lM,qg⟩:=rD fV oD lI m32 nR hL1;have b6:=b5.then s6 (.inl (.inr (.inl (by rw[J]; rfl))));have qh:Fx.Own w4 B 29 1 (bK S M.n M.lc) M.n (H9 (aI M.pl o t)):=qW.congr (fun F _=>congrFun Xp F);refine Ln<|bS<|ay<|av (.agg (aA 14 zQ0))<|dU lM 0 (h1:=(fun F _=>by show(zQ0 F).oneCell'=true; simp only[zQ0]; repeat (first|rfl|split))) fun w5 om s7 z4 => ?_
  have rW:aP w5 R 14 zQ0 37:=aQ om;have jr:=gH s7 lM.ty;have wh:=jo jr qB;have uD:=pK.cZ s7 Gv;have⟨qX,uE,wm⟩:=zZ jr sS qg qh;have b7:=b6.then s7 (.inr pO);refine aC (Wr (sR (⟨.agg (aA 14 zQ0),rV Tryz.results28 ⟨_,rfl,aS rW.aH (by kernel_rfl) (by kernel_rfl)⟩,?_⟩)));have wo:Fx.Own w5 B 29 1 (.slice M.la (M.n) (M.lc)) M.n (H9 (aI M.pl o t)):=wm.eY (L_ (fun q=>Value.slice q M.n M.lc) J.symm);exact⟨zeroE,L_ (fun z=>Ending.returned (Value.agg z)) (Fx.dZ (y:=bM zeroE) fun j W=>by rcases j with _|_|_|_|_|_|_|_|_|_|_|_|_|_|j <;> first|rfl|omega),GN,{ M with pl:=aI M.pl o t,ml:=aI M.ml o f },{ c:=wh,l:=wo,a:=uD,g:=qX.put uE,inv:=(fun i U=>by show Inv (aI M.ml o f i).core _; unfold aI; split; exact hI3; exact(d.inv i U).mono (by omega)),wf:=d.wf,may:=d.may,sm:=d.sm,cz:=d.cz.learn (o:=o) (by omega) (L:=(M.ml o).core) rfl (fun q u=>by show(aI M.ml o f q).s.known=_; unfold aI; rw[b_ u]) (by show(aI M.ml o f o).s.known=_; unfold aI; rw[d_ rfl]; exact L_ dP.known hlc),pB:=hpB,n1:=hn1,n6:=hn6 },(by rw[<- Q]; exact⟨rfl,fun q u=>by show aI M.ml o f q=_; unfold aI; rw[b_ u],.inl ⟨rfl,rfl,rfl,.inr ⟨H,by rw[<- afS]; show(aI M.ml o f o).core=_; unfold aI; rw[d_ rfl]; exact hlc⟩⟩⟩),(by show M.an<=M.an+1; omega),(fun _=>rfl),b7,fun _ h => .inl h⟩
 rw[U_]at H;refine Lv aF (aL Y.aH 1 ((show _=Value.bool x.meet from rfl).trans (L_ Value.bool H)))<|aC<|aK<|Wk<|sN<|ay<|av (pt p)<|Lv (.agg (aA 9 (GI x))) (eT Y.aH 0)<|lD (aao M B p T x _ m18 hx) ?_;rintro e9 w6 ⟨V,hV,hVs,hVd,E,hb2⟩;refine⟨_,E,?_⟩;clear E;rw[<- Q]at hVd;have s8:=Sb hb2;have⟨tQ,tT,uF,yD,vK,pz⟩:=oJ hb2 m14 m15 m16 m17 Y m20;have b8:=Z.then s8 (.inr Z.size);refine qR 14 zQ0 fun g3 w7 ae uI s9 z5 => ?_;have⟨m64,xw,wN,vL,xA,tV⟩:=oJ s9.old tQ tT uF yD vK pz;have b9:=b8.then s9 (.inr b8.size);have Bp:=iw ae b8.size;have asF:=cu ae tQ.lt;have O1:(.slice M.aa (M.an) (M.ac):Value).ownBlock≠some g3:=by rw[ae]; exact uF.jF (A_ _)
 have⟨asG,asH⟩:=sF ae vK.lt pz.lt;have Hg:=uI.lt;refine dU uI 0 (h1:=(gK _)) fun w8 vM s10 z6 => ?_;have uP:aP w8 g3 14 (bM V) 37:=aQ vM;have qc:=gH s10 uI.ty;have⟨vN,vO⟩:=Cx qc m64 xw;have zI:=wN.cZ s10 O1;have⟨wO,yI⟩:=Cx qc vL xA;have yJ:=tV.cZ s10 (by omega);have b10:=b9.then s10 (.inr Bp);refine aC<|Ws ?_;have asI:=wO o (by omega);refine kH [0,1,2,4,3,5,6,7,8,9,10,11,12,13] [0,0,0,4,0,0,4,4,3,0,0,0,0,0] [(8,3,[6,5,3]),(8,6,[6]),(8,7,[7]),(9,8,[8]),(10,8,[9,8]),(11,8,[9,8]),(12,8,[8]),(13,8,[8])] fun CJ gJ nZ => ?_;have s11:Stp w8.heap.size w8 CJ:=Sb gJ;have⟨yK,yt,xB,xC,yR,AP,yS,BI⟩:=nO gJ vN vO zI wO yI yJ uP asI;have b11:=b10.then s11 (.inr b10.size);refine aX (pt p)<|aX (pt p)<|aX (pt p)<|aX (au o)<|Rs (.slice M.la (M.n) (M.lc)) (aL yK.aH 0) ?_;obtain⟨Oj,K⟩:=yt.addr (by omega);have Bq:Fx.Own CJ B 29 1 (bK Oj M.n M.lc) M.n (H9 M.pl):=yt.eY (L_ (fun q=>Value.slice q M.n M.lc) K);refine Rp (pf Oj o) (fun _=>dw 1 (hx:=(rfl.trans (L_ (fun q=>Value.slice q (M.n) (M.lc)) K))))<|Rs (pt (M.pl o)) (aL Bq.aH o) ?_;refine Rs (.agg (aA 14 (bM V))) (eT yS.aH 0) ?_;refine gZ<|lD (Qg (M.ml o) B (M.pl o) T V _ BI hV (d.inv o (by omega)).w (by omega)) ?_;rintro e9 w9 ⟨t,f,E,hc3,hL2,hb3⟩;refine⟨.tuple #[(pt t),au (bD (M.ml o).core V)],E,?_⟩;clear E;have s12:=Sb hb3;have⟨Br,AQ,AU,BJ,FL,Es,CU⟩:=jT hb3 yK xB xC yR AP yS Bq;have b12:=b11.then s12 (.inr b11.size);refine Ln<|aX (.tuple #[(pt t),au (bD (M.ml o).core V)])<|aX (pt t)<|aX (au (bD (M.ml o).core V))<|aX (pt t)<|aX (au (bD (M.ml o).core V))<|bS<|Ws<|ay<|av (au (bD (M.ml o).core V)) ?_;by_cases I:(bD (M.ml o).core V)=0
 ·refine Lv aF (jG I)<|aC<|aK<|Wk<|sN<|ay<|av (pt p)<|av (pt p)<|av (pt p)<|Lv (.slice M.la (M.n) (M.lc)) (aL Br.aH 0)<|av (au o)<|av (pt t)<|Lv (pf Oj o) (dw 1 (hx:=(rfl.trans (L_ (fun q=>Value.slice q (M.n) (M.lc)) K))))<|qU CU o (pt t) fun pJ DX s13 z7 => ?_;have xu:=gH s13 CU.KY;have⟨AY,Hl,ET,Ho,HY,xL,yV⟩:=TL xu Br AQ AU BJ FL Es hL2;have b13:=b12.then s13 (.inl (.inr (.inl (by rw[K]; rfl))));have xM:Fx.Own pJ B 29 1 (bK Oj M.n M.lc) M.n (H9 (aI M.pl o t)):=DX.congr (fun F _=>congrFun Xp F);refine aC<|Ws ?_;have vg:Fx.Own pJ B 29 1 (.slice M.la (M.n) (M.lc)) M.n (H9 (aI M.pl o t)):=xM.eY (L_ (fun q=>Value.slice q M.n M.lc) K.symm);refine zX [0,1,2,3,4,5,6,7,8,9,10] [0,0,0,0,1,4,2,2,0,0,3] (iF [37]) vI Fx.iF.trans (fJ := [(10,4,[4]),(6,5,[5]),(7,5,[6,5]),(10,5,[5]),(7,6,[6]),(8,6,[6]),(9,6,[6]),(10,6,[6]),(8,7,[7]),(9,7,[7]),(10,7,[7])]) (by kernel_rfl) (by kernel_rfl) (by kernel_rfl) (by kernel_rfl) (by kernel_rfl) fun SS mQ BG => ?_;have Cr:Stp pJ.heap.size pJ SS:=Sb mQ;have⟨qF,ql,rJ,qG,sI,uo,wB,sJ⟩:=nO mQ AY Hl ET Ho HY xL yV vg;have b14:=b13.then Cr (.inr b13.size);refine aX (pt p)<|aX (pt p)<|aX (pt p)<|aX (pf p 1)<|Rd (v := .slice M.aa (M.an) (M.ac)) (by rfl) (by rfl) (vI _) (fun D C=>bA (x:=Nt (.slice M.la (M.n) (M.lc)) (.slice M.aa (M.an) (M.ac))) rfl rfl (by kernel_rfl) (qF.lu C (by decide)).aH (i:=1) (by omega) (by omega) rfl) ?_;refine Rs (.agg (aA 14 (bM V))) (eT uo.aH 0) ?_;refine zD<|wV (vs := [(0,.agg (aA 14 (bM V)))]) (s:=14) (zc:=fun b=>if b<1 then au 0 else if b<8 then aD 0 else if b<9 then .int .u8 (0)else if b<10 then aD 0 else if b<12 then au 0 else aD 0) (y:=bB (fun j=>zQ0 (j % 14)) (0*14) 14 (bM V)) (by rfl) rfl rfl Tryz.underlying76 (by kernel_rfl) (by rfl) (by rfl) (by kernel_rfl) (by rw[aZ (off:=0*14) (s:=14) (y:=bM V) rfl (bE _ _) (by rfl)]; rfl) rfl fun g4 DV af vk s15 z8 => ?_;have⟨Ad,wC,Ae,yF,vo,rM,yX⟩:=jT s15.old qF ql rJ sI uo wB sJ;have b15:=b14.then s15 (.inr b14.size);have Og:=iw af b14.size;have Zi:=cu af qF.lt;have Zj:(.slice M.aa (M.an) (M.ac):Value).ownBlock≠some g4:=by rw[af]; exact ql.jF (A_ _)
  have⟨amm,amn,Zk⟩:=AJ af qG.lt sI.lt uo.lt;have Oh:=vk.lt;refine Ln ⟨Fx.iF.of_below s15.old,?_⟩;refine zD<|yc (B:=B) (s:=14) (bytes:=112) (k:=M.an) (m:=1) (v := .slice M.aa (M.an) (M.ac)) (x:=evX M.ev) (by rfl) rfl rfl rfl Tryz.underlying76 (by kernel_rfl) (by kernel_rfl) rfl rfl wC vk.aH (uT (fun j=>(show(bM V j).oneCell'=true by unfold bM; repeat (first|rfl|split)))) (by omega) (by omega) (by omega) (m_ hB b15.size) fun N ab Ct ho1 hg1 tO hlt1 => ?_
  have Aa:=yC hg1 wC;have⟨vw,CW⟩:=Cx Aa Ad Ae;have FX:=yF.grown hg1 Gv;have amo:R≠N:=fun e=>tO.elim (fun P=>Gv (by rw[e]; exact P)) (fun P=>by have:=yF.lt; omega);have BP:=vo.grown hg1 O1;have amq:g3≠N:=fun e=>tO.elim (fun P=>O1 (by rw[e]; exact P)) (fun P=>by have:=vo.lt; omega);have⟨FY,HZ⟩:=Cx Aa rM yX;have yY:Fx.Own Ct B 37 14 (bK N (M.an+1) ab) (M.an+1) (evX (aI M.ev M.an V)):=(ho1.congr (fun j W=>afQ j W));have b16:jM (Yw p M) w Ct:=Fx.jM.grow b15 hg1 (fun q u => .inl (.inr (.inr u)));refine Ln ⟨Aa,?_⟩;refine aX (pt p)<|aX (pf p 1)<|gZ<|ji vw 1 (bK N (M.an+1) ab) fun EM CX s16 z9 => ?_;have AZ:aP EM p 2 (Nt (.slice M.la (M.n) (M.lc)) (bK N (M.an+1) ab)) 78:=CX.congr (ajB _ _ _);have Ac:=gH s16 vw.ty;have⟨J3,FZ,F3,H6,H7,CY⟩:=TK Ac CW FX BP FY HZ yY;have b17:=b16.then s16 (.inl (.inl rfl));refine Ln<|bS<|ay<|Lv (.agg (aA 14 (bM V))) (eT F3.aH 0)<|dU FZ 0 (h1:=(gK _)) fun KD F4 KC z10 => ?_;have CZ:aP KD R 14 (bM V) 37:=aQ F4;have BO:=gH KC FZ.ty;have Gb:=jo BO J3;have A8:=F3.cZ KC (by omega);have⟨C8,BQ⟩:=Cx BO H6 H7;have JV:=CY.acL KC (by omega);have Vr:=jo BO AZ;have b18:=b17.then KC (.inr pO);refine aC (Wr (⟨.agg (aA 14 (bM V)),rV Tryz.results28 ⟨_,rfl,aS CZ.aH (by kernel_rfl) (by kernel_rfl)⟩,?_⟩));have hinv:Inv f.core (T+3660):=by rw[hc3]; exact(IZ hVs (d.inv o (by omega))).mono (by omega)
  have eRo:aN V=o:=by unfold aN; omega
  have hk3:f.s.known=aI (M.ml o).s.known o ((M.ml o).s.known o+1):=(L_ dP.known hc3).trans (by rw[zS I,eRo]; rfl);exact⟨V,rfl,hV,{ M with pl:=aI M.pl o t,ml:=aI M.ml o f,an:=M.an+1,aa:=some ⟨N,0,none⟩,ac:=ab,ev:=aI M.ev M.an V },{ c:=Vr,l:=BQ,a:=JV,g:=Gb.put C8,inv:=(fun i U=>by show Inv (aI M.ml o f i).core _; unfold aI; split; exact hinv; exact(d.inv i U).mono (by omega)),wf:=(fun k X=>by have hk2:k<M.an+1:=X; show gL (aI M.ev M.an V k); unfold aI; split; exact hV; exact d.wf k (by omega)),may:=(fun k X=>by have hk2:k<M.an+1:=X; show bR (aI M.ev M.an V k)=true; unfold aI; split; exact Sw I; exact d.may k (by omega)),sm:=(fun k X=>by have hk2:k<M.an+1:=X; show sM (aI M.ev M.an V k); unfold aI; split; exact hVs; exact d.sm k (by omega)),cz:=d.cz.event (o:=o) (by omega) (jD I) eRo hVd.2.2 (fun q u=>by show(aI M.ml o f q).s.known=_; unfold aI; rw[b_ u]) (by show(aI M.ml o f o).s.known=_; unfold aI; rw[d_ rfl]; exact hk3),pB:=hpB,n1:=hn1,n6:=hn6 },(by rw[<- Q]; exact⟨rfl,fun q u=>by show aI M.ml o f q=_; unfold aI; rw[b_ u],.inr ⟨H,rfl,rfl,I,by show(aI M.ml o f o).core=_; unfold aI; rw[d_ rfl]; exact hc3,hVd⟩⟩),A_ _,(fun u=>by rw[H]at u; cases u),b18,aaw.app tO b15.size⟩
 refine Lv aG (mG I)<|aC<|aM<|ay<|av (.agg (aA 14 zQ0))<|dU FL 0 (h1:=(fun F _=>by show(zQ0 F).oneCell'=true; simp only[zQ0]; repeat (first|rfl|split))) fun Lp VF Nq z11 => ?_
 have Vs:aP Lp R 14 zQ0 37:=aQ VF;have FV:=gH Nq FL.ty;have Vt:=jo FV Br;have aeg:=AQ.cZ Nq Gv;have Vu:=jo FV AU;have Vv:=Es.cZ Nq (by omega);have RH:=jo FV CU;have b19:=b12.then Nq (.inr pO);refine aC (Wr (sR (⟨.agg (aA 14 zQ0),rV Tryz.results28 ⟨_,rfl,aS Vs.aH (by kernel_rfl) (by kernel_rfl)⟩,?_⟩)));have Vx:Fx.Own Lp B 29 1 (.slice M.la (M.n) (M.lc)) M.n (H9 M.pl):=RH.eY (L_ (fun q=>Value.slice q M.n M.lc) K.symm);exact⟨zeroE,L_ (fun z=>Ending.returned (Value.agg z)) (Fx.dZ (y:=bM zeroE) fun j W=>by rcases j with _|_|_|_|_|_|_|_|_|_|_|_|_|_|j <;> first|rfl|omega),GN,M,{ c:=Vt,l:=Vx,a:=aeg,g:=Vu,inv:=fun i U=>(d.inv i U).mono (by omega),wf:=d.wf,may:=d.may,sm:=d.sm,cz:=d.cz,pB:=hpB,n1:=hn1,n6:=hn6 },⟨rfl,fun _ _=>rfl,.inl ⟨rfl,rfl,rfl,.inl rfl⟩⟩,by omega,(fun _=>rfl),b19,fun _ h => .inl h⟩
theorem akj(M:WM)(B p T:Nat)(x:ED)(w:World)(c:oZ w B p M T)(b:B<=w.heap.size)(hx:GH x)(m:M.an<=60)(l:T<=890000) :
 Calls Tryz.prog 28 #[(pt p),.agg (aA 9 (GI x))] w fun e w' => ∃ v,e = .returned (.agg (aA 14 (bM v)))/\gL v /\ ∃ a,oZ w' B p a (T+3660)/\DoR (x.who % M.n) x M a v/\a.an<=M.an+1/\(x.meet=true->a.an=M.an)/\Below B w w' :=
 (aki M B p T x w c b hx m l).mono fun _ _ ⟨v,d,f,a,g,h,i,j,k,_⟩=>⟨v,d,f,a,g,h,i,j,c.Kk b k⟩
end Go.Proofs.YtcbedgfikejkoaaGreatDoor
namespace Go.Proofs.YtcbedgfikejkoaaGreatDoor
open Go.RowKit Go.WideShapes Go.ChangeShapes Go.Deep Rt
def Xv:Value->Bool | .bool b=>b|_=>false
theorem Te.int{k:IntKind}{v:Value}(h:Te (some k) v):v = .int k (intOf v)/\(Lit.int k (intOf v)).wf=true:=by
 obtain⟨n,rfl,a⟩:=h; exact⟨rfl,a⟩
theorem Te.bool{v:Value}(h:Te none v):v = .bool (Xv v):=by
 obtain⟨b,rfl⟩:=h; rfl
theorem wf_u8{n:Int}(h:(Lit.int .u8 n).wf=true):0<=n/\n<=255:=by simp[Lit.wf,IntKind.min,IntKind.max,IntKind.bits,IntKind.signed]at h; omega
theorem wf_u16{n:Int}(h:(Lit.int .u16 n).wf=true):0<=n/\n<=65535:=by simp[Lit.wf,IntKind.min,IntKind.max,IntKind.bits,IntKind.signed]at h; omega
theorem Xw{n:Int}(h:(Lit.int .u8 n).wf=true) : ∃ m:Nat,n=(m:Int)/\m<=255:=by
 have:=wf_u8 h; exact⟨n.toNat,by omega,by omega⟩
theorem Fx.mP.congr{w:World}{a:Option Addr}{n s:Nat}{x y:Nat->Value}(h:Fx.mP w a n s x)(e : ∀ p,p<n*s->x p=y p):Fx.mP w a n s y:=fun f=>by
 obtain⟨b,j,d,g⟩:=h f;exact⟨b,j,d,fun i c=>by rw[<- e i c]; exact g i c⟩
def Xx:List (Option IntKind) := [some .u8,none,some .u8,some .u8,some .u8,some .u8,some .u16,some .u8,some .u8]
def Xy(X:Nat->Value):ED:=⟨(intOf (X 0)).toNat,Xv (X 1),(intOf (X 2)).toNat,(intOf (X 3)).toNat,(intOf (X 4)).toNat,(intOf (X 5)).toNat,(intOf (X 6)).toNat,(intOf (X 7)).toNat,(intOf (X 8)).toNat⟩
theorem MX{X:Nat->Value}(h : ∀(j:Nat) (k:Option IntKind),Xx[j]? = some k->Te k (X j)):GH (Xy X) /\ ∀ j,j<9->X j=GI (Xy X) j:=by
 have a : ∀ j,Xx[j]? = some (some .u8)->X j = .int .u8 ((intOf (X j)).toNat:Int)/\(intOf (X j)).toNat<=255:=fun j d=>by
  obtain⟨e,b⟩:=(h j _ d).int;have:=wf_u8 b;exact⟨by rw[Int.toNat_of_nonneg this.1]; exact e,by omega⟩
 have c:X 6 = .int .u16 ((intOf (X 6)).toNat:Int)/\(intOf (X 6)).toNat<=65535:=by
  obtain⟨e,b⟩:=(h 6 (some .u16) rfl).int;have:=wf_u16 b;exact⟨by rw[Int.toNat_of_nonneg this.1]; exact e,by omega⟩
 refine⟨⟨(a 0 rfl).2,(a 2 rfl).2,(a 3 rfl).2,(a 4 rfl).2,(a 5 rfl).2,c.2,(a 7 rfl).2,(a 8 rfl).2⟩,fun j d => ?_⟩
 rcases j with _|_|_|_|_|_|_|_|_|j
 ·exact(a 0 rfl).1
 ·exact(h 1 none rfl).bool
 ·exact(a 2 rfl).1
 ·exact(a 3 rfl).1
 ·exact(a 4 rfl).1
 ·exact(a 5 rfl).1
 ·exact c.1
 ·exact(a 7 rfl).1
 ·exact(a 8 rfl).1
 omega
section
variable {H:Type} {enc:TypeId × Value->H} {P:Program} {w:World}
theorem Sy{t e:TypeId}{a:Option Addr}{len cap D:Nat}{d:DataW H}{r:List MemPlace}(q:P.underlying t=some (.slice e))(b:zl P D e=some Xx)(l:P.cellsOf e=9)
 (h:DataW.Trod enc P w 0 (fun _=>true) true t (.slice a len cap) d r) : ∃ g:Nat->ED,(∀ i,i<len->GH (g i))/\Fx.mP w a len 9 (Fx.flat 9 fun k=>GI (g k)):=by
 obtain⟨v,n⟩:=h;obtain⟨s,x,u,f,_,_,X,c,m⟩:=Sv q b l (by decide) n;simp[Value.cells]at f;obtain⟨rfl,rfl,rfl⟩:=f;exact⟨fun i=>Xy (X i),fun i o=>(MX (c i o)).1,m.congr (Fx.bI fun k b j p=>(MX (c k b)).2 j p)⟩
end
end Go.Proofs.YtcbedgfikejkoaaGreatDoor
namespace Go.Proofs.YtcbedgfikejkoaaGreatDoor
open Go.RowKit Rt
open Fx (bA dQ iM Lv sN Ln Ws Wl Wr Sb Wk rV sR Rs Rn Rd Wb zx gH nG zX rv aA aP bB aO ev Stp aQ flat aS iU iJ bI bJ ig dD bL bP fP)
theorem akk{B:Nat}{a b c:World}(h:Below a.heap.size a b)(e:Below B b c)(d:a.heap.size<=B):Below a.heap.size a c:=h.trans (e.mono d)
theorem uh.Em{w w':World}{B p:Nat}{m:mo}{e:List TypeId}(h:uh w B p m)(b:Fx.zF e w w')(k:(LM.all fun T => !e.contains T)=true):uh w' B p m:=by
 have a : ∀ d∈LM,e.contains d=false:=fun d f=>by
  have:=List.all_eq_true.1 k d f
  simpa using this
 exact { h with
  c:=h.c.Em b (a _ (by decide)),n:=h.n.Em b (a _ (by decide)),g:=h.g.Em b (a _ (by decide)),tc:=h.tc.Em b (a _ (by decide)),t:=h.t.Em b (a _ (by decide)),r:=⟨fun i j=>(h.r.1 i j).Em b (a _ (by decide)),h.r.2⟩ }
theorem QS(m:mo)(p:Nat)(i x:Int)(w:World)(h:CQ w p m) :
 Calls Tryz.prog 34 #[(pt p),au i,aD x] w fun e w'=>e = .returned (au (jy m.core x i))/\Below w.heap.size w w':=by
 have j:=h.c;have lp:p<w.heap.size:=j.lt (by omega);have C:=h.bn;have B:=h.bg;have D:=h.bt;refine Kent Tryz.func34 24 ?_;refine ay<|av (au 0)<|aC<|ay<|av (pt p)<|av (aD x)<|dH (FU m p x _ h) _ rfl ?_;intro F t;have⟨z,d⟩:=eU t j (Below.refl w.heap.size w);refine av (au (m.node x))<|aC<|Ws<|ay<|av (au (m.node x)) ?_;by_cases a:(m.node x)<0
 ·refine Lv aG (gM a)<|aC<|aM<|ay<|av (au 0)<|aC<|Wr<|sR<|aJ (au 0) ?_;exact⟨oL (by unfold jy; rw[d_ (show m.core.node x<0 from a)]),d⟩
 refine Lv aF (gN a)<|aC<|aK<|Wk<|sN<|Ws ?_;obtain⟨q,v,r,E⟩:=BS (m:=m) (x:=x) (by omega);have f:m.node x=(q:Int):=r;obtain⟨b,k,o,g⟩:=h.n q v;have y:b<w.heap.size:=g.lt (by omega);have A:=g.below d y;refine Wl<|av (pt p)<|av (pt p)<|av (pt p)<|av (pf p 18)<|Lv (.slice m.s.na (m.s.nn) (m.s.nc)) (aL z 18)<|aU (L_ (Value.int .i64) f)<|Lv (pf b (k+56*q)) (dw 56 (hx:=(rfl.trans (L_ (fun q=>Value.slice q (m.s.nn) (m.s.nc)) o))))<|av (pf b (k+56*q+2))<|Lv (.agg (aA 54 (rv .i64 (m.R q)))) (eT A 2 (fun q _=>BN _ _ _ q))<|av (au i)<|dH (RQ (m.R q) i _) _ rfl ?_;intro G u;have l:=bf u d;refine av (au (bT (m.R q) i))<|aC<|Wr<|aJ (au (bT (m.R q) i)) ?_;exact⟨oL (by unfold jy; rw[b_ (show ¬ m.core.node x<0 from a),show(m.core.node x).toNat=q by show(m.node x).toNat=q; rw[f]; rfl]; rfl),l⟩
section
namespace Rt
structure Ab where
 inn:Nat->Bool
 left:Nat->Bool
 own:Nat->Int
 has:Int->Bool
 par:Int->Int
 R:Int->Nat->Int
 gh:Int->Int->Bool
 g:Int->Int->Nat->Int
 ask:Int->Int->Bool
def Ab.up(A:Ab)(x:Int):Nat->Int
 | 0=>x
 | i+1=>A.par (A.up x i)
def Ab.on(A:Ab)(x y:Int):Bool:=A.has y&&(List.range 6).any fun i=>decide (A.up x i=y)
def rZ(v:EvM):Int:=jE v.o v.seq
def aV(v:EvM):Nat:=(v.o-1).toNat
def dV(v:EvM):Nat:=(v.dst-1).toNat
def Ab.dl(A:Ab)(v:EvM)(y:Int)(p:Nat):Int :=
 if v.kind=1 then(if y=rZ v/\p=aV v then v.aT else 0)
 else if v.kind=2 then(if y=v.node/\p=aV v then v.aT else 0)
 else if v.kind=3 then(if A.on v.node y=true/\p=6+aV v then v.aT else 0)
 else if v.kind=4 then(if A.on (A.g v.o v.of 2) y=true/\p=12+aV v then A.g v.o v.of 3 else 0)
 else if v.kind=5 then(if y=v.node/\p=18+(6*aV v+dV v)then v.aT else 0)
 else 0
def Ab.rR(A:Ab)(v:EvM):Ab where
 inn:=fun j=>A.inn j || (decide (v.kind=6)&&decide (j=dV v))
 left:=fun j=>A.left j || (decide (v.kind=7)&&decide (j=aV v))
 own:=fun j=>A.own j+if v.kind=1/\j=aV v then 1 else 0
 has:=fun y=>A.has y || (decide (v.kind=1)&&decide (y=rZ v))
 par:=fun y=>if v.kind=1/\y=rZ v then v.node else A.par y
 R:=fun y p=>A.R y p+A.dl v y p
 gh:=fun o r=>A.gh o r || (decide (v.kind=3)&&(decide (o=v.o)&&decide (r=v.req)))
 g:=fun o r j=>if v.kind=3/\o=v.o/\r=v.req then(if j=2 then v.node else if j=3 then v.aT else 0)else if v.kind=4/\o=v.o/\r=v.of/\j=4 then v.req else A.g o r j
 ask:=fun o r=>A.ask o r || ((decide (v.kind=3) || decide (v.kind=4))&&(decide (o=v.o)&&decide (r=v.req)))
structure Ab.Ok(A:Ab):Prop where
 z:A.has 0=false
 p : ∀ y,A.has y=true->A.par y=0\/A.has (A.par y)=true
 p0 : ∀ y,A.has y=false->A.par y=0
 g : ∀ o r,A.gh o r=true->A.has (A.g o r 2)=true
 r0 : ∀ y p,A.has y=false->A.R y p=0
structure Ab.Pre(A:Ab)(v:EvM):Prop where
 n1:v.kind=1->A.has (rZ v)=false/\rZ v≠0/\(v.node=0\/A.has v.node=true)
 n2:v.kind=2->A.has v.node=true
 n3:v.kind=3->A.has v.node=true/\A.gh v.o v.req=false
 n4:v.kind=4->A.gh v.o v.of=true
 n5:v.kind=5->A.has v.node=true
section
variable {A B:Ab} {u v:EvM} {y:Int}
theorem Ab.Jj(h:A.Ok){x:Int}(hx:A.has x=true) : ∀ i,A.up x i=0\/A.has (A.up x i)=true
 | 0 => .inr hx
 | i+1=>by
   show A.par (A.up x i)=0\/A.has (A.par (A.up x i))=true
   rcases Ab.Jj h hx i with e|e
   ·left; rw[e]; exact h.p0 0 h.z
   ·exact h.p _ e
theorem Ab.Cm(hy:A.has y=true):(A.rR v).has y=true:=by show(A.has y || _)=true; rw[hy]; rfl
theorem Ab.QT(c:A.Pre v)(hy:A.has y=true):(A.rR v).par y=A.par y:=by
 show(if v.kind=1/\y=rZ v then v.node else A.par y)=A.par y;rw[b_];rintro ⟨a,b⟩;have:=(c.n1 a).1;rw[<- b,hy]at this; cases this
theorem Ab.Xz(c:A.Pre v):(A.rR v).par 0=A.par 0:=by
 show(if v.kind=1/\(0:Int)=rZ v then v.node else A.par 0)=A.par 0;rw[b_];rintro ⟨a,b⟩;exact(c.n1 a).2.1 b.symm
theorem Ab.XA(h:A.Ok)(a:A.Pre v){x:Int}(hx:A.has x=true) : ∀ i,(A.rR v).up x i=A.up x i
 | 0=>rfl
 | i+1=>by
   show(A.rR v).par ((A.rR v).up x i)=A.par (A.up x i);rw[Ab.XA h a hx i]
   rcases Ab.Jj h hx i with e|e
   ·rw[e]; exact Ab.Xz a
   ·exact Ab.QT a e
theorem Ab.XB(h:A.Ok)(b:A.Pre v){x:Int}(hx:A.has x=true)(y:Int):(A.rR v).on x y=A.on x y:=by
 unfold Ab.on;have e:((List.range 6).any fun i=>decide ((A.rR v).up x i=y))=((List.range 6).any fun i=>decide (A.up x i=y)):=by
  congr 1; funext i; rw[Ab.XA h b hx i]
 rw[e]
 cases hc:(List.range 6).any fun i=>decide (A.up x i=y)
 ·rw[I_,I_]
 rw[Bool.and_true,Bool.and_true];obtain⟨i,_,a⟩:=List.any_eq_true.1 hc;have a:=h_ a;show(A.has y || (decide (v.kind=1)&&decide (y=rZ v)))=A.has y
 cases hy:A.has y
 ·rcases Ab.Jj h hx i with e0|e0
  ·rw[a]at e0
   cases c1:decide (v.kind=1)
   ·rfl
   have:=(b.n1 (h_ c1)).2.1;rw[g_ (show ¬ y=rZ v by rw[e0]; exact fun q=>this q.symm)]; rfl
  rw[a,hy]at e0; cases e0
 rfl
theorem Ab.MZ(f:A.Pre v){o r:Int}(d:A.gh o r=true)(j:Nat)(e:j≠4):(A.rR v).g o r j=A.g o r j:=by
 show(if v.kind=3/\o=v.o/\r=v.req then(if j=2 then v.node else if j=3 then v.aT else 0)else if v.kind=4/\o=v.o/\r=v.of/\j=4 then v.req else A.g o r j)=A.g o r j;rw[b_,b_]
 ·exact fun q=>e q.2.2.2
 rintro ⟨a,b,c⟩;have:=(f.n3 a).2;rw[<- b,<- c,d]at this; cases this
theorem Ab.afT{o r:Int}(a:A.gh o r=true):(A.rR v).gh o r=true:=by show(A.gh o r || _)=true; rw[a]; rfl
theorem Ab.afU(h:A.Ok)(b:A.Pre v):(A.rR v).Ok where
 z:=by
  show(A.has 0 || (decide (v.kind=1)&&decide ((0:Int)=rZ v)))=false;rw[h.z,Bool.false_or]
  cases c1:decide (v.kind=1)
  ·rfl
  ·rw[g_ (fun q=>(b.n1 (h_ c1)).2.1 q.symm)]; rfl
 p:=fun y a=>by
  have a:(A.has y || (decide (v.kind=1)&&decide (y=rZ v)))=true:=a;show(if v.kind=1/\y=rZ v then v.node else A.par y)=0\/(A.rR v).has (if v.kind=1/\y=rZ v then v.node else A.par y)=true;by_cases c:v.kind=1/\y=rZ v
  ·rw[d_ c];exact(b.n1 c.1).2.2.imp id Ab.Cm
  ·rw[b_ c];have u:A.has y=true:=by
    rcases Bool.or_eq_true_iff.1 a with q|q
    ·exact q
    ·rw[T_]at q; exact M_ ⟨h_ q.1,h_ q.2⟩ c
   exact(h.p y u).imp id Ab.Cm
 p0:=fun y a=>by
  have a:(A.has y || (decide (v.kind=1)&&decide (y=rZ v)))=false:=a;rw[Bool.or_eq_false_iff]at a;show(if v.kind=1/\y=rZ v then v.node else A.par y)=0;rw[b_]
  ·exact h.p0 y a.1
  ·rintro ⟨s,t⟩;rw[f_ s,f_ t]at a; cases a.2
 g:=fun o r d=>by
  have d:(A.gh o r || (decide (v.kind=3)&&(decide (o=v.o)&&decide (r=v.req))))=true:=d;by_cases c:v.kind=3/\o=v.o/\r=v.req
  ·have:(A.rR v).g o r 2=v.node:=(by show(if v.kind=3/\o=v.o/\r=v.req then _ else _)=v.node; rw[d_ c]; rfl);rw[this]; exact Ab.Cm (b.n3 c.1).1
  ·have k:A.gh o r=true:=by
    rcases Bool.or_eq_true_iff.1 d with q|q
    ·exact q
    ·rw[T_,T_]at q; exact M_ ⟨h_ q.1,h_ q.2.1,h_ q.2.2⟩ c
   rw[Ab.MZ b k 2 (by decide)];exact Ab.Cm (h.g o r k)
 r0:=fun y p a=>by
  have a:(A.has y || (decide (v.kind=1)&&decide (y=rZ v)))=false:=a;rw[Bool.or_eq_false_iff]at a;show A.R y p+A.dl v y p=0;rw[h.r0 y p a.1,Int.zero_add];have l : ∀ x,A.on x y=false:=fun x=>by unfold Ab.on; rw[a.1]; rfl
  unfold Ab.dl;by_cases f:v.kind=1
  ·rw[d_ f,b_];rintro ⟨e,_⟩; rw[f_ f,f_ e]at a; cases a.2
  rw[b_ f];by_cases i:v.kind=2
  ·rw[d_ i,b_];rintro ⟨e,_⟩; rw[e,b.n2 i]at a; cases a.1
  rw[b_ i];by_cases m:v.kind=3
  ·rw[d_ m,b_]; rw[l]; exact fun q=>by cases q.1
  rw[b_ m];by_cases n:v.kind=4
  ·rw[d_ n,b_]; rw[l]; exact fun q=>by cases q.1
  rw[b_ n];by_cases j:v.kind=5
  ·rw[d_ j,b_];rintro ⟨e,_⟩; rw[e,b.n5 j]at a; cases a.1
  rw[b_ j]
theorem Ab.XC(h:A.Ok)(c:A.Pre u)(i:A.Pre v)(y:Int)(p:Nat):(A.rR u).dl v y p=A.dl v y p:=by
 unfold Ab.dl;by_cases d:v.kind=1
 ·rw[d_ d,d_ d]
 rw[b_ d,b_ d];by_cases e:v.kind=2
 ·rw[d_ e,d_ e]
 rw[b_ e,b_ e];by_cases a:v.kind=3
 ·rw[d_ a,d_ a,Ab.XB h c (i.n3 a).1]
 rw[b_ a,b_ a];by_cases b:v.kind=4
 ·have f:=i.n4 b;rw[d_ b,d_ b,Ab.MZ c f 2 (by decide),Ab.MZ c f 3 (by decide),Ab.XB h c (h.g _ _ f)]
 rw[b_ b,b_ b]
theorem Ab.Sz(h1:A.inn=B.inn)(a:A.left=B.left)(b:A.own=B.own)(c:A.has=B.has)(d:A.par=B.par)(e:A.R=B.R)(f:A.gh=B.gh)(h:A.g=B.g)(i:A.ask=B.ask):A=B:=by
 cases A; cases B; simp only at h1 a b c d e f h i; subst h1 a b c d e f h i; rfl
theorem Ab.XD(h:A.Ok)(b:A.Pre u)(d:A.Pre v)(k:u.o≠v.o)(i:u.kind=1->v.kind=1->rZ u≠rZ v):(A.rR u).rR v=(A.rR v).rR u:=by
 apply Ab.Sz
 ·funext j; exact Bool.or_right_comm _ _ _
 ·funext j; exact Bool.or_right_comm _ _ _
 ·funext j; exact Int.add_right_comm _ _ _
 ·funext y; exact Bool.or_right_comm _ _ _
 ·funext y
  show(if v.kind=1/\y=rZ v then v.node else if u.kind=1/\y=rZ u then u.node else A.par y)=(if u.kind=1/\y=rZ u then u.node else if v.kind=1/\y=rZ v then v.node else A.par y);by_cases c:v.kind=1/\y=rZ v
  ·rw[d_ c,d_ c,b_];rintro ⟨e,f⟩;exact i e c.1 (f.symm.trans c.2)
  rw[b_ c,b_ c]
 ·funext y p
  show A.R y p+A.dl u y p+(A.rR u).dl v y p=A.R y p+A.dl v y p+(A.rR v).dl u y p;rw[Ab.XC h b d,Ab.XC h d b,Int.add_right_comm]
 ·funext o r; exact Bool.or_right_comm _ _ _
 ·funext o r j
  show(if v.kind=3/\o=v.o/\r=v.req then _ else if v.kind=4/\o=v.o/\r=v.of/\j=4 then v.req else if u.kind=3/\o=u.o/\r=u.req then _ else if u.kind=4/\o=u.o/\r=u.of/\j=4 then u.req else A.g o r j) =
   (if u.kind=3/\o=u.o/\r=u.req then _ else if u.kind=4/\o=u.o/\r=u.of/\j=4 then u.req else if v.kind=3/\o=v.o/\r=v.req then _ else if v.kind=4/\o=v.o/\r=v.of/\j=4 then v.req else A.g o r j)
  by_cases c:o=v.o
  ·have a : ¬ o=u.o:=fun q=>k (q.symm.trans c);rw[b_ (show ¬ (u.kind=3/\o=u.o/\r=u.req)from fun q=>a q.2.1),b_ (show ¬ (u.kind=4/\o=u.o/\r=u.of/\j=4)from fun q=>a q.2.1),b_ (show ¬ (u.kind=3/\o=u.o/\r=u.req)from fun q=>a q.2.1),b_ (show ¬ (u.kind=4/\o=u.o/\r=u.of/\j=4)from fun q=>a q.2.1)]
  rw[b_ (show ¬ (v.kind=3/\o=v.o/\r=v.req)from fun q=>c q.2.1),b_ (show ¬ (v.kind=4/\o=v.o/\r=v.of/\j=4)from fun q=>c q.2.1),b_ (show ¬ (v.kind=3/\o=v.o/\r=v.req)from fun q=>c q.2.1),b_ (show ¬ (v.kind=4/\o=v.o/\r=v.of/\j=4)from fun q=>c q.2.1)]
 funext o r; exact Bool.or_right_comm _ _ _
end
end Rt
end
section
namespace Rt
def Dx(x:Nat->Int)(a:Nat):Int:=x a-x (6+a)+x (12+a)+(x (18+(6*0+a))+x (18+(6*1+a))+x (18+(6*2+a))+x (18+(6*3+a))+x (18+(6*4+a))+x (18+(6*5+a)))-(x (18+(6*a+0))+x (18+(6*a+1))+x (18+(6*a+2))+x (18+(6*a+3))+x (18+(6*a+4))+x (18+(6*a+5)))
structure Ab.SA(A:Ab)(v:EvM):Prop where
 inn:A.inn (aV v)=true
 left:A.left (aV v)=false
 pre:A.Pre v
 k1:v.kind=1->A.own (aV v)<5/\v.aT<=140737488355328 /\ ¬ ∀ i,i<4->A.has (A.up v.node i)=true
 k2:v.kind=2->A.R v.node (aV v)+v.aT<=140737488355328
 k3:v.kind=3->A.ask v.o v.req=false /\ ∀ y,A.on v.node y=true->v.aT<=Dx (A.R y) (aV v)
 k4:v.kind=4->A.ask v.o v.req=false/\A.g v.o v.of 4=0 /\ ∀ y,A.on (A.g v.o v.of 2) y=true->A.g v.o v.of 3<=A.R y (6+aV v)-A.R y (12+aV v)
 k5:v.kind=5->A.inn (dV v)=true/\v.aT<=Dx (A.R v.node) (aV v)
def akl(a p:Nat):Prop:=p=a\/p=6+a\/p=12+a \/ ∃ k,k<6/\p=18+(6*a+k)
structure Ab.Le(A B:Ab)(a:Nat):Prop where
 inn : ∀ j,A.inn j=true->B.inn j=true
 left:B.left a=A.left a
 own:B.own a=A.own a
 has : ∀ y,A.has y=true->B.has y=true
 hid : ∀ s,1<=s/\s<1099511627776->B.has (jE ((a:Int)+1) s)=A.has (jE ((a:Int)+1) s)
 par : ∀ y,A.has y=true->B.par y=A.par y
 R1 : ∀ y p,A.has y=true->akl a p->B.R y p=A.R y p
 R2 : ∀ y k,A.has y=true->k<6->A.R y (18+(6*k+a))<=B.R y (18+(6*k+a))
 gh : ∀ o r,A.gh o r=true->B.gh o r=true /\ ∀ j,j≠4->B.g o r j=A.g o r j
 gho : ∀ r,B.gh ((a:Int)+1) r=A.gh ((a:Int)+1) r
 go : ∀ r,B.g ((a:Int)+1) r 4=A.g ((a:Int)+1) r 4
 ask : ∀ r,B.ask ((a:Int)+1) r=A.ask ((a:Int)+1) r
structure Nu(v:EvM):Prop where
 o:1<=v.o/\v.o<=6
 seq:1<=v.seq/\v.seq<1099511627776
 aT:0<=v.aT
 dst:v.kind=5->1<=v.dst/\v.dst<=6
section
variable {A B:Ab} {u v:EvM} {a:Nat} {x y:Int}
theorem Nu.reg(h:Nu v):v.o=(aV v:Int)+1/\aV v<6:=by have:=h.o; unfold aV; omega
theorem Nu.id(h:Nu v):rZ v=1099511627776*v.o+v.seq:=by
 unfold rZ jE; rw[d_ ⟨h.o.1,h.o.2,h.seq.1,h.seq.2⟩]
theorem Nu.ne(a:Nu u)(b:Nu v)(h:u.o≠v.o):rZ u≠rZ v:=by
 rw[a.id,b.id]; have:=a.seq; have:=b.seq; have:=a.o; have:=b.o; omega
theorem Ab.Le.refl(A:Ab)(a:Nat):A.Le A a:=⟨fun _ h=>h,rfl,rfl,fun _ h=>h,fun _ _=>rfl,fun _ _=>rfl,fun _ _ _ _=>rfl,fun _ _ _ _=>N_ _,fun _ _ h=>⟨h,fun _ _=>rfl⟩,fun _=>rfl,fun _=>rfl,fun _=>rfl⟩
theorem Ab.Le.up(h:A.Le B a)(b:A.Ok)(c:B.Ok)(hx:A.has x=true) : ∀ i,B.up x i=A.up x i
 | 0=>rfl
 | i+1=>by
   show B.par (B.up x i)=A.par (A.up x i);rw[h.up b c hx i]
   rcases Ab.Jj b hx i with e|e
   ·rw[e,b.p0 0 b.z,c.p0 0 c.z]
   ·exact h.par _ e
theorem Ab.Le.on(h:A.Le B a)(c:A.Ok)(d:B.Ok)(hx:A.has x=true)(y:Int):B.on x y=A.on x y:=by
 unfold Ab.on;have e:((List.range 6).any fun i=>decide (B.up x i=y))=((List.range 6).any fun i=>decide (A.up x i=y)):=by
  congr 1; funext i; rw[h.up c d hx i]
 rw[e]
 cases hc:(List.range 6).any fun i=>decide (A.up x i=y)
 ·rw[I_,I_]
 rw[Bool.and_true,Bool.and_true];obtain⟨i,_,b⟩:=List.any_eq_true.1 hc;have b:=h_ b
 rcases Ab.Jj c hx i with e0|e0
 ·rw[b]at e0; rw[e0,c.z,d.z]
 rw[b]at e0; rw[e0,h.has _ e0]
theorem Ab.O4(h:A.on x y=true):A.has y=true:=by unfold Ab.on at h; rw[T_]at h; exact h.1
theorem Ab.Le.loc(h:A.Le B a)(ha:a<6)(hy:A.has y=true):Dx (A.R y) a<=Dx (B.R y) a:=by
 have o : ∀ k,k<6->B.R y (18+(6*a+k))=A.R y (18+(6*a+k)):=fun k b=>h.R1 y _ hy (.inr (.inr (.inr ⟨k,b,rfl⟩)));unfold Dx;rw[h.R1 y a hy (.inl rfl),h.R1 y (6+a) hy (.inr (.inl rfl)),h.R1 y (12+a) hy (.inr (.inr (.inl rfl))),o 0 (by omega),o 1 (by omega),o 2 (by omega),o 3 (by omega),o 4 (by omega),o 5 (by omega)];have:=h.R2 y 0 hy (by omega); have:=h.R2 y 1 hy (by omega); have:=h.R2 y 2 hy (by omega); have:=h.R2 y 3 hy (by omega); have:=h.R2 y 4 hy (by omega); have:=h.R2 y 5 hy (by omega);omega
theorem Ab.Le.okE(h:A.Le B (aV v))(l:A.Ok)(m:B.Ok)(t:Nu v)(a:A.SA v):B.SA v:=by
 obtain⟨c,p⟩:=t.reg;have P:=a.pre;have w : ∀ r,B.gh v.o r=A.gh v.o r:=fun r=>by rw[c]; exact h.gho r
 have s : ∀ r,B.ask v.o r=A.ask v.o r:=fun r=>by rw[c]; exact h.ask r
 refine⟨h.inn _ a.inn,h.left.trans a.left,⟨fun k => ?_,fun k=>h.has _ (P.n2 k),fun k=>⟨h.has _ (P.n3 k).1,(w _).trans (P.n3 k).2⟩,fun k=>(w _).trans (P.n4 k),fun k=>h.has _ (P.n5 k)⟩,fun k => ?_,fun k => ?_,fun k => ?_,fun k => ?_,fun k=>⟨h.inn _ (a.k5 k).1,S_ (a.k5 k).2 (h.loc p (P.n5 k))⟩⟩
 ·obtain⟨d,f,j⟩:=P.n1 k;refine⟨?_,f,j.imp (fun q=>q) (h.has _)⟩;have:=h.hid v.seq t.seq;rw[<- c]at this;exact this.trans d
 ·obtain⟨d,f,j⟩:=a.k1 k;refine⟨by rw[h.own]; exact d,f,fun q=>j fun i x => ?_⟩;have n:=q i x
  rcases(P.n1 k).2.2 with e|e
  ·exfalso;have:B.up v.node 0=0:=e;have:=q 0 (by omega);rw[‹B.up v.node 0=0›,m.z]at this; cases this
  rw[h.up l m e i]at n
  rcases Ab.Jj l e i with e0|e0
  ·rw[e0,m.z]at n; cases n
  exact e0
 ·rw[h.R1 _ _ (P.n2 k) (.inl rfl)]; exact a.k2 k
 ·refine⟨(s _).trans (a.k3 k).1,fun y b => ?_⟩;rw[h.on l m (P.n3 k).1]at b;exact S_ ((a.k3 k).2 y b) (h.loc p (Ab.O4 b))
 obtain⟨d,f,j⟩:=a.k4 k;have u:=(h.gh _ _ (P.n4 k)).2;refine⟨(s _).trans d,by rw[c,h.go,<- c]; exact f,fun y b => ?_⟩;rw[u 2 (by decide),h.on l m (l.g _ _ (P.n4 k))]at b;rw[u 3 (by decide),h.R1 _ _ (Ab.O4 b) (.inr (.inl rfl)),h.R1 _ _ (Ab.O4 b) (.inr (.inr (.inl rfl)))];exact j y b
end
end Rt
end
section
namespace Rt
section
variable {A B:Ab} {u v:EvM} {a:Nat} {x y:Int}
theorem Ab.Le.dl(h:A.Le B a)(f:A.Ok)(j:B.Ok)(i:A.Pre u)(y:Int)(p:Nat):B.dl u y p=A.dl u y p:=by
 unfold Ab.dl;by_cases d:u.kind=1
 ·rw[d_ d,d_ d]
 rw[b_ d,b_ d];by_cases e:u.kind=2
 ·rw[d_ e,d_ e]
 rw[b_ e,b_ e];by_cases c:u.kind=3
 ·rw[d_ c,d_ c,h.on f j (i.n3 c).1]
 rw[b_ c,b_ c];by_cases b:u.kind=4
 ·have k:=h.gh _ _ (i.n4 b);rw[d_ b,d_ b,k.2 2 (by decide),k.2 3 (by decide),h.on f j (f.g _ _ (i.n4 b))]
 rw[b_ b,b_ b]
theorem or_mono{p q c:Bool}(h:p=true->q=true)(a:(p || c)=true):(q || c)=true:=by
 cases c
 ·rw[H_]at a ⊢; exact h a
 rw[Bool.or_true]
theorem Ab.Le.both(h:A.Le B a)(f:A.Ok)(i:B.Ok)(n:A.Pre u)(w:B.Pre u):(A.rR u).Le (B.rR u) a:=by
 have m : ∀ y,(A.rR u).has y=true->A.has y=true\/(A.has y=false/\B.has y=false/\u.kind=1/\y=rZ u):=fun y b=>by
  have b:(A.has y || (decide (u.kind=1)&&decide (y=rZ u)))=true:=b
  cases hc:A.has y
  ·right;rw[hc,Bool.false_or,T_]at b;have k:=h_ b.1; have e:=h_ b.2;exact⟨rfl,e ▸ (w.n1 k).1,k,e⟩
  ·exact .inl rfl
 refine⟨fun j d=>or_mono (h.inn j) d,?_,?_,fun y b=>or_mono (h.has y) b,fun s x => ?_,fun y b => ?_,fun y p b v => ?_,fun y k b t => ?_,fun o r l=>⟨or_mono (fun q=>(h.gh o r q).1) l,fun j d => ?_⟩,fun r => ?_,fun r => ?_,fun r => ?_⟩
 ·show(B.left a || _)=(A.left a || _); rw[h.left]
 ·show B.own a+_=A.own a+_; rw[h.own]
 ·show(B.has _ || _)=(A.has _ || _); rw[h.hid s x]
 ·show(if u.kind=1/\y=rZ u then u.node else B.par y)=(if u.kind=1/\y=rZ u then u.node else A.par y)
  rcases m y b with q|⟨_,_,k,e⟩
  ·rw[h.par y q]
  rw[d_ ⟨k,e⟩,d_ ⟨k,e⟩]
 ·show B.R y p+B.dl u y p=A.R y p+A.dl u y p;rw[h.dl f i n]
  rcases m y b with q|⟨q1,q2,_,_⟩
  ·rw[h.R1 y p q v]
  rw[f.r0 y p q1,i.r0 y p q2]
 ·show A.R y _+A.dl u y _<=B.R y _+B.dl u y _;rw[h.dl f i n]
  rcases m y b with q|⟨q1,q2,_,_⟩
  ·have:=h.R2 y k q t; omega
  rw[f.r0 y _ q1,i.r0 y _ q2]; exact N_ _
 ·show(if u.kind=3/\o=u.o/\r=u.req then(if j=2 then u.node else if j=3 then u.aT else 0)else if u.kind=4/\o=u.o/\r=u.of/\j=4 then u.req else B.g o r j)=(if u.kind=3/\o=u.o/\r=u.req then(if j=2 then u.node else if j=3 then u.aT else 0)else if u.kind=4/\o=u.o/\r=u.of/\j=4 then u.req else A.g o r j);by_cases c:u.kind=3/\o=u.o/\r=u.req
  ·rw[d_ c,d_ c]
  rw[b_ c,b_ c,b_ (show ¬ (u.kind=4/\o=u.o/\r=u.of/\j=4)from fun q=>d q.2.2.2),b_ (show ¬ (u.kind=4/\o=u.o/\r=u.of/\j=4)from fun q=>d q.2.2.2)];have l:(A.gh o r || (decide (u.kind=3)&&(decide (o=u.o)&&decide (r=u.req))))=true:=l
  rcases Bool.or_eq_true_iff.1 l with q|q
  ·exact(h.gh o r q).2 j d
  rw[T_,T_]at q; exact M_ ⟨h_ q.1,h_ q.2.1,h_ q.2.2⟩ c
 ·show(B.gh _ r || _)=(A.gh _ r || _); rw[h.gho r]
 ·show(if u.kind=3/\(a:Int)+1=u.o/\r=u.req then(if 4=2 then u.node else if 4=3 then u.aT else 0)else if u.kind=4/\(a:Int)+1=u.o/\r=u.of/\4=4 then u.req else B.g _ r 4)=(if u.kind=3/\(a:Int)+1=u.o/\r=u.req then(if 4=2 then u.node else if 4=3 then u.aT else 0)else if u.kind=4/\(a:Int)+1=u.o/\r=u.of/\4=4 then u.req else A.g _ r 4);rw[h.go r]
 show(B.ask _ r || _)=(A.ask _ r || _); rw[h.ask r]
theorem Ab.afV(d:Nu u)(r:aV u≠a)(ha:a<6){p:Nat}(b:akl a p)(y:Int):A.dl u y p=0:=by
 obtain⟨n,s⟩:=d.reg;have j:p≠aV u:=by rcases b with e|e|e|⟨k,hk,e⟩ <;> omega
 have l:p≠6+aV u:=by rcases b with e|e|e|⟨k,hk,e⟩ <;> omega
 have m:p≠12+aV u:=by rcases b with e|e|e|⟨k,hk,e⟩ <;> omega
 unfold Ab.dl;by_cases f:u.kind=1
 ·rw[d_ f,b_ fun q=>j q.2]
 rw[b_ f];by_cases g:u.kind=2
 ·rw[d_ g,b_ fun q=>j q.2]
 rw[b_ g];by_cases h:u.kind=3
 ·rw[d_ h,b_ fun q=>l q.2]
 rw[b_ h];by_cases i:u.kind=4
 ·rw[d_ i,b_ fun q=>m q.2]
 rw[b_ i];by_cases c:u.kind=5
 ·have o:=d.dst c;rw[d_ c,b_];rintro ⟨_,q⟩;unfold dV at q
  rcases b with e|e|e|⟨k,hk,e⟩ <;> omega
 rw[b_ c]
theorem Ab.akm(a:Nu u){p:Nat}(d:18<=p)(y:Int):0<=A.dl u y p:=by
 obtain⟨b,e⟩:=a.reg;have c:=a.aT;unfold Ab.dl;split
 ·split <;> omega
 split
 ·split <;> omega
 split
 ·split <;> omega
 split
 ·rw[b_ fun q=>by omega]; omega
 split
 ·split <;> omega
 omega
theorem Ab.Le.step(h:A.Le B a)(x:B.Ok)(c:Nu u)(m:B.Pre u)(e:aV u≠a)(ha:a<6):A.Le (B.rR u) a:=by
 obtain⟨w,z⟩:=c.reg;have no : ¬ (a:Int)+1=u.o:=by omega
 refine⟨fun j d => ?_,?_,?_,fun y b=>Ab.Cm (h.has y b),fun s f => ?_,fun y b=>(Ab.QT m (h.has y b)).trans (h.par y b),fun y p b l => ?_,fun y k b v => ?_,fun o r t => ?_,fun r => ?_,fun r => ?_,fun r => ?_⟩
 ·show(B.inn j || _)=true; rw[h.inn j d]; rfl
 ·show(B.left a || (decide (u.kind=7)&&decide (a=aV u)))=A.left a;rw[g_ (show ¬ a=aV u from fun q=>e q.symm),I_,H_]; exact h.left
 ·show B.own a+(if u.kind=1/\a=aV u then 1 else 0)=A.own a;rw[b_ fun q=>e q.2.symm,D_]; exact h.own
 ·show(B.has _ || (decide (u.kind=1)&&decide (jE ((a:Int)+1) s=rZ u)))=_;rw[g_ (show ¬ jE ((a:Int)+1) s=rZ u from fun q=>by
   rw[c.id]at q; unfold jE at q; rw[d_ ⟨by omega,by omega,f.1,f.2⟩]at q; have:=c.seq; omega),I_,H_]
  exact h.hid s f
 ·show B.R y p+B.dl u y p=A.R y p;rw[Ab.afV c e ha l,D_]; exact h.R1 y p b l
 ·show A.R y _<=B.R y _+B.dl u y _;have:=h.R2 y k b v;have:=Ab.akm (A:=B) c (p:=18+(6*k+a)) (by omega) y;omega
 ·obtain⟨i,n⟩:=h.gh o r t;exact⟨Ab.afT i,fun j d=>(Ab.MZ m i j d).trans (n j d)⟩
 ·show(B.gh _ r || (decide (u.kind=3)&&(decide ((a:Int)+1=u.o)&&decide (r=u.req))))=_;rw[g_ no,Bool.false_and,I_,H_]; exact h.gho r
 ·show(if u.kind=3/\(a:Int)+1=u.o/\r=u.req then(if 4=2 then u.node else if 4=3 then u.aT else 0)else if u.kind=4/\(a:Int)+1=u.o/\r=u.of/\4=4 then u.req else B.g _ r 4)=_;rw[b_ fun q=>no q.2.1,b_ fun q=>no q.2.1]; exact h.go r
 show(B.ask _ r || ((decide (u.kind=3) || decide (u.kind=4))&&(decide ((a:Int)+1=u.o)&&decide (r=u.req))))=_;rw[g_ no,Bool.false_and,I_,H_]; exact h.ask r
end
end Rt
end
section
namespace Rt
def wP(K:Nat->Int)(v:EvM):Bool:=decide (v.seq<=K (aN v))
def gu(ev:Nat->EvM)(K:Nat->Int)(A0:Ab):Nat->Ab
 | 0=>A0
 | n+1=>if wP K (ev n)=true then(gu ev K A0 n).rR (ev n)else gu ev K A0 n
structure Evs(A0:Ab)(ev:Nat->EvM)(an:Nat):Prop where
 ok0:A0.Ok
 rd : ∀ k,k<an->dJ (fH ev k) (ev k)=true
 g : ∀ k,k<an->Nu (ev k)
 dc : ∀ k,k<an->KG ev an (ev k).deps
 tk : ∀ k,k<an->(gu ev (ev k).deps A0 k).SA (ev k)
section
variable {A0:Ab} {ev:Nat->EvM} {an n m i j k:Nat} {K K1 K2:Nat->Int}
theorem nJ{v:EvM}:wP K v=true<->v.seq<=K (aN v):=by unfold wP; exact Q_
theorem Evs.seq(h:Evs A0 ev an)(a:k<an):(ev k).seq=fH ev k (aN (ev k))+1:=(Ew (h.rd k a)).2.1
theorem Evs.mono(h:Evs A0 ev an)(a:j<an)(c:k<an)(e:aN (ev j)=aN (ev k))(b:j<k):(ev j).seq<(ev k).seq:=by
 rw[h.seq a,h.seq c];have:=EY (ev:=ev) b;rw[e]at this ⊢; omega
theorem Evs.uniq(h:Evs A0 ev an)(b:j<an)(c:k<an)(a:aN (ev j)=aN (ev k))(d:(ev j).seq=(ev k).seq):j=k:=by
 rcases Nat.lt_trichotomy j k with q|q|q
 ·have:=h.mono b c a q; omega
 ·exact q
 have:=h.mono c b a.symm q; omega
theorem Evs.ahead(h:Evs A0 ev an)(a:j<an)(b:k<an)(e:wP (ev k).deps (ev j)=true):j<k:=by
 have e:=nJ.1 e;have d:=(Ew (h.rd k b)).2.2 (aN (ev j)) (h.g j a).reg.2;rw[h.seq a]at e;by_cases c:j<k
 ·exact c
 have:=cnt_mono (ev:=ev) (i:=aN (ev j)) (show k<=j by omega); omega
theorem nE(e:wP K (ev n)=true):gu ev K A0 (n+1)=(gu ev K A0 n).rR (ev n):=by show(if _ then _ else _)=_; rw[d_ e]
theorem nK(e:wP K (ev n)=false):gu ev K A0 (n+1)=gu ev K A0 n:=by show(if _ then _ else _)=_; rw[b_ (by rw[e]; decide)]
theorem Km(h:Evs A0 ev an)(a:Nat)(ha:a<6)(f : ∀ i,i<6->K1 i<=K2 i) : ∀ m,m<=an->(∀ i,i<=m->(gu ev K1 A0 i).Ok)->(∀ i,i<=m->(gu ev K2 A0 i).Ok)->(∀ i,i<m->wP K1 (ev i)=true->(gu ev K1 A0 i).SA (ev i))->(∀ i,i<m->wP K2 (ev i)=true->(gu ev K2 A0 i).SA (ev i)) ->
 (∀ i,i<m->aN (ev i)=a->wP K2 (ev i)=true->wP K1 (ev i)=true)->(gu ev K1 A0 m).Le (gu ev K2 A0 m) a
 | 0,_,_,_,_,_,_=>Ab.Le.refl _ _
 | m+1,hm,o1,o2,v1,v2,ho=>by
   have d:=Km h a ha f m (by omega) (fun i c=>o1 i (by omega)) (fun i c=>o2 i (by omega)) (fun i c=>v1 i (by omega)) (fun i c=>v2 i (by omega)) (fun i c=>ho i (by omega))
   cases c1:wP K1 (ev m)with
   | true =>
     have b:wP K2 (ev m)=true:=nJ.2 (S_ (nJ.1 c1) (f _ (h.g m (by omega)).reg.2));rw[nE c1,nE b];exact d.both (o1 m (by omega)) (o2 m (by omega)) (v1 m (by omega) c1).pre (v2 m (by omega) b).pre
   | false =>
     rw[nK c1]
     cases b:wP K2 (ev m)with
     | true =>
       rw[nE b];exact d.step (o2 m (by omega)) (h.g m (by omega)) (v2 m (by omega) b).pre (fun e=>by have:=ho m (by omega) e b; rw[c1]at this; cases this) ha
     | false=>rw[nK b]; exact d
theorem wK(h:Evs A0 ev an) : ∀ n,n<=an -> ∀ K,KG ev an K->(∀ i,i<=n->(gu ev K A0 i).Ok) /\ ∀ i,i<n->wP K (ev i)=true->(gu ev K A0 i).SA (ev i)
 | 0,_,K,_=>⟨fun i a=>(show i=0 by omega) ▸ h.ok0,fun i a=>M_ a (z_ _)⟩
 | n+1,hn,K,hc=>by
   obtain⟨o,v⟩:=wK h n (by omega) K hc;have f:wP K (ev n)=true->(gu ev K A0 n).SA (ev n):=fun c=>by
    obtain⟨l,r⟩:=wK h n (by omega) (ev n).deps (h.dc n (by omega));have d:=h.g n (by omega);have p:=Km h (aV (ev n)) d.reg.2 (hc.cl n (by omega) (nJ.1 c)) n (by omega) l o r v (fun i a e t=>by
     have u:=h.mono (j:=i) (k:=n) (by omega) (by omega) e a;have b:=(Ew (h.rd n (by omega))).1;refine nJ.2 ?_;have m:(ev n).deps (aN (ev n))=(ev n).seq-1:=by
      unfold bR at b; simp only[T_,decide_eq_true_eq]at b; exact b.1.1.1.2
     rw[show aN (ev i)=aN (ev n)from e,m]; omega)
    exact p.okE (l n (A_ _)) (o n (A_ _)) d (h.tk n (by omega))
   have s : ∀ i,i<n+1->wP K (ev i)=true->(gu ev K A0 i).SA (ev i):=fun i a e=>by
    by_cases q:i=n
    ·subst q; exact f e
    ·exact v i (by omega) e
   refine⟨fun i a => ?_,s⟩;by_cases q:i=n+1
   ·subst q
    cases c:wP K (ev n)with
    | true=>rw[nE c]; exact Ab.afU (o n (A_ _)) (f c).pre
    | false=>rw[nK c]; exact o n (A_ _)
   ·exact o i (by omega)
end
end Rt
end
section
namespace Rt
section
variable {A0:Ab} {ev:Nat->EvM} {an n m i j k:Nat} {K:Nat->Int}
theorem Dy(h:Evs A0 ev an)(a:j<an) : ∀ m,j<=m->m<=an->gu ev (ev j).deps A0 m=gu ev (ev j).deps A0 j
 | 0,h1,_=>by obtain rfl:j=0:=(by omega); rfl
 | m+1,h1,h2=>by
   by_cases e:j=m+1
   ·rw[e]
   ·have c:wP (ev j).deps (ev m)=false:=by
     cases q:wP (ev j).deps (ev m)with
     | true=>have:=h.ahead (show m<an by omega) a q; omega
     | false=>rfl
    rw[nK c];exact Dy h a m (by omega) (by omega)
theorem XE{v:EvM}(h:bR v=true):v.deps (aN v)=v.seq-1:=by
 unfold bR at h; simp only[T_,decide_eq_true_eq]at h; exact h.1.1.1.2
theorem Jk(h:Evs A0 ev an)(l:KG ev an K)(b:j<an)(hr:dJ K (ev j)=true)(h1:j<=m)(a:m<=an):(gu ev K A0 m).SA (ev j):=by
 obtain⟨f,q⟩:=wK h m a (ev j).deps (h.dc j b);obtain⟨o,v⟩:=wK h m a K l;obtain⟨n,s,p⟩:=Ew hr;have c:=h.g j b;have d:=Km h (aV (ev j)) c.reg.2 p m a f o q v (fun i r e k=>by
  refine nJ.2 ?_;have:=nJ.1 k;rw[show aN (ev i)=aN (ev j)from e]at this ⊢;rw[XE n]; omega)
 rw[Dy h b m h1 a]at d;exact d.okE (by rw[<- Dy h b m h1 a]; exact f m (A_ _)) (o m (A_ _)) c (h.tk j b)
def Kn(K:Nat->Int)(v:EvM):Nat->Int:=aI K (aN v) (K (aN v)+1)
theorem XF(h:Evs A0 ev an)(a:j<an)(hr:dJ K (ev j)=true)(hi:i<an)(b:i≠j):wP (Kn K (ev j)) (ev i)=wP K (ev i):=by
 have d:=(Ew hr).2.1;have:wP (Kn K (ev j)) (ev i)=true<->wP K (ev i)=true:=by
  rw[nJ,nJ];unfold Kn aI;split
  ·rename_i e;rw[e];constructor
   ·intro q;by_cases c:(ev i).seq<=K (aN (ev j))
    ·exact c
    ·exact M_ (h.uniq hi a e (by omega)) b
   ·intro q; omega
  ·exact Iff.rfl
 cases c1:wP (Kn K (ev j)) (ev i) <;> cases c2:wP K (ev i) <;> simp_all
theorem GQ(h:Evs A0 ev an)(a:j<an)(hr:dJ K (ev j)=true) : ∀ m,m<=j->gu ev (Kn K (ev j)) A0 m=gu ev K A0 m
 | 0,_=>rfl
 | m+1,hm=>by
   have e:=XF h a hr (show m<an by omega) (show m≠j by omega)
   cases c:wP K (ev m)with
   | true=>rw[nE (e.trans c),nE c,GQ h a hr m (by omega)]
   | false=>rw[nK (e.trans c),nK c,GQ h a hr m (by omega)]
theorem Jl(h:Evs A0 ev an)(b:KG ev an K)(a:j<an)(hr:dJ K (ev j)=true) : ∀ m,j<m->m<=an->gu ev (Kn K (ev j)) A0 m=(gu ev K A0 m).rR (ev j)
 | 0,h1,_=>M_ h1 (z_ _)
 | m+1,h1,h2=>by
   have r:=(Ew hr).2.1;by_cases e:m=j
   ·subst e;have l:wP (Kn K (ev m)) (ev m)=true:=nJ.2 (by unfold Kn aI; rw[d_ rfl]; omega);have n:wP K (ev m)=false:=by
     cases q:wP K (ev m)with
     | true=>have:=nJ.1 q; omega
     | false=>rfl
    rw[nE l,nK n,GQ h a hr m (A_ _)]
   ·have k:=Jl h b a hr m (by omega) (by omega);have f:=XF h a hr (show m<an by omega) e
    cases c:wP K (ev m)with
    | true =>
      obtain⟨o,v⟩:=wK h (m+1) h2 K b;rw[nE (f.trans c),nE c,k];have i:(ev j).o≠(ev m).o:=fun q=>by
       have d:aN (ev j)=aN (ev m):=(by unfold aN; rw[q]);have s:=h.mono a (show m<an by omega) d (by omega);have p:=nJ.1 c;rw[<- d]at p; omega
      exact Ab.XD (o m (by omega)) (Jk h b a hr (by omega) (by omega)).pre (v m (by omega) c).pre i (fun _ _=>Nu.ne (h.g j a) (h.g m (by omega)) i)
    | false=>rw[nK (f.trans c),nK c,k]
theorem aax(h:Evs A0 ev an)(b:KG ev an K)(a:j<an)(hr:dJ K (ev j)=true):gu ev (Kn K (ev j)) A0 an=(gu ev K A0 an).rR (ev j):=Jl h b a hr an a (A_ _)
end
end Rt
end
section
namespace Rt
def eX(m:dN):Ab where
 inn:=m.inn
 left:=m.left
 own:=m.own
 has:=m.T.has
 par:=m.T.par
 R:=aY m
 gh:=iW m
 g:=fun o r j=>if iW m o r=true/\2<=j/\j<=4 then m.g (fF m o r) j else 0
 ask:=iB m
section
variable {m:dN} {T:dM} {x y:Int} {v:EvM}
theorem Jm{x p:Nat->Int} : ∀ {n:Nat} {k:Int},dW x n k=false->iO x p n k=0
 | 0,k,_=>rfl
 | n+1,k,h=>by
   have h:(dW x n k || decide (x n=k))=false:=h;rw[Bool.or_eq_false_iff]at h;show(if x n=k then p n else iO x p n k)=0;rw[b_ (j_ h.2)];exact Jm h.1
def M4(T:dM)(x:Int):Nat->Int
 | 0=>x
 | i+1=>T.par (M4 T x i)
theorem GR(T:dM)(x:Int) : ∀ i,M4 T x (i+1)=M4 T (T.par x) i
 | 0=>rfl
 | i+1=>by show T.par (M4 T x (i+1))=T.par (M4 T (T.par x) i); rw[GR T x i]
theorem SB(h:T.has x=false):T.path x = []:=by
 have : ¬ T.has x=true:=by rw[h]; decide
 cases e:T.path x with
 | nil=>rfl
 | cons a l=>exact M_ (show jO T.x T.p T.n 4 x = []from lK h) (by rw[show jO T.x T.p T.n 4 x=T.path x from rfl,e]; exact fun q=>by cases q)
theorem Fb(g:T.ok) : ∀ n x,(T.path x).length<=n->(∀ i,i<(T.path x).length->(T.path x).getD i 0=M4 T x i/\T.has (M4 T x i)=true)/\T.has (M4 T x (T.path x).length)=false
 | 0,x,hn=>by
   have e:T.path x = []:=List.length_eq_zero_iff.1 (by omega);rw[e];refine⟨fun i d=>M_ d (z_ _),?_⟩
   cases c:T.has (M4 T x [].length)with
   | false=>rfl
   | true=>rw[dM.step g (show T.has x=true from c)]at e; cases e
 | n+1,x,hn=>by
   cases c:T.has x with
   | false =>
     rw[SB c];exact⟨fun i d=>M_ d (z_ _),c⟩
   | true =>
     have f:=dM.step g c;have k:(T.path x).length=(T.path (T.par x)).length+1:=(by rw[f]; rfl);obtain⟨h,j⟩:=Fb g n (T.par x) (by omega);refine⟨fun i d => ?_,by rw[k,GR]; exact j⟩
     cases i with
     | zero=>rw[f]; exact⟨rfl,c⟩
     | succ i =>
       rw[GR];obtain⟨a,b⟩:=h i (by omega);refine⟨?_,b⟩;rw[f];exact a
theorem GU(m:dN)(x:Int) : ∀ i,(eX m).up x i=M4 m.T x i
 | 0=>rfl
 | i+1=>by show m.T.par ((eX m).up x i)=m.T.par (M4 m.T x i); rw[GU m x i]
theorem M5(a:T.ok){k:Nat}(h:T.has (M4 T x k)=false) : ∀ i,k<=i->T.has (M4 T x i)=false
 | 0,hi=>by obtain rfl:k=0:=(by omega); exact h
 | i+1,hi=>by
   by_cases e:k=i+1
   ·rw[<- e]; exact h
   ·have:=M5 a h i (by omega);have b:T.par (M4 T x i)=0:=Jm this;show T.has (T.par (M4 T x i))=false;rw[b]; exact Cq.YJ a
theorem Dz(j:m.T.ok)(x y:Int):(eX m).on x y=true<->y∈m.T.path x:=by
 obtain⟨h,n⟩:=Fb j _ x (A_ _);have o:=dM.zP (T:=m.T) (k:=x);unfold Ab.on;rw[T_,List.any_eq_true,List.mem_iff_getElem];constructor
 ·rintro ⟨l,i,d,e⟩;have e:=h_ e;rw[GU]at e;have f:i<(m.T.path x).length:=by
   by_cases c:i<(m.T.path x).length
   ·exact c
   ·have:=M5 j n i (by omega);rw[e]at this;rw[show(eX m).has y=m.T.has y from rfl,this]at l; cases l
  refine⟨i,f,?_⟩;have:=(h i f).1;rw[r_,o_ f]at this;exact this.trans e
 rintro ⟨i,d,e⟩;obtain⟨a,b⟩:=h i d;rw[r_,o_ d]at a;have g:M4 m.T x i=y:=a.symm.trans e;refine⟨by rw[<- g]; exact b,i,O_.2 (by omega),f_ (by rw[GU]; exact g)⟩
end
end Rt
end
section
namespace Rt
theorem zT{x:Nat->Int}{n:Int}{b:Bool}{a:Int}{off:Nat}(h:(dh x n b a off).2=0):may x=true/\1<=n/\n<=1125899906842624/\b=true/\a=0/\x off+n<=1125899906842624/\(dh x n b a off).1=upd x off (x off+n):=by
 rcases mK x n b a off with ⟨_,c,_⟩|⟨⟨hm,h1,c,hr,he,hx⟩,heq⟩
 ·exact M_ h c
 exact⟨hm,h1,c,hr,he,hx,by rw[heq]⟩
section
variable {m:dN} {x y:Int} {v:EvM}
theorem GV(b:m.T.ok){k:Int}(d:m.T.has k=true)(r:Nat->Int)(y:Int):aY (Di m k r) y=if y=k then r else aY m y:=by
 unfold aY;show(if m.T.has y=true then aO m.R (m.idx k) r (m.idx y)else Gw)=_;by_cases e:y=k
 ·subst e; rw[d_ d,d_ rfl]; unfold aO; rw[d_ rfl]
 rw[b_ e];by_cases c:m.T.has y=true
 ·rw[d_ c,d_ c];unfold aO;rw[b_]
  ·rfl
  intro q;have a:=(dN.Ee b c).2;rw[q,(dN.Ee b d).2]at a;exact e a.symm
 rw[b_ c,b_ c]
open Classical in
theorem Ko(a:m.T.ok)(f:(Nat->Int)->(Nat->Int) × Int)(x y:Int):aY (rP m f (m.T.path x)) y=if y∈m.T.path x then(f (aY m y)).1 else aY m y:=by
 unfold aY;show(if m.T.has y=true then(if m.T.x (m.idx y)∈m.T.path x then(f (m.R (m.idx y))).1 else m.R (m.idx y))else Gw)=_;by_cases c:m.T.has y=true
 ·rw[d_ c,d_ c,(dN.Ee a c).2]; rfl
 rw[b_ c,b_ c,b_ fun q=>c (dM.oU a rfl y q)]
theorem zU(b:m.T.ok){f:(Nat->Int)->(Nat->Int) × Int}(h:dF m f (m.T.path x)=0)(hy:y∈m.T.path x):(f (aY m y)).2=0:=by
 obtain⟨i,a,e⟩:=List.getElem_of_mem hy;have:=Gu h i a;rw[r_,o_ a]at this;rw[<- e];unfold aY;rw[d_ (dM.oU b rfl _ (R_ a))];exact this
theorem GX(h:bR v=true):v.o=(aV v:Int)+1/\aV v<6/\v.o.toNat-1=aV v:=by
 have:=oP h; unfold aV; omega
theorem Kq{x:Nat->Int}{off:Nat}{n:Int}(p:Nat):upd x off (x off+n) p=x p+if p=off then n else 0:=by
 unfold upd;by_cases e:p=off
 ·subst e; rw[d_ rfl,d_ rfl]
 rw[b_ e,b_ e,D_]
theorem afW(f:m.T.ok)(k:bR v=true)(j:v.kind=1)(a:jw m v=0)(y:Int)(p:Nat):aY (Eb m v) y p=aY m y p+(eX m).dl v y p:=by
 have d:m.T.has (oC v)=false:=by
  unfold jw at a;split at a
  ·cases a
  ·exact(FE a).2.1
 have h:rZ v=oC v:=sK k;unfold Ab.dl;rw[d_ j,h];unfold aY;show(if(m.T.put (oC v) v.node).has y=true then aO m.R m.T.n (upd (fun _=>0) (aN v) v.aT) (Ag (aO m.T.x m.T.n (oC v)) (m.T.n+1) y)else Gw) p=_;rw[dM.jQ];by_cases e:oC v=y
 ·subst e;rw[f_ rfl,Bool.or_true,d_ rfl,d,b_ (by decide),MJ _ _ _ (fun i g e=>by have:=dM.Au g; rw[e,d]at this; cases this)]
  unfold aO;rw[d_ rfl];show upd (fun _=>0) (aN v) v.aT p=0+_;unfold upd;rw[Int.zero_add];by_cases c:p=aN v
  ·rw[d_ c,d_ ⟨rfl,c⟩]
  rw[b_ c,b_ (fun q=>c q.2)]
 rw[g_ e,H_,b_ (show ¬ (y=oC v/\p=aV v)from fun q=>e q.1.symm),D_];by_cases c:m.T.has y=true
 ·rw[d_ c,d_ c,MK _ _ e];have b:=(dN.Ee f c).1;have b:Ag m.T.x m.T.n y<m.T.n:=b;unfold aO;rw[b_ (by omega)];rfl
 rw[b_ c,b_ c]
theorem aay(f:m.T.ok)(g:bR v=true)(d:v.kind=2)(a:jR m v=0)(y:Int)(p:Nat):aY (vG m v) y p=aY m y p+(eX m).dl v y p:=by
 have b:m.T.has v.node=true:=by
  unfold jR at a
  cases c:m.T.has v.node with
  | true=>rfl
  | false=>rw[d_ c]at a; cases a
 unfold Ab.dl;rw[b_ (by rw[d]; decide),d_ d];unfold vG;rw[GV f b];by_cases e:y=v.node
 ·subst e;rw[d_ rfl,Kq];unfold aY;rw[d_ b];show m.R (m.idx v.node) p+(if p=aN v then v.aT else 0)=m.R (m.idx v.node) p+_;by_cases c:p=aN v
  ·rw[d_ c,d_ ⟨rfl,c⟩]
  rw[b_ c,b_ (fun q=>c q.2)]
 rw[b_ e,b_ (fun q=>e q.1),D_]
theorem afX(j:m.T.ok)(z:bR v=true)(f:v.kind=5)(d:kY m v=0)(y:Int)(p:Nat):aY (D8 m v) y p=aY m y p+(eX m).dl v y p:=by
 have g:m.T.has v.node=true/\(uq m v).2=0:=by
  unfold kY at d
  cases c:m.T.has v.node with
  | true =>
    rw[b_ (by rw[c]; decide)]at d;split at d
    ·cases d
    ·exact⟨rfl,d⟩
  | false=>rw[d_ c]at d; cases d
 obtain⟨a,b,s,t,w,x,u,l,n,o,r,k⟩:=zM g.2;have h:aV v=a:=by unfold aV; omega
 have i:dV v=b:=by unfold dV; omega
 unfold Ab.dl;rw[b_ (by rw[f]; decide),b_ (by rw[f]; decide),b_ (by rw[f]; decide),b_ (by rw[f]; decide),d_ f,h,i];unfold D8;rw[GV j g.1];by_cases e:y=v.node
 ·subst e;rw[d_ rfl];unfold uq;rw[k,Kq];unfold aY;rw[d_ g.1];show m.R (m.idx v.node) p+(if p=18+a*6+b then v.aT else 0)=m.R (m.idx v.node) p+_;by_cases c:p=18+a*6+b
  ·rw[d_ c,d_ ⟨rfl,by omega⟩]
  rw[b_ c,b_ (fun q=>c (by omega))]
 rw[b_ e,b_ (fun q=>e q.1),D_]
theorem XG(a:m.T.ok){f:(Nat->Int)->(Nat->Int) × Int}{x:Int}{n:Int}{off:Nat}(b : ∀ y,y∈m.T.path x->(f (aY m y)).1=upd (aY m y) off (aY m y off+n))(y:Int)(p:Nat):aY (rP m f (m.T.path x)) y p=aY m y p+if(eX m).on x y=true/\p=off then n else 0:=by
 rw[Ko a];by_cases c:y∈m.T.path x
 ·rw[d_ c,b y c,Kq];by_cases e:p=off
  ·rw[d_ e,d_ ⟨(Dz a x y).2 c,e⟩]
  rw[b_ e,b_ (fun q=>e q.2)]
 rw[b_ c,b_ (fun q=>c ((Dz a x y).1 q.1)),D_]
theorem afY(d:m.T.ok)(g:bR v=true)(b:v.kind=3)(a:kF m v=0)(y:Int)(p:Nat):aY (kZ m v) y p=aY m y p+(eX m).dl v y p:=by
 have e:dF m (fun x=>bG x v.o v.aT) (m.T.path v.node)=0:=by
  unfold kF at a;split at a
  ·cases a
  split at a
  ·cases a
  exact a
 unfold Ab.dl;rw[b_ (by rw[b]; decide),b_ (by rw[b]; decide),d_ b];refine XG d (f:=fun x=>bG x v.o v.aT) (x:=v.node) (fun y h => ?_) y p;have c:(bG (aY m y) v.o v.aT).2=0:=zU d e h;unfold bG at c;show(bG (aY m y) v.o v.aT).1=_;unfold bG;rw[(zT c).2.2.2.2.2.2,(GX g).2.2]
theorem afZ(i:m.T.ok)(l:bR v=true)(b:v.kind=4)(a:jH m v=0)(y:Int)(p:Nat):aY (iQ m v) y p=aY m y p+(eX m).dl v y p:=by
 have d:iW m v.o v.of=true/\dF m (fun x=>bH x v.o (m.g (fF m v.o v.of) 3)) (m.T.path (m.g (fF m v.o v.of) 2))=0:=by
  unfold jH at a;split at a
  ·cases a
  split at a
  ·cases a
  rename_i c;refine⟨?_,a⟩
  cases e:iW m v.o v.of with
  | true=>rfl
  | false=>exact M_ (.inl e) c
 have j:(eX m).g v.o v.of 2=m.g (fF m v.o v.of) 2:=d_ ⟨d.1,by decide,by decide⟩;have k:(eX m).g v.o v.of 3=m.g (fF m v.o v.of) 3:=d_ ⟨d.1,by decide,by decide⟩;unfold Ab.dl;rw[b_ (by rw[b]; decide),b_ (by rw[b]; decide),b_ (by rw[b]; decide),d_ b,j,k];refine XG i (f:=fun x=>bH x v.o (m.g (fF m v.o v.of) 3)) (x:=m.g (fF m v.o v.of) 2) (fun y n => ?_) y p;have h:(bH (aY m y) v.o (m.g (fF m v.o v.of) 3)).2=0:=zU i d.2 n;unfold bH at h;show(bH (aY m y) v.o (m.g (fF m v.o v.of) 3)).1=_;unfold bH;rw[(zT h).2.2.2.2.2.2,(GX l).2.2]
theorem M6{m':dN}(a:m'.an=m.an+1)(b:m'.ao=aO m.ao m.an v.o)(c:m'.ar=aO m.ar m.an v.req)(o r:Int):iB m' o r=(iB m o r || (decide (o=v.o)&&decide (r=v.req))):=by
 have:iB m' o r=true<->(iB m o r=true\/(v.o=o/\v.req=r)):=by unfold iB; rw[a,b,c]; exact Gy
 rw[P_,this,Bool.or_eq_true,T_,Q_,Q_];exact⟨fun h=>h.imp id fun q=>⟨q.1.symm,q.2.symm⟩,fun h=>h.imp id fun q=>⟨q.1.symm,q.2.symm⟩⟩
theorem XH{k1 k2:Nat->Int}{n:Nat}{a b o r:Int}(h : ¬ (a=o/\b=r)):xU (aO k1 n a) (aO k2 n b) (n+1) o r=xU k1 k2 n o r:=by
 have d : ∀ k,k<=n->xU (aO k1 n a) (aO k2 n b) k o r=xU k1 k2 k o r:=fun k=>by
  induction k with
  | zero=>intro _; rfl
  | succ k ih =>
    intro e;show(if aO k1 n a k=o/\aO k2 n b k=r then k else _)=(if k1 k=o/\k2 k=r then k else _);rw[ih (by omega)];have c : ¬ k=n:=(by omega);rw[show aO k1 n a k=k1 k from b_ c,show aO k2 n b k=k2 k from b_ c]
 show(if aO k1 n a n=o/\aO k2 n b n=r then n else xU (aO k1 n a) (aO k2 n b) n o r)=_;rw[d n (A_ _)];rw[show aO k1 n a n=a from d_ rfl,show aO k2 n b n=b from d_ rfl,b_ h]
theorem XI{k1 k2:Nat->Int}{n:Nat}{a b:Int}:xU (aO k1 n a) (aO k2 n b) (n+1) a b=n:=by
 show(if aO k1 n a n=a/\aO k2 n b n=b then n else _)=_;unfold aO;rw[d_ ⟨d_ rfl,d_ rfl⟩]
theorem zV(g:Nat->Nat->Int)(n:Nat)(r:Nat->Int)(j:Nat):(fun i=>aO g n r i j)=aO (fun i=>g i j) n (r j):=by
 funext i; unfold aO; split <;> rfl
end
end Rt
end
section
namespace Rt
section
variable {m:dN} {x y:Int} {v:EvM}
theorem jI{b c:Bool}(h:c=false):b=(b || c):=by rw[h,H_]
theorem KQ{k:Int}(h:v.kind≠k){c:Bool}:(decide (v.kind=k)&&c)=false:=by rw[g_ h]; rfl
theorem XJ(i:m.T.ok)(e:bR v=true)(a:v.kind=1)(h:jw m v=0):eX (Eb m v)=(eX m).rR v:=by
 have d:rZ v=oC v:=sK e;have b:v.kind≠3:=by rw[a]; decide
 have f:v.kind≠4:=by rw[a]; decide
 have k:v.kind≠6:=by rw[a]; decide
 have l:v.kind≠7:=by rw[a]; decide
 apply Ab.Sz
 ·funext j; exact jI (KQ k)
 ·funext j; exact jI (KQ l)
 ·funext j
  show aI m.own (aN v) (m.own (aN v)+1) j=m.own j+if v.kind=1/\j=aV v then 1 else 0;unfold aI;by_cases c:j=aN v
  ·rw[d_ c,d_ ⟨a,c⟩,c]
  rw[b_ c,b_ (fun q=>c q.2),D_]
 ·funext y
  show(m.T.put (oC v) v.node).has y=(m.T.has y || (decide (v.kind=1)&&decide (y=rZ v)));rw[dM.jQ,d,f_ a,Bool.true_and]
  congr 1
  exact decide_eq_decide.2 ⟨Eq.symm,Eq.symm⟩
 ·funext y
  show(m.T.put (oC v) v.node).par y=if v.kind=1/\y=rZ v then v.node else m.T.par y;rw[dM.uM,d];by_cases c:oC v=y
  ·rw[d_ c,d_ ⟨a,c.symm⟩]
  rw[b_ c,b_ (fun q=>c q.2.symm)]
 ·funext y p; exact afW i e a h y p
 ·funext o r; exact jI (KQ b)
 ·funext o r j
  show(eX m).g o r j=if v.kind=3/\_ then _ else if v.kind=4/\_ then _ else _;rw[b_ (fun q=>b q.1),b_ (fun q=>f q.1)]
 funext o r
 show iB m o r=(iB m o r || ((decide (v.kind=3) || decide (v.kind=4))&&_));rw[g_ b,g_ f];exact jI rfl
theorem M7{m':dN}(e:m'.inn=m.inn)(f:m'.left=m.left)(h:m'.own=m.own)(c:m'.T=m.T)(i : ∀ o r,iW m' o r=iW m o r)(k:(eX m').g=(eX m).g)(l : ∀ o r,iB m' o r=iB m o r)(a:v.kind≠1)(b:v.kind≠3)(d:v.kind≠4)(s:v.kind≠6)(t:v.kind≠7)
 (n : ∀ y p,aY m' y p=aY m y p+(eX m).dl v y p):eX m'=(eX m).rR v:=by
 apply Ab.Sz
 ·funext j; rw[show(eX m').inn j=m.inn j from congrFun e j]; exact jI (KQ s)
 ·funext j; rw[show(eX m').left j=m.left j from congrFun f j]; exact jI (KQ t)
 ·funext j
  rw[show(eX m').own j=m.own j from congrFun h j];show m.own j=m.own j+if v.kind=1/\j=aV v then 1 else 0;rw[b_ (fun q=>a q.1),D_]
 ·funext y; rw[show(eX m').has y=m.T.has y from by rw[<- c]; rfl]; exact jI (KQ a)
 ·funext y
  rw[show(eX m').par y=m.T.par y from by rw[<- c]; rfl];show _=if v.kind=1/\y=rZ v then v.node else m.T.par y;rw[b_ (fun q=>a q.1)]
 ·funext y p; exact n y p
 ·funext o r; rw[show(eX m').gh o r=iW m o r from i o r]; exact jI (KQ b)
 ·funext o r j
  rw[k];show(eX m).g o r j=if v.kind=3/\_ then _ else if v.kind=4/\_ then _ else _;rw[b_ (fun q=>b q.1),b_ (fun q=>d q.1)]
 funext o r
 rw[show(eX m').ask o r=iB m o r from l o r];show iB m o r=(iB m o r || ((decide (v.kind=3) || decide (v.kind=4))&&_));rw[g_ b,g_ d];exact jI rfl
theorem SC(c:m.T.ok)(d:bR v=true)(a:v.kind=2)(b:jR m v=0):eX (vG m v)=(eX m).rR v :=
 M7 rfl rfl rfl rfl (fun _ _=>rfl) rfl (fun _ _=>rfl) (by rw[a]; decide) (by rw[a]; decide) (by rw[a]; decide) (by rw[a]; decide) (by rw[a]; decide) (aay c d a b)
theorem XK(c:m.T.ok)(d:bR v=true)(a:v.kind=5)(b:kY m v=0):eX (D8 m v)=(eX m).rR v :=
 M7 rfl rfl rfl rfl (fun _ _=>rfl) rfl (fun _ _=>rfl) (by rw[a]; decide) (by rw[a]; decide) (by rw[a]; decide) (by rw[a]; decide) (by rw[a]; decide) (afX c d a b)
theorem Kt{k1 k2:Nat->Int}{a b:Int} : ∀ {n:Nat},Ci k1 k2 n a b=true->xU k1 k2 n a b<n
 | 0,h=>by cases h
 | n+1,h=>by
   unfold xU;by_cases c:k1 n=a/\k2 n=b
   ·rw[d_ c]; omega
   ·rw[b_ c];obtain⟨j,g,d,f⟩:=lY.1 h;by_cases e:j=n
    ·subst e; exact M_ ⟨d,f⟩ c
    ·have:=Kt (uy (show j<n by omega) d f); omega
theorem aaz(h1:v.kind≠1)(a:v.kind≠2)(b:v.kind≠3)(c:v.kind≠4)(d:v.kind≠5)(A:Ab)(y:Int)(p:Nat):A.dl v y p=0:=by
 unfold Ab.dl;rw[b_ h1,b_ a,b_ b,b_ c,b_ d]
theorem Jo{A B:Ab}(h1:v.kind≠1)(n:v.kind≠2)(a:v.kind≠3)(b:v.kind≠4)(s:v.kind≠5)(c : ∀ j,B.inn j=(A.inn j || (decide (v.kind=6)&&decide (j=dV v))))(d : ∀ j,B.left j=(A.left j || (decide (v.kind=7)&&decide (j=aV v))))(e:B.own=A.own)(f:B.has=A.has)(h:B.par=A.par)(i:B.R=A.R)(k:B.gh=A.gh)(l:B.g=A.g)(m:B.ask=A.ask):B=A.rR v:=by
 apply Ab.Sz
 ·funext j; exact c j
 ·funext j; exact d j
 ·funext j; rw[e]; show A.own j=A.own j+if v.kind=1/\j=aV v then 1 else 0; rw[b_ (fun q=>h1 q.1),D_]
 ·funext y; rw[f]; exact jI (KQ h1)
 ·funext y; rw[h]; show _=if v.kind=1/\y=rZ v then v.node else A.par y; rw[b_ (fun q=>h1 q.1)]
 ·funext y p; rw[i]; show _=A.R y p+A.dl v y p; rw[aaz h1 n a b s,D_]
 ·funext o r; rw[k]; exact jI (KQ a)
 ·funext o r j
  rw[l];show A.g o r j=if v.kind=3/\_ then _ else if v.kind=4/\_ then _ else _;rw[b_ (fun q=>a q.1),b_ (fun q=>b q.1)]
 funext o r
 rw[m];show A.ask o r=(A.ask o r || ((decide (v.kind=3) || decide (v.kind=4))&&_));rw[g_ a,g_ b];exact jI rfl
theorem M8{f:Nat->Bool}{k j:Nat}{c:Bool}(a:c=true):aI f k true j=(f j || (c&&decide (j=k))):=by
 rw[a,Bool.true_and];unfold aI;by_cases e:j=k
 ·rw[d_ e,f_ e,Bool.or_true]
 rw[b_ e,g_ e,H_]
theorem XL(a:v.kind=6):eX (I8 m v)=(eX m).rR v :=
 Jo (by rw[a]; decide) (by rw[a]; decide) (by rw[a]; decide) (by rw[a]; decide) (by rw[a]; decide) (fun j=>M8 (f_ a)) (fun j=>jI (KQ (by rw[a]; decide))) rfl rfl rfl rfl rfl rfl rfl
theorem SE(a:v.kind=7):eX (Dj m v)=(eX m).rR v :=
 Jo (by rw[a]; decide) (by rw[a]; decide) (by rw[a]; decide) (by rw[a]; decide) (by rw[a]; decide) (fun j=>jI (KQ (by rw[a]; decide))) (fun j=>M8 (k:=aN v) (f_ a)) rfl rfl rfl rfl rfl rfl rfl
theorem XM(z:m.T.ok)(A:Sk m)(u:bR v=true)(b:v.kind=3)(k:kF m v=0):eX (kZ m v)=(eX m).rR v:=by
 have G:rZ v=oC v:=sK u;have n:v.kind≠1:=by rw[b]; decide
 have C:v.kind≠4:=by rw[b]; decide
 have D:v.kind≠6:=by rw[b]; decide
 have E:v.kind≠7:=by rw[b]; decide
 have B:iB m v.o v.req=false:=by
  unfold kF at k
  cases c:iB m v.o v.req with
  | false=>rfl
  | true=>rw[d_ c]at k; cases k
 have F:iW m v.o v.req=false:=qy fun i t e=>by
  have:=A i t;rw[e.1,e.2,B]at this; cases this
 have s : ∀ o r,iW (kZ m v) o r=(iW m o r || (decide (o=v.o)&&decide (r=v.req))):=fun o r=>by
  have d:=zV m.g m.gn (qx v) 0;have f:=zV m.g m.gn (qx v) 1;have:iW (kZ m v) o r=true<->(iW m o r=true\/(v.o=o/\v.req=r)):=by
   show Ci (fun i=>aO m.g m.gn (qx v) i 0) (fun i=>aO m.g m.gn (qx v) i 1) (m.gn+1) o r=true<->_;rw[d,f]; exact Gy
  rw[P_,this,Bool.or_eq_true,T_,Q_,Q_];exact⟨fun h=>h.imp id fun q=>⟨q.1.symm,q.2.symm⟩,fun h=>h.imp id fun q=>⟨q.1.symm,q.2.symm⟩⟩
 have x : ∀ o r,fF (kZ m v) o r=xU (aO (fun i=>m.g i 0) m.gn v.o) (aO (fun i=>m.g i 1) m.gn v.req) (m.gn+1) o r:=fun o r=>by
  have d:=zV m.g m.gn (qx v) 0;have f:=zV m.g m.gn (qx v) 1;show xU (fun i=>aO m.g m.gn (qx v) i 0) (fun i=>aO m.g m.gn (qx v) i 1) (m.gn+1) o r=_;rw[d,f]; rfl
 apply Ab.Sz
 ·funext j; exact jI (KQ D)
 ·funext j; exact jI (KQ E)
 ·funext j
  show m.own j=m.own j+if v.kind=1/\j=aV v then 1 else 0;rw[b_ (fun q=>n q.1),D_]
 ·funext y; exact jI (KQ n)
 ·funext y
  show m.T.par y=if v.kind=1/\y=rZ v then v.node else m.T.par y;rw[b_ (fun q=>n q.1)]
 ·funext y p; exact afY z u b k y p
 ·funext o r
  show iW (kZ m v) o r=(iW m o r || (decide (v.kind=3)&&(decide (o=v.o)&&decide (r=v.req))));rw[s,f_ b,Bool.true_and]
 ·funext o r j
  show(if iW (kZ m v) o r=true/\2<=j/\j<=4 then(kZ m v).g (fF (kZ m v) o r) j else 0)=if v.kind=3/\o=v.o/\r=v.req then(if j=2 then v.node else if j=3 then v.aT else 0)else if v.kind=4/\_ then _ else(if iW m o r=true/\2<=j/\j<=4 then m.g (fF m o r) j else 0);rw[s,x];by_cases c:o=v.o/\r=v.req
  ·rw[d_ (show v.kind=3/\o=v.o/\r=v.req from⟨b,c⟩),c.1,c.2,XI,f_ (rfl:v.o=v.o),f_ (rfl:v.req=v.req),Bool.and_self,Bool.or_true];show(if true=true/\2<=j/\j<=4 then aO m.g m.gn (qx v) m.gn j else 0)=_;rw[show aO m.g m.gn (qx v) m.gn=qx v from d_ rfl];by_cases a:j=2
   ·rw[d_ a,a,d_ ⟨rfl,by decide,by decide⟩]; rfl
   rw[b_ a];by_cases l:j=3
   ·rw[d_ l,l,d_ ⟨rfl,by decide,by decide⟩]; rfl
   rw[b_ l];by_cases w:j=4
   ·rw[w,d_ ⟨rfl,by decide,by decide⟩]; rfl
   rw[b_ (by omega)]
  rw[b_ (show ¬ (v.kind=3/\o=v.o/\r=v.req)from fun q=>c q.2),b_ (show ¬ (v.kind=4/\o=v.o/\r=v.of/\j=4)from fun q=>C q.1),XH (fun q=>c ⟨q.1.symm,q.2.symm⟩)];have:(decide (o=v.o)&&decide (r=v.req))=false:=by
   cases e:(decide (o=v.o)&&decide (r=v.req))with
   | false=>rfl
   | true=>rw[T_,Q_,Q_]at e; exact M_ e c
  rw[this,H_];by_cases a:iW m o r=true/\2<=j/\j<=4
  ·rw[d_ a,d_ a];obtain⟨i,t,d,f⟩:=lY.1 a.1;have:xU (fun i=>m.g i 0) (fun i=>m.g i 1) m.gn o r<m.gn:=Kt a.1;show aO m.g m.gn (qx v) _ j=_;unfold aO;rw[b_ (by omega)];rfl
  rw[b_ a,b_ a]
 funext o r
 show iB (kZ m v) o r=(iB m o r || ((decide (v.kind=3) || decide (v.kind=4))&&(decide (o=v.o)&&decide (r=v.req))));rw[f_ b,Bool.true_or,Bool.true_and];exact M6 rfl rfl rfl o r
theorem GY{k1 k2:Nat->Int}{a b:Int} : ∀ {n:Nat},Ci k1 k2 n a b=true->k1 (xU k1 k2 n a b)=a/\k2 (xU k1 k2 n a b)=b
 | 0,h=>by cases h
 | n+1,h=>by
   unfold xU;by_cases c:k1 n=a/\k2 n=b
   ·rw[d_ c]; exact c
   ·rw[b_ c];obtain⟨j,g,d,f⟩:=lY.1 h;by_cases e:j=n
    ·subst e; exact M_ ⟨d,f⟩ c
    ·exact GY (uy (show j<n by omega) d f)
theorem XO(G:m.T.ok)(J:bR v=true)(a:v.kind=4)(b:jH m v=0):eX (iQ m v)=(eX m).rR v:=by
 have k:v.kind≠1:=by rw[a]; decide
 have x:v.kind≠3:=by rw[a]; decide
 have K:v.kind≠6:=by rw[a]; decide
 have L:v.kind≠7:=by rw[a]; decide
 have f:iW m v.o v.of=true:=by
  unfold jH at b;split at b
  ·cases b
  split at b
  ·cases b
  rename_i c
  cases e:iW m v.o v.of with
  | true=>rfl
  | false=>exact M_ (.inl e) c
 have M:fF m v.o v.of<m.gn:=Kt f;have h : ∀ i j,j≠4->aO m.g (fF m v.o v.of) (upd (m.g (fF m v.o v.of)) 4 v.req) i j=m.g i j:=fun i j H=>by
  unfold aO;by_cases c:i=fF m v.o v.of
  ·rw[d_ c,c]; unfold upd; rw[b_ H]
  ·rw[b_ c]
 have n:(fun i=>(iQ m v).g i 0)=fun i=>m.g i 0:=by funext i; exact h i 0 (by decide)
 have s:(fun i=>(iQ m v).g i 1)=fun i=>m.g i 1:=by funext i; exact h i 1 (by decide)
 have w : ∀ o r,iW (iQ m v) o r=iW m o r:=fun o r=>by
  show Ci (fun i=>(iQ m v).g i 0) (fun i=>(iQ m v).g i 1) m.gn o r=_;rw[n,s]; rfl
 have F : ∀ o r,fF (iQ m v) o r=fF m o r:=fun o r=>by
  show xU (fun i=>(iQ m v).g i 0) (fun i=>(iQ m v).g i 1) m.gn o r=_;rw[n,s]; rfl
 apply Ab.Sz
 ·funext j; exact jI (KQ K)
 ·funext j; exact jI (KQ L)
 ·funext j
  show m.own j=m.own j+if v.kind=1/\j=aV v then 1 else 0;rw[b_ (fun q=>k q.1),D_]
 ·funext y; exact jI (KQ k)
 ·funext y
  show m.T.par y=if v.kind=1/\y=rZ v then v.node else m.T.par y;rw[b_ (fun q=>k q.1)]
 ·funext y p; exact afZ G J a b y p
 ·funext o r
  show iW (iQ m v) o r=(iW m o r || (decide (v.kind=3)&&_));rw[w]; exact jI (KQ x)
 ·funext o r j
  show(if iW (iQ m v) o r=true/\2<=j/\j<=4 then(iQ m v).g (fF (iQ m v) o r) j else 0)=if v.kind=3/\o=v.o/\r=v.req then _ else if v.kind=4/\o=v.o/\r=v.of/\j=4 then v.req else(if iW m o r=true/\2<=j/\j<=4 then m.g (fF m o r) j else 0);rw[w,F,b_ (show ¬ (v.kind=3/\o=v.o/\r=v.req)from fun q=>x q.1)];show(if iW m o r=true/\2<=j/\j<=4 then aO m.g (fF m v.o v.of) (upd (m.g (fF m v.o v.of)) 4 v.req) (fF m o r) j else 0)=_;by_cases c:v.kind=4/\o=v.o/\r=v.of/\j=4
  ·rw[d_ c,c.2.1,c.2.2.1,c.2.2.2,d_ ⟨f,by decide,by decide⟩];unfold aO upd; rw[d_ rfl,d_ rfl]
  rw[b_ c];by_cases d:iW m o r=true/\2<=j/\j<=4
  ·rw[d_ d,d_ d];by_cases l:j=4
   ·have I:fF m o r≠fF m v.o v.of:=fun e=>c ⟨a,by
     obtain⟨z,A⟩:=GY d.1;obtain⟨B,C⟩:=GY f;have t:m.g (fF m o r) 0=o:=z;have D:m.g (fF m v.o v.of) 0=v.o:=B;have u:m.g (fF m o r) 1=r:=A;have E:m.g (fF m v.o v.of) 1=v.of:=C;rw[e]at t u;exact⟨t.symm.trans D,u.symm.trans E,l⟩⟩
    unfold aO; rw[b_ I]
   exact h _ j l
  rw[b_ d,b_ d]
 funext o r
 show iB (iQ m v) o r=(iB m o r || ((decide (v.kind=3) || decide (v.kind=4))&&(decide (o=v.o)&&decide (r=v.req))));rw[f_ a,Bool.or_true,Bool.true_and];exact M6 rfl rfl rfl o r
theorem XP(c:m.T.ok)(j:Sk m)(b:bR v=true)(a:fM m v=0):eX (je m v)=(eX m).rR v:=by
 have k:=jC b;unfold fM at a;unfold je;by_cases d:v.kind=1
 ·rw[d_ d]at a ⊢; exact XJ c b d a
 rw[b_ d]at a ⊢;by_cases e:v.kind=2
 ·rw[d_ e]at a ⊢; exact SC c b e a
 rw[b_ e]at a ⊢;by_cases f:v.kind=3
 ·rw[d_ f]at a ⊢; exact XM c j b f a
 rw[b_ f]at a ⊢;by_cases g:v.kind=4
 ·rw[d_ g]at a ⊢; exact XO c b g a
 rw[b_ g]at a ⊢;by_cases h:v.kind=5
 ·rw[d_ h]at a ⊢; exact XK c b h a
 rw[b_ h]at a ⊢;by_cases i:v.kind=6
 ·rw[d_ i]; exact XL i
 rw[b_ i]; exact SE (by omega)
theorem SF(c:m.T.ok)(d:Sk m)(a:cK m v=0):eX (jY m v)=(eX m).rR v:=by
 have b:=XP c d (qK a) (qL a).2.1;unfold jY;rw[d_ a];exact b
end
end Rt
end
section
namespace Rt
structure Ab.Sm(A:Ab)(N:Nat):Prop where
 r : ∀ y p,A.R y p<=65536*N
 g : ∀ o r,A.gh o r=true->1<=A.g o r 3/\A.g o r 3<=65536
structure Tf(m:dN):Prop where
 n:(m.T.n:Int)=m.own 0+m.own 1+m.own 2+m.own 3+m.own 4+m.own 5
 o : ∀ a,a<6->m.own a<=5
section
variable {A:Ab} {m:dN} {L:dP} {N S:Nat} {x y:Int} {v:EvM}
theorem Ab.Sm.dl(m:A.Sm S)(l:A.Pre v)(k:v.aT<=65536)(y:Int)(p:Nat):A.dl v y p<=65536:=by
 have b:=k;have a : ∀ {c:Prop} [Decidable c] {n:Int},n<=65536->(if c then n else 0)<=65536:=fun {c} _ {n} h=>by split <;> omega
 unfold Ab.dl;by_cases e:v.kind=1
 ·rw[d_ e]; exact a b
 rw[b_ e];by_cases f:v.kind=2
 ·rw[d_ f]; exact a b
 rw[b_ f];by_cases i:v.kind=3
 ·rw[d_ i]; exact a b
 rw[b_ i];by_cases d:v.kind=4
 ·rw[d_ d]; exact a (m.g _ _ (l.n4 d)).2
 rw[b_ d];by_cases j:v.kind=5
 ·rw[d_ j]; exact a b
 rw[b_ j]; decide
theorem Ab.Sm.rR(b:A.Sm S)(f:A.Pre v)(h:bR v=true)(d:v.aT<=65536):(A.rR v).Sm (S+1) where
 r:=fun y p=>by
  have i:=b.r y p;have j:=b.dl f d y p;show A.R y p+A.dl v y p<=_;omega
 g:=fun o r a=>by
  have a:(A.gh o r || (decide (v.kind=3)&&(decide (o=v.o)&&decide (r=v.req))))=true:=a;by_cases c:v.kind=3/\o=v.o/\r=v.req
  ·have:(A.rR v).g o r 3=v.aT:=(by show(if v.kind=3/\o=v.o/\r=v.req then _ else _)=v.aT; rw[d_ c]; rfl);rw[this]; exact⟨(lV h (.inr (.inl c.1))).1,d⟩
  ·have e:A.gh o r=true:=by
    rcases Bool.or_eq_true_iff.1 a with q|q
    ·exact q
    ·rw[T_,T_]at q; exact M_ ⟨h_ q.1,h_ q.2.1,h_ q.2.2⟩ c
   rw[Ab.MZ f e 3 (by decide)];exact b.g o r e
theorem Tf.row{m':dN}(h:Tf m)(a:m'.T=m.T)(b:m'.own=m.own):Tf m':=by
 cases m'; cases m; cases a; cases b; exact⟨h.n,h.o⟩
theorem Tf.does(h:Tf m)(l:bR v=true)(b:fM m v=0):Tf (je m v):=by
 unfold fM at b;unfold je;by_cases c:v.kind=1
 ·rw[d_ c]at b ⊢;have q:m.own (aN v)<5:=by
   unfold jw at b;split at b
   ·cases b
   ·omega
  have r:=ku l;have p:=h.n;refine⟨?_,fun a k => ?_⟩
  ·show((m.T.n+1:Nat):Int)=aI m.own (aN v) (m.own (aN v)+1) 0+aI m.own (aN v) (m.own (aN v)+1) 1+aI m.own (aN v) (m.own (aN v)+1) 2+aI m.own (aN v) (m.own (aN v)+1) 3+aI m.own (aN v) (m.own (aN v)+1) 4+aI m.own (aN v) (m.own (aN v)+1) 5;unfold aI
   rcases(show aN v=0\/aN v=1\/aN v=2\/aN v=3\/aN v=4\/aN v=5 by omega)with e|e|e|e|e|e <;> rw[e] <;> simp <;> omega
  show aI m.own (aN v) (m.own (aN v)+1) a<=5;have:=h.o a k;unfold aI; split <;> omega
 rw[b_ c];by_cases d:v.kind=2
 ·rw[d_ d]; exact h.row rfl rfl
 rw[b_ d];by_cases f:v.kind=3
 ·rw[d_ f]; exact h.row rfl rfl
 rw[b_ f];by_cases g:v.kind=4
 ·rw[d_ g]; exact h.row rfl rfl
 rw[b_ g];by_cases i:v.kind=5
 ·rw[d_ i]; exact h.row rfl rfl
 rw[b_ i];by_cases j:v.kind=6
 ·rw[d_ j]; exact h.row rfl rfl
 rw[b_ j]; exact h.row rfl rfl
theorem Tf.apply(h:Tf m):Tf (jY m v):=by
 unfold jY;by_cases c:cK m v=0
 ·rw[d_ c]; exact(h.does (qK c) (qL c).2.1).row rfl rfl
 rw[b_ c]; exact h
theorem abY(x:Nat->Int)(a:Nat):Rt.L x a=Dx x a:=by
 have e : ∀ i,R x a i=x (18+(6*a+i)):=fun i=>by unfold R; congr 1; omega
 have b:R x 0 a=x (18+(6*0+a)):=by unfold R; congr 1; omega
 have c:R x 1 a=x (18+(6*1+a)):=by unfold R; congr 1; omega
 have d:R x 2 a=x (18+(6*2+a)):=by unfold R; congr 1; omega
 have f:R x 3 a=x (18+(6*3+a)):=by unfold R; congr 1; omega
 have g:R x 4 a=x (18+(6*4+a)):=by unfold R; congr 1; omega
 have h:R x 5 a=x (18+(6*5+a)):=by unfold R; congr 1; omega
 unfold Rt.L Dx;rw[e,e,e,e,e,e,b,c,d,f,g,h];unfold G C F;omega
theorem DC{x:Nat->Int}(h:may x=true)(b:bR v=true):bT x v.o=Dx x (aV v):=by
 obtain⟨e,a,_⟩:=GX b;rw[e,iZ h _ a,abY]
theorem zm{x:Nat->Int}{n:Int}{b:Bool}{a:Int}{off:Nat}(h1:may x=true)(c:1<=n)(d:n<=1125899906842624)(e:b=true)(f:a=0)(g:x off+n<=1125899906842624):(dh x n b a off).2=0:=by
 rcases mK x n b a off with ⟨_,_,h⟩|⟨_,h⟩
 ·exact M_ ⟨h1,c,d,e,f,g⟩ h
 rw[h]
theorem Ei{f:(Nat->Int)->(Nat->Int) × Int}{r:Nat->Nat->Int} : ∀ {n:Nat},(∀ i,i<n->(f (r i)).2=0)->jX f r n=0
 | 0,_=>rfl
 | n+1,h=>Dr (Ei fun i a=>h i (by omega)) (h n (by omega))
theorem GZ(c:m.T.ok){f:(Nat->Int)->(Nat->Int) × Int}{x:Int}(h : ∀ y,y∈m.T.path x->(f (aY m y)).2=0):dF m f (m.T.path x)=0 :=
 Ei fun i a=>by
  have b:(m.T.path x).getD i 0∈m.T.path x:=by
   rw[r_,o_ a]; exact R_ a
  have:=h _ b;unfold aY at this;rw[d_ (dM.oU c rfl _ b)]at this;exact this
theorem Bj(h:bR v=true)(b:v.kind=5):1<=v.dst/\v.dst<=6/\v.dst≠v.o:=by
 unfold bR at h;simp only[T_]at h;have a:=h.2;unfold dG at a;rw[b_ (by omega),b_ (by omega),b_ (by omega),b_ (by omega),d_ b,T_]at a;have:=a.2;unfold lN jh at this;simp at this;omega
theorem aaA(a:bR v=true):gG v.o=true:=by have:=oP a; unfold gG; simp; omega
end
structure Tw(m:dN)(L:dP)(N S:Nat):Prop where
 t:GD m L N
 w:Tf m
 s:(eX m).Sm S
 b:S<=1000000
section
variable {m:dN} {L:dP} {N S:Nat} {x y:Int} {v:EvM}
theorem GD.may(h:GD m L N)(hy:m.T.has y=true):may (aY m y)=true:=by
 obtain⟨i,a,e⟩:=(h.s.T.has y).1 hy;unfold aY;rw[d_ hy,<- e,h.s.row i a];exact h.i.may i a
theorem Tw.cell(h:Tw m L N S)(y:Int)(p:Nat):aY m y p<=65536000000:=by
 have:=h.s.r y p;have a:=h.b;show(eX m).R y p<=_;omega
theorem Tw.make(h:Tw m L N S)(s:bR v=true)(k:v.kind=1)(j:(eX m).SA v):jw m v=0:=by
 obtain⟨a,b,c⟩:=j.pre.n1 k;obtain⟨d,e,f⟩:=j.k1 k;have r:rZ v=oC v:=sK s;rw[r]at a b;unfold jw;have d:m.own (aN v)<5:=d;rw[b_ (show ¬ (5<=m.own (aN v)\/140737488355328<v.aT) by omega)];show sG m.T.x m.T.p m.T.n (oC v) v.node=0;unfold sG;have a:dW m.T.x m.T.n (oC v)=false:=a;rw[b_ b,b_ (by rw[a]; decide)];rw[b_ (show ¬ (¬ v.node=0/\dW m.T.x m.T.n v.node=false)from fun q=>by
  rcases c with c|c
  ·exact q.1 c
  ·have c:dW m.T.x m.T.n v.node=true:=c;rw[q.2]at c; cases c)]
 rw[b_];rintro (q|q)
 ·have y:=h.w.n;have g:=h.w.o;have:=g 0 (by decide); have:=g 1 (by decide); have:=g 2 (by decide); have:=g 3 (by decide); have:=g 4 (by decide); have:=g 5 (by decide);omega
 obtain⟨u,_⟩:=Fb h.t.t _ v.node (A_ _);exact f fun i l=>by
  rw[GU];exact(u i (n_ l q)).2
theorem Tw.make'(h:Tw m L N S)(k:bR v=true)(o:v.kind=1)(a:jw m v=0):(rZ v≠0/\(eX m).has (rZ v)=false/\(v.node=0\/(eX m).has v.node=true))/\(eX m).own (aV v)<5/\v.aT<=140737488355328 /\ ¬ ∀ i,i<4->(eX m).has ((eX m).up v.node i)=true:=by
 have j:rZ v=oC v:=sK k;unfold jw at a;by_cases c:5<=m.own (aN v)\/140737488355328<v.aT
 ·rw[d_ c]at a; cases a
 rw[b_ c]at a;obtain⟨d,e,f,n,g⟩:=FE a;rw[j];refine⟨⟨d,e,f⟩,?_,by omega,fun q => ?_⟩
 ·show m.own (aN v)<5;omega
 obtain⟨_,l⟩:=Fb h.t.t _ v.node (A_ _);have:=q _ (show(m.T.path v.node).length<4 from g);rw[GU]at this;have b:m.T.has (M4 m.T v.node (m.T.path v.node).length)=true:=this;rw[l]at b; cases b
theorem Tw.does(h:Tw m L N S)(c:bR v=true)(I:v.aT<=65536)(j:(eX m).SA v):fM m v=0:=by
 have k:=h.t.t;have P:=j.pre;have D:=aaA c;have G : ∀ y p n,n<=65536->aY m y p+n<=1125899906842624:=fun y p n U=>by have:=h.cell y p; omega
 unfold fM;by_cases E:v.kind=1
 ·rw[d_ E]; exact h.make c E j
 rw[b_ E];by_cases A:v.kind=2
 ·rw[d_ A];have a:m.T.has v.node=true:=P.n2 A;have:=j.k2 A;have e:(eX m).R v.node (aV v)=m.R (m.idx v.node) (aN v):=by
   show aY m v.node (aV v)=_;unfold aY; rw[d_ a]; rfl
  rw[e]at this;unfold jR;rw[b_ (by rw[a]; decide),b_ (by omega)]
 rw[b_ A];by_cases w:v.kind=3
 ·rw[d_ w];have a:m.T.has v.node=true:=(P.n3 w).1;obtain⟨b,i⟩:=j.k3 w;have b:iB m v.o v.req=false:=b;have r:=lV c (.inr (.inl w));unfold kF;rw[b_ (by rw[b]; decide),b_ (by rw[a]; decide)];refine GZ (f:=fun x=>bG x v.o v.aT) k fun y u => ?_;have d:=h.t.may (dM.oU k rfl y u);have:=i y ((Dz k _ y).2 u);have this:v.aT<=Dx (aY m y) (aV v):=this;refine zm d r.1 r.2 D ?_ (G y _ _ I);unfold qC;rw[DC d c,g_ (by omega)]; rfl
 rw[b_ w];by_cases z:v.kind=4
 ·rw[d_ z];have a:iW m v.o v.of=true:=P.n4 z;obtain⟨b,i,J⟩:=j.k4 z;have b:iB m v.o v.req=false:=b;have K:(eX m).g v.o v.of 2=m.g (fF m v.o v.of) 2:=d_ ⟨a,by decide,by decide⟩;have H:(eX m).g v.o v.of 3=m.g (fF m v.o v.of) 3:=d_ ⟨a,by decide,by decide⟩;have M:(eX m).g v.o v.of 4=m.g (fF m v.o v.of) 4:=d_ ⟨a,by decide,by decide⟩;have B:=h.s.g _ _ (P.n4 z);rw[K,H]at J;rw[H]at B;rw[M]at i;unfold jH;rw[b_ (by rw[b]; decide),b_ (show ¬ (iW m v.o v.of=false\/m.g (fF m v.o v.of) 4≠0)from fun q=>q.elim (fun q=>by rw[a]at q; cases q) (fun q=>q i))]
  refine GZ (f:=fun x=>bH x v.o (m.g (fF m v.o v.of) 3)) k fun y u => ?_;have d:=h.t.may (dM.oU k rfl y u);have:=J y ((Dz k _ y).2 u);have this:m.g (fF m v.o v.of) 3<=aY m y (6+aV v)-aY m y (12+aV v):=this;refine zm d B.1 (by omega) D ?_ (G y _ _ B.2);unfold qD C F;rw[(GX c).2.2,g_ (by omega)]; rfl
 rw[b_ z];by_cases l:v.kind=5
 ·rw[d_ l];have a:m.T.has v.node=true:=P.n5 l;obtain⟨b,i⟩:=j.k5 l;have b:m.inn (v.dst-1).toNat=true:=b;have i:v.aT<=Dx (aY m v.node) (aV v):=i;have r:=lV c (.inr (.inr l));have d:=h.t.may a;have O:aY m v.node=m.R (m.idx v.node):=by unfold aY; rw[d_ a]; rfl
  have Q:=Bj c l;unfold kY;rw[b_ (by rw[a]; decide),b_ (by rw[b]; decide)];show(dn (m.R (m.idx v.node)) v.o v.dst v.aT).2=0;rw[<- O];refine zm d r.1 r.2 (by rw[D,show gG v.dst=true by unfold gG; simp; omega]; rfl) ?_ (G _ _ _ I);unfold mR;rw[b_ (fun e=>Q.2.2 e.symm),DC d c,g_ (by omega)]; rfl
 rw[b_ l];split <;> rfl
theorem Tw.okE(h:Tw m L N S)(D:bR v=true)(h1:m.inn (aN v)=true)(p:m.left (aN v)=false)(d:fM m v=0):(eX m).SA v:=by
 have B:=h.t.t;unfold fM at d;have no : ∀ {k:Int} {P:Prop},v.kind≠k->v.kind=k->P:=fun a b=>M_ b a;by_cases r:v.kind=1
 ·rw[d_ r]at d;obtain⟨⟨H,I,J⟩,b⟩:=h.make' D r d;have n : ∀ {k:Int} {P:Prop},k≠1->v.kind=k->P:=fun a b=>M_ (b.symm.trans r) a;exact⟨h1,p,⟨fun _=>⟨I,H,J⟩,n (by decide),n (by decide),n (by decide),n (by decide)⟩,fun _=>b,n (by decide),n (by decide),n (by decide),n (by decide)⟩
 rw[b_ r]at d;by_cases w:v.kind=2
 ·rw[d_ w]at d;have n : ∀ {k:Int} {P:Prop},k≠2->v.kind=k->P:=fun a b=>M_ (b.symm.trans w) a;unfold jR at d
  cases f:m.T.has v.node with
  | false=>rw[d_ f]at d; cases d
  | true =>
    rw[b_ (by rw[f]; decide)]at d;have e:(eX m).R v.node (aV v)=m.R (m.idx v.node) (aN v):=by
     show aY m v.node (aV v)=_;unfold aY; rw[d_ f]; rfl
    refine⟨h1,p,⟨n (by decide),fun _=>f,n (by decide),n (by decide),n (by decide)⟩,n (by decide),fun _ => ?_,n (by decide),n (by decide),n (by decide)⟩;rw[e];by_cases c:140737488355328<m.R (m.idx v.node) (aN v)+v.aT
    ·rw[d_ c]at d; cases d
    ·omega
 rw[b_ w]at d;by_cases x:v.kind=3
 ·rw[d_ x]at d;have n : ∀ {k:Int} {P:Prop},k≠3->v.kind=k->P:=fun a b=>M_ (b.symm.trans x) a;unfold kF at d
  cases c1:iB m v.o v.req with
  | true=>rw[d_ c1]at d; cases d
  | false =>
    rw[b_ (by rw[c1]; decide)]at d
    cases f:m.T.has v.node with
    | false=>rw[d_ f]at d; cases d
    | true =>
      rw[b_ (by rw[f]; decide)]at d;have W:iW m v.o v.req=false:=qy fun i u e=>by
       have:=h.t.s.ga i u;rw[e.1,e.2,c1]at this; cases this
      refine⟨h1,p,⟨n (by decide),n (by decide),fun _=>⟨f,W⟩,n (by decide),n (by decide)⟩,n (by decide),n (by decide),fun _=>⟨c1,fun y l => ?_⟩,n (by decide),n (by decide)⟩;have l:=(Dz B _ y).1 l;have q:(bG (aY m y) v.o v.aT).2=0:=zU B d l;unfold bG at q;have G:=zT q;have j:=G.2.2.2.2.1;unfold qC at j;rw[DC G.1 D]at j;show v.aT<=Dx (aY m y) (aV v);by_cases c:Dx (aY m y) (aV v)<v.aT
      ·rw[f_ c]at j; cases j
      ·omega
 rw[b_ x]at d;by_cases z:v.kind=4
 ·rw[d_ z]at d;have n : ∀ {k:Int} {P:Prop},k≠4->v.kind=k->P:=fun a b=>M_ (b.symm.trans z) a;unfold jH at d
  cases c1:iB m v.o v.req with
  | true=>rw[d_ c1]at d; cases d
  | false =>
    rw[b_ (by rw[c1]; decide)]at d;by_cases A:iW m v.o v.of=false\/m.g (fF m v.o v.of) 4≠0
    ·rw[d_ A]at d; cases d
    ·rw[b_ A]at d;have f:iW m v.o v.of=true:=by
      cases e:iW m v.o v.of with
      | true=>rfl
      | false=>exact M_ (.inl e) A
     have U:m.g (fF m v.o v.of) 4=0:=Classical.byContradiction fun q=>A (.inr q);have K:(eX m).g v.o v.of 2=m.g (fF m v.o v.of) 2:=d_ ⟨f,by decide,by decide⟩;have M:(eX m).g v.o v.of 3=m.g (fF m v.o v.of) 3:=d_ ⟨f,by decide,by decide⟩;have O:(eX m).g v.o v.of 4=m.g (fF m v.o v.of) 4:=d_ ⟨f,by decide,by decide⟩;refine⟨h1,p,⟨n (by decide),n (by decide),n (by decide),fun _=>f,n (by decide)⟩,n (by decide),n (by decide),n (by decide),fun _=>⟨c1,O.trans U,fun y l => ?_⟩,n (by decide)⟩;rw[K]at l;rw[M];have l:=(Dz B _ y).1 l;have q:(bH (aY m y) v.o (m.g (fF m v.o v.of) 3)).2=0:=zU B d l;unfold bH at q;have G:=zT q;have j:=G.2.2.2.2.1;unfold qD C F at j;rw[(GX D).2.2]at j;show m.g (fF m v.o v.of) 3<=aY m y (6+aV v)-aY m y (12+aV v);by_cases c:aY m y (6+aV v)-aY m y (12+aV v)<m.g (fF m v.o v.of) 3
     ·rw[f_ c]at j; cases j
     ·omega
 rw[b_ z]at d;by_cases E:v.kind=5
 ·rw[d_ E]at d;have n : ∀ {k:Int} {P:Prop},k≠5->v.kind=k->P:=fun a b=>M_ (b.symm.trans E) a;unfold kY at d
  cases f:m.T.has v.node with
  | false=>rw[d_ f]at d; cases d
  | true =>
    rw[b_ (by rw[f]; decide)]at d
    cases u:m.inn (v.dst-1).toNat with
    | false=>rw[d_ u]at d; cases d
    | true =>
      rw[b_ (by rw[u]; decide)]at d;have hm:=h.t.may f;have Q:aY m v.node=m.R (m.idx v.node):=(by unfold aY; rw[d_ f]; rfl);obtain⟨a,b,ha,hb,hne,ho,hd,X,Y,V,hM,heq⟩:=zM d;refine⟨h1,p,⟨n (by decide),n (by decide),n (by decide),n (by decide),fun _=>f⟩,n (by decide),n (by decide),n (by decide),n (by decide),fun _=>⟨u,?_⟩⟩;show v.aT<=Dx (aY m v.node) (aV v);rw[Q,<- abY,show aV v=a by unfold aV; omega];exact V
 have Z:=jC D;exact⟨h1,p,⟨no r,no w,no x,no z,no E⟩,no r,no w,no x,no z,no E⟩
theorem QU{K:Nat->Int}(h:dJ K v=true):lQ K v=false:=by
 obtain⟨a,b,c⟩:=Ew h;unfold lQ;rw[g_ (show ¬ v.seq<=K (v.o-1).toNat by have b:v.seq=K (v.o-1).toNat+1:=b; omega),I_]
theorem Tw.check(h:Tw m L N S)(i:v.aT<=65536)(hr:dJ m.known v=true):cK m v=0<->(eX m).SA v:=by
 have f:=(Ew hr).1;constructor
 ·intro g;obtain⟨a,b,c,d⟩:=qL g;exact h.okE f c d b
 intro e;unfold cK;rw[b_ (by rw[f]; decide),b_ (by rw[QU hr]; decide),b_ (by rw[hr]; decide),b_,h.does f i e];rintro (q|q)
 ·have:=e.inn; rw[show(eX m).inn (aV v)=m.inn (aN v)from rfl,q]at this; cases this
 have:=e.left; rw[show(eX m).left (aV v)=m.left (aN v)from rfl,q]at this; cases this
end
end Rt
end
section
namespace Rt
def XQ(k:Nat):Ab:=eX (zk k 0 0 0 0 0 0)
structure Ws(k:Nat)(ev:Nat->EvM)(an:Nat):Prop extends Evs (XQ k) ev an where
 sm : ∀ i,i<an->sM (ev i)
 an:an<=1000
structure sj(k:Nat)(ev:Nat->EvM)(an:Nat)(L:dP):Prop where
 ex : ∃ m N,GD m L N/\Tf m/\eX m=gu ev L.known (XQ k) an
 kc:KG ev an L.known
section
variable {ev ev':Nat->EvM} {an n k i j:Nat} {K:Nat->Int} {L L':dP} {v:EvM} {m:dN} {N S:Nat} {A:Ab}
theorem aga(h:bR v=true):Nu v:=by
 have a:=oP h;refine⟨⟨a.1,a.2.1⟩,a.2.2,?_,fun d=>⟨(Bj h d).1,(Bj h d).2.1⟩⟩;have i:=jC h;by_cases g:v.kind=2\/v.kind=3\/v.kind=5
 ·have:=(lV h g).1; omega
 have c:pQ v=true:=by unfold bR at h; simp only[T_]at h; exact h.1.2
 have b:dG v=true:=by unfold bR at h; simp only[T_]at h; exact h.2
 by_cases f:v.kind=1
 ·unfold dG at b;rw[d_ f]at b;simp at b;omega
 have e:v.aT=(kU v).aT:=by unfold pQ at c; simp only[T_,decide_eq_true_eq]at c; exact c.1.1.2
 rw[e];unfold kU;rw[b_ f,b_ (by omega),b_ (by omega)];split
 ·exact N_ _
 rw[b_ (by omega)];split <;> exact N_ _
theorem agb(k:Nat):(XQ k).Ok:=⟨rfl,fun _ h=>(nomatch h),fun _ _=>rfl,fun _ _ h=>(nomatch h),fun _ _ _=>rfl⟩
theorem agc(k:Nat):(XQ k).Sm 0:=⟨fun _ _=>N_ _,fun _ _ h=>(nomatch h)⟩
theorem ow0(k:Nat):Tf (zk k 0 0 0 0 0 0):=⟨rfl,fun _ _=>by show(0:Int)<=5; decide⟩
theorem Ab.Sm.mono{S':Nat}(h:A.Sm S)(a:S<=S'):A.Sm S':=⟨fun y p=>by have:=h.r y p; omega,h.g⟩
theorem Evs.cz(h:Evs A ev an):Cz 6 an ev (fun _=>fH ev an) where
 rd:=h.rd
 reg:=fun k a=>(h.g k a).reg.2
 own:=fun _ _=>rfl
 kc:=fun _ _=>⟨fun _ _=>N_ _,fun k a _ i b=>S_ ((Ew (h.rd k a)).2.2 i b) (cnt_mono (by omega))⟩
theorem Ws.fsm(W:Ws k ev an)(a:KG ev an K) : ∀ n,n<=an->(gu ev K (XQ k) n).Sm n
 | 0,_=>agc k
 | n+1,hn=>by
   have b:=W.fsm a n (by omega)
   cases c:wP K (ev n)with
   | true =>
     rw[nE c];exact b.rR ((wK W.toEvs (n+1) hn K a).2 n (by omega) c).pre (Ew (W.rd n (by omega))).1 (W.sm n (by omega)).aT
   | false=>rw[nK c]; exact b.mono (by omega)
theorem sj.tw(h:sj k ev an L)(W:Ws k ev an) : ∃ m N,Tw m L N an/\eX m=gu ev L.known (XQ k) an:=by
 obtain⟨m,N,b,c,a⟩:=h.ex;exact⟨m,N,⟨b,c,by rw[a]; exact W.fsm h.kc an (A_ _),by have:=W.an; omega⟩,a⟩
theorem sj.ready(h:sj k ev an L)(W:Ws k ev an)(c:j<an)(hr:dJ L.known (ev j)=true):bD L (ev j)=0:=by
 obtain⟨m,N,a,d⟩:=h.tw W;have b:=Jk W.toEvs h.kc c hr (show j<=an by omega) (A_ _);rw[<- d]at b;rw[<- (a.t.s.apply a.t.t a.t.i (ev j)).1];exact(a.check (W.sm j c).aT (by rw[a.t.s.known]; exact hr)).2 b
theorem sj.apply(h:sj k ev an L)(W:Ws k ev an)(b:j<an):sj k ev an (bV L (ev j)):=by
 rcases oQ L (ev j)with ⟨c,e⟩|⟨c,e⟩
 ·have d:=jD c;obtain⟨m,N,a,f,g⟩:=h.ex;have l:cK m (ev j)=0:=(a.s.apply a.t a.i (ev j)).1.trans c;refine⟨⟨jY m (ev j),N+1,a.apply (ev j),f.apply,?_⟩,by rw[e]; exact W.toEvs.cz.step h.kc b d⟩;rw[SF a.t a.s.ga l,g,e];exact(aax W.toEvs h.kc b d).symm
 rw[e]; exact h
theorem sj.pass(W:Ws k ev an){a:Nat->Int}(h:sj k ev an L) : ∀ j,j<=an->sj k ev an (ou ev a L j)
 | 0,_=>h
 | j+1,hj=>by
   unfold ou;split
   ·exact(h.pass W j (by omega)).apply W (by omega)
   ·exact h.pass W j (by omega)
theorem sj.iG(W:Ws k ev an){a:Nat->Int} : ∀ f L,sj k ev an L->sj k ev an (iG ev an a f L)
 | 0,L,hL=>by unfold Rt.iG; exact hL
 | f+1,L,hL=>by
   unfold Rt.iG;split
   ·exact hL.pass W an (A_ _)
   ·exact sj.iG W f _ (hL.pass W an (A_ _))
theorem sj.new(k:Nat)(ev:Nat->EvM)(an:Nat)(a : ∀ i,i<an->1<=(ev i).seq)(f:Nat):sj k ev an (mJ k f).core:=by
 have d : ∀ n,n<=an->gu ev (fun _=>0) (XQ k) n=XQ k:=fun n=>by
  induction n with
  | zero=>intro _; rfl
  | succ n ih =>
    intro h;have c:wP (fun _=>0) (ev n)=false:=g_ (show ¬ (ev n).seq<=0 by have:=a n (by omega); omega);rw[nK c]; exact ih (by omega)
 exact⟨⟨zk k 0 0 0 0 0 0,0,GD.new k,ow0 k,(d an (A_ _)).symm⟩,fun i b=>Gl an i,fun i b e j g=>M_ (show(ev i).seq<=0 from e) (by have:=a i b; omega)⟩
theorem DF(h : ∀ i,i<n->ev' i=ev i):gu ev' K A n=gu ev K A n:=by
 induction n with
 | zero=>rfl
 | succ n ih =>
   show(if wP K (ev' n)=true then(gu ev' K A n).rR (ev' n)else gu ev' K A n)=_;rw[ih fun i a=>h i (by omega),h n (by omega)]; rfl
theorem xV{v:EvM} : ∀ i,i<an->aI ev an v i=ev i:=fun i a=>b_ (by omega)
theorem vH{v:EvM}:aI ev an v an=v:=d_ rfl
theorem KG.more(h:KG ev an K)(g:bR v=true)(l:v.seq=fH ev an (aN v)+1):KG (aI ev an v) (an+1) K/\wP K v=false:=by
 have c : ¬ v.seq<=K (aN v):=by have:=h.le _ (ku g); omega
 refine⟨⟨fun i b => ?_,fun i b a j f => ?_⟩,g_ c⟩
 ·have:=h.le i b;have d:=cnt_mono (ev:=aI ev an v) (j:=an) (k:=an+1) (i:=i) (by omega);rw[Cb an (A_ _)]at d;omega
 by_cases e:i=an
 ·rw[e,vH]at a; exact M_ a c
 rw[xV i (by omega)]at a ⊢;exact h.cl i (by omega) a j f
theorem sj.more(h:sj k ev an L)(g:bR v=true)(f:v.seq=fH ev an (aN v)+1):sj k (aI ev an v) (an+1) L:=by
 obtain⟨m,N,c,d,e⟩:=h.ex;obtain⟨a,b⟩:=h.kc.more g f;refine⟨⟨m,N,c,d,?_⟩,a⟩;rw[nK (by rw[vH]; exact b),DF xV];exact e
theorem Ws.more(W:Ws k ev an)(h:sj k ev an L)(u:an<1000)(p:sM v)(n:bD L v=0)(d:v.deps=L.known)(f:v.seq=fH ev an (aN v)+1):Ws k (aI ev an v) (an+1):=by
 have o:=jD n;have c:=(Ew o).1;have q : ∀ j,j<=an -> ∀ i,fH (aI ev an v) j i=fH ev j i:=fun j a i=>Cb j a i;have l : ∀ j,j<=an->fH (aI ev an v) j=fH ev j:=fun j a=>funext (q j a);refine { ok0:=W.ok0,rd:=fun j a => ?_,g:=fun j a => ?_,dc:=fun j a => ?_,tk:=fun j a => ?_,sm:=fun j a => ?_,an:=by omega }
 ·by_cases e:j=an
  ·rw[e,vH,l an (A_ _)];exact Gm c f (by rw[d]; exact h.kc.le)
  rw[xV j (by omega),l j (by omega)]; exact W.rd j (by omega)
 ·by_cases e:j=an
  ·rw[e,vH]; exact aga c
  rw[xV j (by omega)]; exact W.g j (by omega)
 ·by_cases e:j=an
  ·rw[e,vH,d]; exact(h.kc.more c f).1
  rw[xV j (by omega)]; exact((W.dc j (by omega)).more c f).1
 ·by_cases e:j=an
  ·rw[e,vH,d,DF xV];obtain⟨m,N,b,r⟩:=h.tw W;rw[<- r];exact(b.check p.aT (by rw[b.t.s.known]; exact o)).1 ((b.t.s.apply b.t.t b.t.i v).1.trans n)
  rw[xV j (by omega),DF fun i w=>xV i (by omega)]; exact W.tk j (by omega)
 by_cases e:j=an
 ·rw[e,vH]; exact p
 rw[xV j (by omega)]; exact W.sm j (by omega)
theorem Ws.zero(k:Nat)(ev:Nat->EvM):Ws k ev 0 where
 ok0:=agb k
 rd:=fun _ h=>M_ h (z_ _)
 g:=fun _ h=>M_ h (z_ _)
 dc:=fun _ h=>M_ h (z_ _)
 tk:=fun _ h=>M_ h (z_ _)
 sm:=fun _ h=>M_ h (z_ _)
 an:=by decide
end
structure WC(M:WM):Prop where
 w:Ws M.n M.ev M.an
 f : ∀ o,o<M.n->sj M.n M.ev M.an (M.ml o).core
theorem WC.new{M:WM}(a:M.an=0)(h : ∀ i,(M.ml i).core=(mJ M.n 0).core):WC M:=by
 refine⟨by rw[a]; exact .zero _ _,fun o c=>by rw[h,a]; exact .new _ _ _ (fun i b=>M_ b (z_ _)) 0⟩
theorem WC.do{w':World}{M k:WM}{B p T o:Nat}{x:ED}{v:EvM}(h:WC M)(y:oZ w' B p k T)(j:o<M.n)(a:DoR o x M k v)(z:M.an<1000)(A:(M.ml o).s.known o=fH M.ev M.an o):WC k:=by
 rcases a.c with ⟨u,g,d,b⟩|⟨u,g,d,b,h5,h6,h7,h8⟩
 ·refine⟨by rw[a.n,g,d]; exact h.w,fun q i => ?_⟩;rw[a.n]at i;rw[a.n,g,d];by_cases e:q=o
  ·rw[e]
   rcases b with b|⟨_,b⟩
   ·rw[b]; exact h.f o j
   rw[b]; exact sj.iG h.w _ _ (h.f o j)
  rw[a.oth q e]; exact h.f q i
 have C:=jD b;have r:=(Ew C).1;have t:aN v=o:=by unfold aN; omega
 have l:v.seq=fH M.ev M.an (aN v)+1:=by rw[t,<- A]; exact h7
 have D:sM v:=by
  have:=y.sm M.an (by omega);rw[d,vH]at this; exact this
 have m:Ws M.n (aI M.ev M.an v) (M.an+1):=h.w.more (h.f o j) z D b h8 l;refine⟨by rw[a.n,g,d]; exact m,fun q i => ?_⟩;rw[a.n]at i;rw[a.n,g,d];by_cases e:q=o
 ·rw[e,h5];have:=((h.f o j).more r l).apply m (show M.an<M.an+1 by omega);rw[vH]at this;exact this
 rw[a.oth q e]; exact(h.f q i).more r l
end Rt
end
section
namespace Rt
structure Ej(L L':dP):Prop where
 inn:L'.inn=L.inn
 left:L'.left=L.left
 kn : ∀ i,i<6->L'.known i=L.known i
 nn:L'.nn=L.nn
 gn:L'.gn=L.gn
 n : ∀ k,k<L.nn->L'.id k=L.id k/\L'.par k=L.par k/\L'.R k=L.R k
 g : ∀ k,k<L.gn -> ∀ p,p<5->L'.g k p=L.g k p
section
variable {ev:Nat->EvM} {an k:Nat} {L L':dP} {m m':dN} {N N':Nat}
theorem fZ.aaB(h:fZ m L){q:Nat}(i:q<L.gn):iW m (L.g q 0) (L.g q 1)=true /\ ∀ p,2<=p->p<=4->(eX m).g (L.g q 0) (L.g q 1) p=L.g q p:=by
 obtain⟨j,d,e⟩:=h.g1 q i;have c:iW m (L.g q 0) (L.g q 1)=true:=uy d (by rw[<- e]) (by rw[<- e]);have f:fF m (L.g q 0) (L.g q 1)=j:=zQ h.gi d (by rw[<- e]) (by rw[<- e]);refine⟨c,fun p a b => ?_⟩;rw[show(eX m).g (L.g q 0) (L.g q 1) p=m.g (fF m (L.g q 0) (L.g q 1)) p from d_ ⟨c,a,b⟩,f,e]
theorem Jp{f:Nat->Int}{n i:Nat}(hi:i<n):((List.range n).map f).getD i 0=f i:=by
 rw[r_,o_ (by rw[List.length_map,List.length_range]; exact hi)]; simp
theorem Jq{f g:Nat->Int}{n n':Nat}(m : ∀ i j,i<j->j<n->f i<f j)(o : ∀ i j,i<j->j<n'->g i<g j)(h1 : ∀ i,i<n -> ∃ j,j<n'/\g j=f i)(l : ∀ j,j<n' -> ∃ i,i<n/\f i=g j):n'=n /\ ∀ i,i<n->g i=f i:=by
 have e:(List.range n).map f=(List.range n').map g:=vY (by
  rw[List.pairwise_map];exact(List.pairwise_lt_range (n:=n)).imp_of_mem fun {a b} _ hb hab=>m a b hab (O_.1 hb)) (by
  rw[List.pairwise_map];exact(List.pairwise_lt_range (n:=n')).imp_of_mem fun {a b} _ hb hab=>o a b hab (O_.1 hb)) fun x=>by
  rw[List.mem_map,List.mem_map];constructor
  ·rintro ⟨i,c,rfl⟩;obtain⟨j,d,k⟩:=h1 i (O_.1 c);exact⟨j,O_.2 d,k⟩
  ·rintro ⟨j,d,rfl⟩;obtain⟨i,c,h⟩:=l j (O_.1 d);exact⟨i,O_.2 c,h⟩
 have p:n'=n:=by have:=L_ List.length e; rw[List.length_map,List.length_map,List.length_range,List.length_range]at this; exact this.symm
 refine⟨p,fun i c => ?_⟩;have:=L_ (fun z:List Int=>z.getD i 0) e;have:((List.range n).map f).getD i 0=((List.range n').map g).getD i 0:=this;rw[Jp c,Jp (by omega)]at this;exact this.symm
theorem GD.same(h:GD m L N)(d:GD m' L' N')(C:yG L)(D:yG L')(e:eX m'=eX m)(I : ∀ i,i<6->L'.known i=L.known i):Ej L L':=by
 have B : ∀ y,m'.T.has y=m.T.has y:=fun y=>congrFun (L_ Ab.has e) y;have J : ∀ y,m'.T.par y=m.T.par y:=fun y=>congrFun (L_ Ab.par e) y;have H : ∀ y,aY m' y=aY m y:=fun y=>congrFun (L_ Ab.R e) y;have u : ∀ o r,iW m' o r=iW m o r:=fun o r=>congrFun (congrFun (L_ Ab.gh e) o) r;have w : ∀ {m:dN} {L:dP} {N:Nat},GD m L N -> ∀ i,i<L.nn->m.T.has (L.id i)=true/\aY m (L.id i)=L.R i:=fun {m L N} h i k=>by
  have a:m.T.has (L.id i)=true:=(h.s.T.has _).2 ⟨i,k,rfl⟩;refine⟨a,?_⟩;unfold aY;rw[d_ a,h.s.row i k]
 obtain⟨Q,z⟩:=Jq (f:=L.id) (g:=L'.id) (n:=L.nn) (n':=L'.nn) h.i.rise d.i.rise (fun i k=>(d.s.T.has _).1 (by rw[B]; exact(w h i k).1)) (fun i k=>(h.s.T.has _).1 (by rw[<- B]; exact(w d i k).1));have F : ∀ {m m':dN} {L L':dP} {N N':Nat},GD m L N->GD m' L' N'->(∀ o r,iW m' o r=iW m o r) -> ∀ q,q<L.gn -> ∃ j,j<L'.gn/\oV (L'.g j)=oV (L.g q):=fun {m m' L L' N N'} h d u q t=>by
  have a:=(h.s.aaB t).1;rw[<- u]at a;obtain⟨j,O,l,x⟩:=lY.1 a;obtain⟨S,v,G⟩:=d.s.g2 j O;have l:m'.g j 0=L.g q 0:=l;have x:m'.g j 1=L.g q 1:=x;exact⟨S,v,by unfold oV; rw[G,l,x]⟩
 obtain⟨K,M⟩:=Jq (f:=fun q=>oV (L.g q)) (g:=fun q=>oV (L'.g q)) (n:=L.gn) (n':=L'.gn) C.up D.up (F h d u) (F d h fun o r=>(u o r).symm);refine⟨by rw[<- h.s.inn,<- d.s.inn]; exact L_ Ab.inn e,by rw[<- h.s.left,<- d.s.left]; exact L_ Ab.left e,I,Q,K,fun i k => ?_,fun q t p W => ?_⟩
 ·have E:i<L'.nn:=by omega
  refine⟨z i k,?_,?_⟩
  ·rw[<- h.s.T.par i k,<- d.s.T.par i E,J,z i k]
  rw[<- (w h i k).2,<- (w d i E).2,H,z i k]
 have v:q<L'.gn:=by omega
 have P:oV (L'.g q)=oV (L.g q):=M q t;have U:=(C.wf q t).1;have V:=(D.wf q v).1;unfold oV at P;unfold iY at U V;have A:L'.g q 0=L.g q 0:=by omega
 have l:L'.g q 1=L.g q 1:=by omega
 by_cases c:2<=p
 ·have a:=(h.s.aaB t).2 p c (by omega);have b:=(d.s.aaB v).2 p c (by omega);rw[<- a,<- b,A,l,L_ Ab.g e]
 rcases(show p=0\/p=1 by omega)with rfl|rfl
 ·exact A
 exact l
theorem Ku{K K':Nat->Int}{A:Ab}(h : ∀ i,i<6->K' i=K i)(a : ∀ i,i<an->aN (ev i)<6) : ∀ n,n<=an->gu ev K' A n=gu ev K A n
 | 0,_=>rfl
 | n+1,hn=>by
   have c:wP K' (ev n)=wP K (ev n):=(by unfold wP; rw[h _ (a n (by omega))]);show(if wP K' (ev n)=true then(gu ev K' A n).rR (ev n)else gu ev K' A n)=_;rw[Ku h a n (by omega),c]; rfl
theorem sj.same(h:sj k ev an L)(f:sj k ev an L')(W:Ws k ev an)(j:yG L)(l:yG L')(a : ∀ i,i<6->L'.known i=L.known i):Ej L L':=by
 obtain⟨m,N,b,o,c⟩:=h.ex;obtain⟨m',N',d,p,e⟩:=f.ex;refine b.same d j l ?_ a;rw[c,e];exact Ku a (fun i n=>(W.g i n).reg.2) an (A_ _)
theorem aaC(W:Ws k ev an) : ∀ i,i<an->1<=(ev i).seq:=fun i a=>(W.g i a).seq.1
end
end Rt
end
section
namespace Rt
def wL(K c:Nat->Int):Nat->Int:=fun q=>if K q<=c q then K q else c q
section
variable {ev:Nat->EvM} {an k i r:Nat} {K K':Nat->Int} {L:dP} {v:EvM}
theorem Cn(ev:Nat->EvM)(i q:Nat):fH ev (i+1) q=fH ev i q+if aN (ev i)=q then 1 else 0:=rfl
theorem sj.nextK(h:sj k ev an L)(W:Ws k ev an)(hi:i<an)(m:KG ev an K)(f : ∀ q,q<6->L.known q=wL K (fH ev i) q)(n:(ev i).seq<=K (aN (ev i))) :
 bD L (ev i)=0 /\ ∀ q,q<6->(bV L (ev i)).known q=wL K (fH ev (i+1)) q:=by
 obtain⟨a,b,c⟩:=Ew (W.rd i hi);have l:=ku a;have g:L.known (aN (ev i))=fH ev i (aN (ev i)):=by rw[f _ l]; unfold wL; rw[b_ (by omega)]
 have o:dJ L.known (ev i)=true:=Gm a (by rw[g]; exact b) fun q d=>by
  rw[f q d]; unfold wL;split
  ·exact m.cl i hi n q d
  ·exact c q d
 have j:=h.ready W hi o;refine⟨j,fun q d => ?_⟩;rw[zS j];unfold aI;by_cases e:q=aN (ev i)
 ·rw[d_ e,g,e];unfold wL;rw[Cn,d_ rfl,SG (by omega)]
 rw[b_ e,f q d];unfold wL;rw[Cn,b_ (show ¬ aN (ev i)=q from fun z=>e z.symm),D_]
where SG {a b:Int} (h:b<=a):(if a<=b then a else b)=b:=by split <;> omega
theorem akn(W:Ws k ev an)(hi:i<an)(c : ∀ q,q<6->L.known q=wL K (fH ev i) q)(a : ¬ (ev i).seq<=K (aN (ev i))) : ∀ q,q<6->L.known q=wL K (fH ev (i+1)) q:=fun q d=>by
 have b:=(Ew (W.rd i hi)).2.1;rw[c q d];unfold wL;rw[Cn];by_cases e:aN (ev i)=q
 ·rw[d_ e]; rw[e]at b a;rw[d_ (by omega),d_ (by omega)]
 ·rw[b_ e,D_]
theorem ako(c:KG ev an K)(a : ∀ q,q<6->0<=K q) : ∀ q,q<6->(0:Int)=wL K (fH ev 0) q:=fun q b=>by
 unfold wL; show(0:Int)=if K q<=0 then K q else 0;have:=a q b;split <;> omega
theorem akp(a:KG ev an K) : ∀ q,q<6->wL K (fH ev an) q=K q:=fun q b=>by unfold wL; rw[d_ (a.le q b)]
theorem agd(W:Ws k ev an)(hi:i<an)(e : ∀ q,q<6->L.known q=K q)(d:(ev i).seq<=K (aN (ev i))):bD L (ev i)=14/\bV L (ev i)=L:=by
 have a:=(Ew (W.rd i hi)).1;have c:lQ L.known (ev i)=true:=by
  have f:(ev i).seq<=L.known (aN (ev i)):=by rw[e _ (ku a)]; exact d
  unfold lQ; rw[a,f_ (show(ev i).seq<=L.known ((ev i).o-1).toNat from f)]; rfl
 have b:bD L (ev i)=14:=by unfold bD; rw[b_ (by rw[a]; decide),d_ c]
 exact⟨b,by unfold bV; rw[b_ (by rw[b]; decide)]⟩
end
end Rt
end
section
namespace Rt
section
variable {x:EvM} {k an i:Nat} {ev:Nat->EvM} {L:dP} {s:Int} {d:Nat->Int}
theorem QV(ev:Nat->EvM) : ∀(i j:Nat),fH ev i j<=i
 | 0,_=>N_ _
 | i+1,j=>by have:=QV ev i j; show fH ev i j+(if aN (ev i)=j then 1 else 0)<=_; split <;> omega
end
end Rt
end
namespace Rt
theorem Ej.st{L L':dP}(h:Ej L L')(na:Option Addr)(nc:Nat)(ga:Option Addr)(gc:Nat) : ∀ p,p<20->kI (qM L' na nc ga gc) p=kI (qM L na nc ga gc) p:=fun p a=>by
 unfold kI qM;simp only[h.inn,h.left,h.nn,h.gn];by_cases c:12<=p/\p<18
 ·rw[h.kn (p-12) (by omega)]
 ·repeat' split
  all_goals first|rfl|omega
end Rt
theorem KI.same{w:World}{s:uR}{L L':dP}(h:KI w s L')(d:Ej L L'):KI w (qM L s.na s.nc s.ga s.gc) L:=by
 refine⟨rfl,?_,?_⟩
 ·have e:=h.n;rw[d.nn]at e;exact e.congr fun j k=>by
   unfold flat OW;obtain⟨a,b,c⟩:=d.n (j / 56) (by omega);rw[a,b,c]
 have e:=h.g;rw[d.gn]at e;exact e.congr fun j k=>by
  unfold flat Ns jc;have g:=d.g (j / 5) (by omega) (j % 5) (J_ _ (by decide));have f:=d.g (j / 5) (by omega) 0 (by decide);have i:=d.g (j / 5) (by omega) 3 (by decide);rw[g,f,i]
theorem aaD{w:World}{d a:uR}{L L':dP}(h1:KI w d L)(b:KI w a L')(c:Ej L L')(g:LWf L):Calls Tryz.prog 17 #[.agg (aA 20 (kI d)),.agg (aA 20 (kI a))] w fun e w'=>e = .returned (.bool true)/\Below w.heap.size w w' :=
 zR (aal h1 (b.same c) g) (by rw[Fx.dZ (show ∀ p,p<20->kI a p=kI (qM L a.na a.nc a.ga a.gc) p from fun p f=>by rw[b.e]; exact c.st _ _ _ _ p f)])
namespace Rt
structure gV where
 kind:Int
 node:Int
 dst:Int
 aT:Int
 req:Int
 of:Int
def qN(x:gV):Nat->Value:=fun p=>if p=0 then .int .u8 x.kind else if p=1 then aD x.node else if p=2 then au x.dst else if p=3 then au x.aT else if p=4 then aD x.req else aD x.of
def mY:gV:=⟨0,0,0,0,0,0⟩
def O5(l:List gV):Nat->Value:=flat 6 fun k=>qN (l.getD k mY)
theorem XT{l:List gV}{n:Nat}{y z:Nat->Value}{x:gV}(b:n=l.length)(hy : ∀ j,j<6->y j=qN x j) : ∀ j,j<(n+1)*6->ig (O5 l) (n*6) (bB z (0*6) 6 y) j=O5 (l ++ [x]) j:=fun j a =>
 (Fx.vS j a).trans (bI (fun i d q c=>by
  subst b;unfold Fx.rz;by_cases h:i=l.length
  ·subst h; rw[d_ rfl,hy q c,r_,List.getElem?_append_right (by omega),Nat.sub_self]; rfl
  ·rw[b_ h]; show qN (l.getD i mY) q=_; rw[r_,r_,List.getElem?_append_left (by omega)]) j a)
structure Av(x:gV):Prop where
 kind:0<=x.kind/\x.kind<=255
 node:iY x.node
 dst:oM x.dst
 aT:oM x.aT
 req:iY x.req
 of:iY x.of
theorem XU{x:gV}(h:Av x):Fx.Kd [(some .u8),(some .u64),(some .i64),(some .i64),(some .u64),(some .u64)] (qN x):=by
 have a : ∀(k:IntKind) (n:Int),(Lit.int k n).wf=true -> ∃ l,oG (some k) (.int k n)=some l:=fun k n d=>by
  obtain⟨l,c⟩:=Fx.Ie (k:=k) (n:=1) (x:=fun _=>n) (fun _ _=>d) 0 (by simp);exact⟨l,c⟩
 intro i b;have e:i<6:=b
 rcases i with _|_|_|_|_|_|i
 ·exact a .u8 x.kind (Fx.ahg h.kind)
 ·exact a .u64 x.node (Fx.qA h.node)
 ·exact a .i64 x.dst (Fx.NC h.dst)
 ·exact a .i64 x.aT (Fx.NC h.aT)
 ·exact a .u64 x.req (Fx.qA h.req)
 ·exact a .u64 x.of (Fx.qA h.of)
 omega
end Rt
namespace Rt
def pI(K:Nat->Int)(i:Int)(x:gV):EvM:=⟨i,K (i-1).toNat+1,K,x.kind,x.node,x.dst,x.aT,x.req,x.of⟩
end Rt
theorem aaE(K:Nat->Int)(i:Int)(hr:jh i=false)(w:World) :
 Calls Tryz.prog 41 #[.agg (aA 6 (rv .u64 K)),au i] w fun e w'=>e = .returned (.tuple #[aD 0,au 10])/\Below w.heap.size w w':=by
 refine Kent Tryz.func41 21 ?_;refine ay<|oz fun f j b c d k => ?_;have a:=bf d.old (Below.refl w.heap.size w);have g:=gD b;have h:=c.lt;refine av (aD 0)<|av (au 0)<|aC<|Ws<|Wb<|ay<|av (au i)<|lH (Ke i _) aF (by rw[hr])<|av aG<|av aG<|aC<|aM<|ay<|av (aD 0)<|av (au 10)<|aC<|Wr<|bL<|sR<|aJ (.tuple #[aD 0,au 10]) ?_;exact⟨rfl,a⟩
theorem aaF(K:Nat->Int)(i:Int)(a:Nat)(ha:a<6)(h:i=(a:Int)+1)(g:BL K)(w:World) :
 Calls Tryz.prog 41 #[.agg (aA 6 (rv .u64 K)),au i] w fun e w'=>e = .returned (.tuple #[aD (K a+1),au 0])/\Below w.heap.size w w':=by
 have j:jh i=true:=by rw[h]; unfold jh; simp; omega
 have l:=g a ha;refine Kent Tryz.func41 21 ?_;refine ay<|oz fun c o f b k p => ?_;have d:=bf k.old (Below.refl w.heap.size w);have m:=gD f;have n:=b.lt;refine av (aD 0)<|av (au 0)<|aC<|Ws<|Wb<|ay<|av (au i)<|lH (Ke i _) aG (by rw[j])<|av aF<|av aF<|aC<|aK<|ay<|av (au i)<|Lv (au a) gQ<|Lv (pf c a) (jJ 6 1)<|Lv (aD (K a)) (aL b.aH a)<|Lv aF Ik<|av aF<|aC<|aK<|Wk<|bP<|sN<|ay<|av (au i)<|Lv (au a) gQ<|Lv (pf c a) (jJ 6 1)<|Lv (aD (K a)) (aL b.aH a)<|Lv (aD ((K a)+1)) fA<|av (aD ((K a)+1))<|av (au 0)<|aC<|Wr<|aJ (.tuple #[aD ((K a)+1),au 0]) ?_;exact⟨rfl,d⟩
theorem akq(v:EvM)(i c:Int)(K:Nat->Int)(a:Nat)(w:World)(b:aP w a 14 (bM v) 37)(d:Nat)(g:Nat)(f:Nat)(hi:aP w d 1 (fun _=>au i) 3)(k:aP w g 1 (fun _=>aD c) 23)(h:aP w f 6 (rv .u64 (K)) 35) :
 Calls Tryz.prog 43 #[(pt a),(pt d),(pt g),(pt f)] w fun e w'=>e = .returned (.tuple #[])/\aP w' a 14 (bM ⟨i,c,K,v.kind,v.node,v.dst,v.aT,v.req,v.of⟩) 37/\Stp a w w':=by
 have L:=b.lt;have M:=hi.lt;have O:=k.lt;have N:=h.lt;have P:d≠a:=fun e=>M_ (Fx.Ty.only (e ▸ hi.ty) b.ty) (by decide);have Q:g≠a:=fun e=>M_ (Fx.Ty.only (e ▸ k.ty) b.ty) (by decide);have R:f≠a:=fun e=>M_ (Fx.Ty.only (e ▸ h.ty) b.ty) (by decide);refine Kent Tryz.func43 17 ?_;refine zX [0,1,2,3,6,7,4,5,8,9,10,11,12,13,14] [0,0,0,4,1,1,0,0,2,0,0,2,0,0,2] (Fx.zF [37]) Fx.zF.refl Fx.zF.trans (fJ := [(8,3,[3]),(11,3,[3]),(14,3,[3]),(9,8,[8]),(10,8,[8]),(11,8,[8]),(12,8,[8]),(13,8,[8]),(14,8,[8]),(12,11,[11]),(13,11,[11]),(14,11,[11])]) (by kernel_rfl) (by kernel_rfl) (by kernel_rfl) (by kernel_rfl) (by kernel_rfl) fun H m J => ?_;have F:Stp w.heap.size w H:=Sb m;have⟨n,C,D,E⟩:=jN m b hi k h;have t:=(nG a w).then F (.inr (nG a w).size);refine aX (pt a)<|aX (pt a)<|aX (pt a)<|Rs (au i) (aL C.aH 0) ?_;refine aX (pt a)<|aX (pt a)<|Rd (v:=aD c) (by rfl) (by rfl) (Fx.zF.refl _) (fun G l=>bA (x:=fun _=>aD c) rfl rfl (by kernel_rfl) (D.Em l (by decide)).aH (i:=0) (by omega) (by omega) rfl) ?_;refine Rd (v := .agg (aA 6 (rv .u64 (K)))) (by rfl) (by rfl) (Fx.zF.refl _) (fun G l=>dQ (x:=rv .u64 (K)) (y:=rv .u64 (K)) rfl rfl (by kernel_rfl) (by kernel_rfl) (E.Em l (by decide)).aH (i:=0) (by omega) (by omega) (fun j _=>by rw[G_])) ?_;refine zD<|ji n 0 (au i) fun S o q V => ?_;have u:=t.then q (by omega);refine Ln ⟨Fx.zF.JH ((gH q n.ty).wide (by decide)),?_⟩;refine aX (pt a)<|aX (pf a 1)<|zD<|ji o 1 (aD c) fun T p r W => ?_;have z:=u.then r (by omega);refine Ln ⟨Fx.zF.JH ((gH r o.ty).wide (by decide)),?_⟩;refine aX (pt a)<|aX (pf a 2)<|zD<|dU p 2 fun U B s X => ?_;have A:=z.then s (by omega);refine Ln ⟨Fx.zF.JH ((gH s p.ty).wide (by decide)),?_⟩;refine Rn (⟨.tuple #[],iJ Tryz.results43,?_⟩);exact⟨rfl,B.congr (fun j I=>by rcases j with _|_|_|_|_|_|_|_|_|_|_|_|_|_|j <;> first|rfl|omega),A⟩
theorem agf(x:gV)(i d:Int)(K:Nat->Int)(w:World)(g:Nat)(k:Nat)(h:Nat)(hi:aP w g 1 (fun _=>au i) 3)(m:aP w k 1 (fun _=>aD d) 23)(l:aP w h 6 (rv .u64 (K)) 35) :
 Calls Tryz.prog 42 #[.agg (aA 6 (qN x)),.func (.func 43) #[] #[(pt g),(pt k),(pt h)]] w fun e w'=>e = .returned (.agg (aA 14 (bM ⟨i,d,K,x.kind,x.node,x.dst,x.aT,x.req,x.of⟩)))/\Below w.heap.size w w':=by
 have lgi:=hi.lt;have lgs:=m.lt;have lgk:=l.lt;refine Kent Tryz.func42 22 ?_;refine ay<|oz fun c w1 y n s1 z1 => ?_;have⟨C,E,F,r⟩:=jN s1.old hi m l (Below.refl w.heap.size w);have rF:=gD y;have⟨ny,P7,yB⟩:=AJ y hi.lt m.lt l.lt;have sQ:=n.lt;refine qR 14 zQ0 fun O w2 z p s2 z2 => ?_;have⟨G,H,I,b,s⟩:=nN s2.old C E F n r;have pO:=iw z r.size;have⟨abH,LQ,VW,Mr⟩:=K5 z C.lt E.lt F.lt n.lt;have yu:=p.lt;refine aC<|ay<|av (pt c)<|Lv (.int .u8 (x.kind)) (aL b.aH 0)<|av (pf c 1)<|Lv (aD x.node) (aL b.aH 1)<|av (pf c 2)<|Lv (au x.dst) (aL b.aH 2)<|av (pf c 3)<|Lv (au x.aT) (aL b.aH 3)<|av (pf c 4)<|Lv (aD x.req) (aL b.aH 4)<|av (pf c 5)<|Lv (aD x.of) (aL b.aH 5)<|av (.agg (aA 14 (bB (bB (bB (bB (bB (bB zQ0 8 1 (fun _ => .int .u8 (x.kind))) 9 1 (fun _=>aD x.node)) 10 1 (fun _=>au x.dst)) 11 1 (fun _=>au x.aT)) 12 1 (fun _=>aD x.req)) 13 1 (fun _=>aD x.of))))<|qR 14 zQ0 fun f w3 A o s3 z3 => ?_;have⟨R,S,T,U,t⟩:=nN s3.old G H I p s;have Bp:=iw A s.size;have⟨Xe,Xf,Xg,OM,afx⟩:=AL A G.lt H.lt I.lt b.lt p.lt;have Hg:=o.lt;refine dU o 0 (h1:=(bJ (bJ (bJ (bJ (bJ (bJ (fun Q _=>by show(zQ0 Q).oneCell'=true; simp only[zQ0]; repeat (first|rfl|split)) (fun _ _=>rfl)) (fun _ _=>rfl)) (fun _ _=>rfl)) (fun _ _=>rfl)) (fun _ _=>rfl)) (fun _ _=>rfl))) fun M V q z4 => ?_
 have W:aP M f 14 (bB (bB (bB (bB (bB (bB zQ0 8 1 (fun _ => .int .u8 (x.kind))) 9 1 (fun _=>aD x.node)) 10 1 (fun _=>au x.dst)) 11 1 (fun _=>au x.aT)) 12 1 (fun _=>aD x.req)) 13 1 (fun _=>aD x.of)) 37:=aQ V;have X:aP M f 14 (bM ⟨0,0,fun _=>0,x.kind,x.node,x.dst,x.aT,x.req,x.of⟩) 37:=W.congr (fun j hj=>by rcases j with _|_|_|_|_|_|_|_|_|_|_|_|_|_|j <;> first|rfl|omega)
 have P:=gH q o.ty;have⟨Y,Z,aa⟩:=zZ P R S T;have ab:=U.cZ q (by omega);have u:=q.below t t.size (by omega);refine aC<|ay<|av (.func (.func 43) #[] #[(pt g),(pt k),(pt h)])<|zx (by rfl) (Fx.Ai (args := [(pt f)]) rfl rfl rfl (all := #[(pt f),(pt g),(pt k),(pt h)]) rfl Tryz.func43 rfl rfl) rfl<|(akq ⟨0,0,fun _=>0,x.kind,x.node,x.dst,x.aT,x.req,x.of⟩ i d K f _ X g k h Y Z aa).mono ?_;rintro e9 w5 ⟨B,D,J⟩;refine⟨_,B,?_⟩;clear B;have ac:=ab.cZ J (by omega);have v:=J.below u u.size (by omega);refine aC<|ay<|Lv (.agg (aA 14 (bM ⟨i,d,K,x.kind,x.node,x.dst,x.aT,x.req,x.of⟩))) (eT D.aH 0)<|dU ac 0 (h1:=(gK _)) fun w6 ad L z5 => ?_;have ae:aP w6 O 14 (bM ⟨i,d,K,x.kind,x.node,x.dst,x.aT,x.req,x.of⟩) 37:=aQ ad;have nS:=D.cZ L (by omega);have N:=L.below v v.size (by omega);refine aC (Wr (⟨.agg (aA 14 (bM ⟨i,d,K,x.kind,x.node,x.dst,x.aT,x.req,x.of⟩)),rV Tryz.results42 ⟨_,rfl,aS ae.aH (by kernel_rfl) (by kernel_rfl)⟩,?_⟩));exact⟨rfl,N⟩
namespace Rt
theorem G6{z y:Nat->Value}{a b:Int}(d : ∀ j,j<14->z j=y j)(c:a=b):Ending.returned (.tuple #[.agg (aA 14 z),au a])=Ending.returned (.tuple #[.agg (aA 14 y),au b]):=by rw[Fx.dZ d,c]
noncomputable def kM(L:dP)(i:Int)(x:gV):Int:=if jh i=false then 10 else bD L (pI L.known i x)
open Classical in
noncomputable def jf(L:dP)(i:Int)(x:gV):EvM:=if kM L i x=0 then pI L.known i x else zeroE
theorem G7{L:dP}{i:Int}{x:gV}(h:jh i=false):kM L i x=10/\jf L i x=zeroE:=by
 have:kM L i x=10:=by unfold kM; rw[d_ h]
 refine⟨this,?_⟩;unfold jf;rw[b_ (by rw[this]; decide)]
theorem tF{L:dP}{i:Int}{x:gV}(h:jh i=true):kM L i x=bD L (pI L.known i x):=by unfold kM; rw[b_ (by rw[h]; decide)]
theorem O6{K:Nat->Int}{i:Int}{x:gV}(b:BL K)(hx:Av x)(hi:jh i=true):gL (pI K i x):=by
 obtain⟨a,c,f⟩:=fq hi;have g:=b a c;have e:(i-1).toNat=a:=by omega
 refine⟨⟨?_,?_⟩,⟨?_,?_⟩,fun j d => ?_,hx.kind,hx.node,hx.dst,hx.aT,hx.req,hx.of⟩
 ·show -9223372036854775808<=i; omega
 ·show i<=9223372036854775807; omega
 ·show 0<=K (i-1).toNat+1; rw[e]; omega
 ·show K (i-1).toNat+1<=18446744073709551615; rw[e]; omega
 have:=b j d; exact⟨by show 0<=K j; omega,by show K j<=_; omega⟩
end Rt
theorem aaG(lp B N:Nat)(m:dN)(L:dP)(w:World)(h:vP w B lp m L N)(hB:1<=B)(S:iU w 0 0 8 Cj)(i:Int)(x:gV)(hr:jh i=false) :
 Calls Tryz.prog 13 #[(pt lp),au i,.agg (aA 6 (qN x))] w fun e w'=>e = .returned (.tuple #[.agg (aA 14 (bM (jf L i x))),au (kM L i x)])/\Below w.heap.size w w':=by
 have l0:=S.lt (by omega);have lq:=h.q.lt;refine Kent Tryz.func13 39 ?_;refine ay<|vU (au i) fun g1 w1 O b s1 z1 => ?_;have⟨m2,g⟩:=eU s1.old h (Below.refl w.heap.size w);have rF:=gD O;have sQ:=b.lt;refine oz fun g2 w2 s d s2 z2 => ?_;have⟨m4,F,k⟩:=iy s2.old m2 b g;have pO:=iw s g.size;have IK:=cu s b.lt;have yu:=d.lt;refine qR 14 zQ0 fun P w3 t G s3 z3 => ?_;have⟨m7,m8,m9,K⟩:=jN s3.old m4 F d k;have Bp:=iw t k.size;have⟨Wi,Wj⟩:=sF t F.lt d.lt;have Hg:=G.lt;refine av (au 0)<|aC<|Ws<|ay<|av (pt lp)<|Lv aF (Fx.oH rfl rfl rfl (by kernel_rfl))<|aC<|aK<|Wk<|sN<|ay<|av (pt lp)<|dH (QM m7) _ rfl ?_;intro w4 T;have⟨y,z,A,l⟩:=jN T m8 m9 G K;refine qR 6 (rv .u64 (fun _=>0)) fun Q w5 u c s5 z4 => ?_;have⟨Y,Z,aa,n⟩:=jN s5.old y z A l;have Og:=iw u l.size;have⟨OO,XV,XW⟩:=AJ u y.lt z.lt A.lt;have Oh:=c.lt;refine dU c 0 fun w6 ab H z5 => ?_;have C:aP w6 Q 6 (rv .u64 ((L).known)) 35:=aQ ab;have V:=gH H c.ty;have⟨D,m23,m24⟩:=zZ V Y Z aa;have M:=H.below n n.size (by omega);refine aC<|ay<|Lv (.agg (aA 6 (rv .u64 ((L).known)))) (eT C.aH 0)<|Lv (au i) (aL D.aH 0)<|dH (aaE L.known i hr _) _ rfl ?_;intro w7 U;have⟨nQ,nH,E,oh,o⟩:=nN U D m23 m24 C M;refine av (.tuple #[aD 0,au 10])<|av (aD 0)<|av (au 10)<|qR 1 (rv .u64 (fun _=>0)) fun R w8 v f s8 z6 => ?_;have⟨nR,p⟩:=eU s8.old E o;have lg5:=iw v o.size;have⟨XY,XZ,X0,X3⟩:=K5 v nQ.lt nH.lt E.lt oh.lt;have tg5:=f.lt;refine ji f 0 (aD 0) fun w9 nS I z7 => ?_;have qW:aP w9 R 1 (fun _=>aD 0) 23:=dD nS;have W:=gH I f.ty;have mh:=jo W nR;have r:=I.below p p.size (by omega);refine av (au 10)<|aC<|Ws<|ay<|av (au 10)<|Lv aG (eH rfl)<|aC<|aM<|ay<|av (.agg (aA 14 zQ0))<|av (au 10)<|dU mh 0 (h1:=(fun X _=>by show(zQ0 X).oneCell'=true; simp only[zQ0]; repeat (first|rfl|split))) fun pJ mH s10 z8 => ?_
 have qg:aP pJ P 14 zQ0 37:=aQ mH;have J:=s10.below r r.size (by omega);refine av (au 10) (aC (Wr (sR (⟨.tuple #[.agg (aA 14 zQ0),au 10],fP Tryz.results13 ⟨_,rfl,aS qg.aH (by kernel_rfl) (by kernel_rfl)⟩ (by exact rfl),?_⟩))));exact⟨by rw[(G7 hr).1,(G7 hr).2]; exact G6 (fun j hj=>by rcases j with _|_|_|_|_|_|_|_|_|_|_|_|_|_|j <;> first|rfl|omega) rfl,J⟩
theorem aaH(lp B N:Nat)(m:dN)(L:dP)(w:World)(h:vP w B lp m L N)(hB:1<=B)(Q:iU w 0 0 8 Cj)(i:Int)(x:gV)(hx:Av x)(a:Nat)(ha:a<6)(S:i=(a:Int)+1) :
 Calls Tryz.prog 13 #[(pt lp),au i,.agg (aA 6 (qN x))] w fun e w'=>e = .returned (.tuple #[.agg (aA 14 (bM (jf L i x))),au (kM L i x)])/\Below w.heap.size w w':=by
 have l0:=Q.lt (by omega);have lq:=h.q.lt;have d:jh i=true:=by rw[S]; unfold jh; simp; omega
 have eia:(i-1).toNat=a:=by omega
 have hka:=h.i.kn a ha;refine Kent Tryz.func13 39 ?_;refine ay<|vU (au i) fun l w1 kQ n s1 z1 => ?_;have⟨m2,y⟩:=eU s1.old h (Below.refl w.heap.size w);have rF:=gD kQ;have sQ:=n.lt;refine oz fun g2 w2 I p s2 z2 => ?_;have⟨m4,m5,D⟩:=iy s2.old m2 n y;have pO:=iw I y.size;have IK:=cu I n.lt;have yu:=p.lt;refine qR 14 zQ0 fun P w3 J m6 s3 z3 => ?_;have⟨m7,m8,m9,b3⟩:=jN s3.old m4 m5 p D;have Bp:=iw J D.size;have⟨Wi,Wj⟩:=sF J m5.lt p.lt;have Hg:=m6.lt;refine av (au 0)<|aC<|Ws<|ay<|av (pt lp)<|Lv aF (Fx.oH rfl rfl rfl (by kernel_rfl))<|aC<|aK<|Wk<|sN<|ay<|av (pt lp)<|dH (QM m7) _ rfl ?_;intro w4 hb1;have⟨m10,T,U,V,E⟩:=nN hb1 m7 m8 m9 m6 b3;refine qR 6 (rv .u64 (fun _=>0)) fun g w5 K o s5 z4 => ?_;have⟨m15,m16,m17,m18,F⟩:=nN s5.old m10 T U V E;have Og:=iw K E.size;have⟨OO,XV,XW⟩:=AJ K T.lt U.lt V.lt;have Oh:=o.lt;refine dU o 0 fun w6 m19 s6 z5 => ?_;have W:aP w6 g 6 (rv .u64 ((L).known)) 35:=aQ m19;have fV:=gH s6 o.ty;have⟨m21,X,m23,m24⟩:=K4 fV m15 m16 m17 m18;have b6:=s6.below F F.size (by omega);refine aC<|ay<|Lv (.agg (aA 6 (rv .u64 ((L).known)))) (eT W.aH 0)<|Lv (au i) (aL X.aH 0)<|dH (aaF L.known i a ha S h.i.kn _) _ rfl ?_;intro w7 hb2;have⟨mZ,Y,Z,aa,ab,G⟩:=oJ hb2 m21 X m23 m24 W b6;refine av (.tuple #[aD (L.known a+1),au 0])<|av (aD (L.known a+1))<|av (au 0)<|qR 1 (rv .u64 (fun _=>0)) fun k w8 M r s8 z6 => ?_;have⟨lI,m32,pE,nR,pF,H⟩:=oJ s8.old mZ Y Z aa ab G;have lg5:=iw M G.size;have⟨XY,XZ,X0,X3⟩:=K5 M Y.lt Z.lt aa.lt ab.lt;have tg5:=r.lt;refine ji r 0 (aD (L.known a+1)) fun w9 nS s9 z7 => ?_;have ac:aP w9 k 1 (fun _=>aD (L.known a+1)) 23:=dD nS;have jr:=gH s9 r.ty;have⟨qB,ad,ae,mh,af⟩:=rD jr lI m32 pE nR pF;have b9:=s9.below H H.size (by omega);refine av (au 0)<|aC<|Ws<|ay<|av (au 0)<|Lv aF (iM rfl rfl rfl (by decide))<|aC<|aK<|Wk<|sN<|ay<|Lv (.agg (aA 6 (qN x))) (eT ae.aH 0)<|Lv (.func (.func 43) #[] #[(pt l),(pt k),(pt g)]) (Fx.lJ (us := []) (vs := [(pt l),(pt k),(pt g)]) rfl rfl rfl)<|lD (agf x i (L.known a+1) L.known _ l k g ad ac af) ?_;rintro e9 pJ ⟨R,hb3⟩;refine⟨.agg (aA 14 (bM (pI L.known i x))),by rw[R]; unfold pI; rw[eia],?_⟩;clear R;have⟨mH,qg,qh,ag,rW,wh,z⟩:=jT hb3 qB ad ae mh af ac b9;refine qR 14 zQ0 fun g6 DV O s s11 z8 => ?_;have⟨qX,uE,A⟩:=iy s11.old mH ag z;have lg6:=iw O z.size;have⟨agh,agi,agj,agk,agl⟩:=AL O qg.lt qh.lt ag.lt rW.lt wh.lt;have tg6:=s.lt;refine dU s 0 (h1:=(gK _)) fun Ct tQ u z9 => ?_;have tT:aP Ct g6 14 (bM (pI L.known i x)) 37:=aQ tQ;have qc:=gH u s.ty;have uF:=jo qc qX;have vK:=uE.cZ u (by omega);have C:=u.below A A.size (by omega);refine aC<|Ws<|ay<|av (pt lp)<|Lv (.agg (aA 14 (bM (pI L.known i x)))) (eT tT.aH 0)<|dH (aan (v:=(pI L.known i x)) uF (O6 h.i.kn hx d) hB (Q.below C l0) (fun _ _=>rfl)) _ rfl ?_;intro EM hb4;have⟨vL,t,f⟩:=iy hb4 vK tT C;refine av (au (bD L (pI L.known i x)))<|aC<|ay<|av (au (bD L (pI L.known i x))) ?_;by_cases c:(bD L (pI L.known i x))=0
 ·refine Lv aF (jG c)<|aC<|aK<|Wk<|sN<|ay<|Lv (.agg (aA 14 (bM (pI L.known i x)))) (eT t.aH 0)<|dU vL 0 (h1:=(gK _)) fun KD uP Cr z10 => ?_;have vN:aP KD P 14 (bM (pI L.known i x)) 37:=aQ uP;have yK:=t.cZ Cr (by omega);have b14:=Cr.below f f.size (by omega);refine av (au 0) (aC (Wr (⟨.tuple #[.agg (aA 14 (bM (pI L.known i x))),au 0],fP Tryz.results13 ⟨_,rfl,aS vN.aH (by kernel_rfl) (by kernel_rfl)⟩ (by exact rfl),?_⟩)));exact⟨by rw[tF d,show jf L i x=pI L.known i x by unfold jf; rw[d_ (by rw[tF d]; exact c),]]; exact G6 (fun _ _=>rfl) c.symm,b14⟩
 refine Lv aG (mG c)<|aC<|aM<|ay<|av (.agg (aA 14 zQ0))<|av (au (bD L (pI L.known i x)))<|dU vL 0 (h1:=(fun jq _=>by show(zQ0 jq).oneCell'=true; simp only[zQ0]; repeat (first|rfl|split))) fun Lp yt s15 z11 => ?_
 have xB:aP Lp P 14 zQ0 37:=aQ yt;have Bq:=t.cZ s15 (by omega);have b15:=s15.below f f.size (by omega);refine av (au (bD L (pI L.known i x))) (aC (Wr (sR (⟨.tuple #[.agg (aA 14 zQ0),au (bD L (pI L.known i x))],fP Tryz.results13 ⟨_,rfl,aS xB.aH (by kernel_rfl) (by kernel_rfl)⟩ (by exact rfl),?_⟩))));exact⟨by rw[tF d,show jf L i x=zeroE by unfold jf; rw[b_ (by rw[tF d]; exact c)]]; exact G6 (fun j hj=>by rcases j with _|_|_|_|_|_|_|_|_|_|_|_|_|_|j <;> first|rfl|omega) rfl,b15⟩
theorem agm{lp B N:Nat}{m:dN}{L:dP}{w:World}(h:vP w B lp m L N)(b:1<=B)(c:iU w 0 0 8 Cj)(i:Int){x:gV}(hx:Av x){y:Nat->Value}(hy : ∀ j,j<6->y j=qN x j) :
 Calls Tryz.prog 13 #[(pt lp),au i,.agg (aA 6 y)] w fun e w'=>e = .returned (.tuple #[.agg (aA 14 (bM (jf L i x))),au (kM L i x)])/\Below w.heap.size w w':=by
 rw[Fx.dZ hy]
 cases hr:jh i with
 | false=>exact aaG lp B N m L w h b c i x hr
 | true =>
   obtain⟨a,f,d⟩:=fq hr;exact aaH lp B N m L w h b c i x hx a f d
section
namespace Rt
section
variable {A:Ab} {ev gv:Nat->EvM} {an n k i j:Nat} {K:Nat->Int} {L:dP} {v:EvM} {y x:Int} {m:dN} {N:Nat}
theorem GD.row(h:GD m L N)(hi:i<L.nn):aY m (L.id i)=L.R i:=by
 unfold aY;rw[d_ ((h.s.T.has _).2 ⟨i,hi,rfl⟩),h.s.row i hi]
theorem X4(a:Inv0 L N)(hi:i<L.nn) : ∀ r:Nat,r<6->jy L (L.id i) ((r:Int)+1)=Rt.L (L.R i) r:=fun r b=>by
 unfold jy;rw[a.at hi,b_ (by omega)];show bT (L.R i) _=_;exact iZ (a.may i hi) r b
end
end Rt
end
end Go.Proofs.YtcbedgfikejkoaaGreatDoor
namespace Go.Proofs.YtcbedgfikejkoaaGreatDoor
open Go.RowKit Go
namespace Rt
def DI(i r:Int)(x:Nat->Int):Bool:=decide (x 0=i)&&(decide (x 1=r) || decide (x 4=r))
def EG(L:dP)(i r:Int):Int:=fK (fun q=>DI i r (L.g q)) L.gn
def Aw(x:gV)(g:Nat->Int):Bool:=decide (x.kind=3)&&(decide (g 1=x.req)&&(decide (g 2=x.node)&&decide (g 3=x.aT)))
def zn(x:gV)(g:Nat->Int):Bool:=decide (x.kind=4)&&(decide (g 4=x.req)&&decide (g 1=x.of))
def tfB(x:gV):Bool := !decide (x.req=0)&&(decide (x.kind=3) || decide (x.kind=4))
def iH(L:dP)(i:Int)(x:gV):Bool:=tfB x&&decide (0<=EG L i x.req)
def nX(L:dP)(i:Int)(x:gV):Int:=if iH L i x=true then(if(Aw x (L.g (EG L i x.req).toNat) || zn x (L.g (EG L i x.req).toNat))=true then 0 else 14)else 0
structure UqL(L:dP)(i:Int):Prop where
 a : ∀ q,q<L.gn -> ∀ r,r≠0->DI i r (L.g q)=true -> ∃ j,j<L.rn (i-1).toNat/\L.rq (i-1).toNat j=r
 u : ∀ r,r≠0 -> ∀ q p,q<L.gn->p<L.gn->DI i r (L.g q)=true->DI i r (L.g p)=true->q=p
section
variable {L:dP} {N:Nat} {v:EvM} {i:Int} {y z:gV}
attribute [local irreducible] fB dz
end
end Rt
end Go.Proofs.YtcbedgfikejkoaaGreatDoor
namespace Go.Proofs.YtcbedgfikejkoaaGreatDoor
open Go.RowKit Rt
open Fx (dA dQ Lv sN Ln Ws Qv Wl Wr Sb Wk Rd Wb Wx Wo Qn uG aA aP ev cO Stp flat iU down iN mP bP bX bY gP gW)
section
namespace Rt
def KO(L:dP):Prop := ∀ q,6<=q->L.known q=0
def G5(L:dP):Prop := ∀ q,q<L.gn -> ∀ p,5<=p->L.g q p=0
structure GK(L:dP):Prop where
 g:yG L
 k:KO L
 r:G5 L
structure WG(M:WM):Prop where
 g : ∀ o,o<M.n->GK (M.ml o).core
section
variable {ev:Nat->EvM} {K:Nat->Int} {an k i c N N':Nat} {L L':dP} {v:EvM} {m:dN}
attribute [local irreducible] fB dz in
theorem KO.apply(h:KO L):KO (bV L v):=by
 rcases oQ L v with ⟨c,e⟩|⟨_,e⟩
 ·intro q a;have:=ku (Ew (jD c)).1;rw[e]; unfold aI; rw[b_ (by omega)]; exact h q a
 rw[e]; exact h
attribute [local irreducible] fB dz in
theorem G5.apply(h:G5 L):G5 (bV L v):=by
 unfold bV;split
 ·show ∀ q,q<(iE L v).gn -> ∀ p,5<=p->(iE L v).g q p=0;unfold iE;split; · exact h
  split; · exact h
  split
  ·intro q a p b;have a:q<L.gn+1:=a;show cO L.g (down (fun i=>DY v (L.g i)) L.gn) (qx v) q p=0;have c:down (fun i=>DY v (L.g i)) L.gn<=L.gn:=Fx.wY _ _;generalize down (fun i=>DY v (L.g i)) L.gn=k at c ⊢
   rcases dY c a with rfl|⟨j,hj,ej,_,_⟩
   ·rw[dI]; unfold qx; rw[b_ (by omega),b_ (by omega),b_ (by omega),b_ (by omega)]
   rw[ej]; exact h j hj p b
  split
  ·intro q a p b;have a:q<L.gn:=a;show aI L.g (yZ L v) (aI (L.g (yZ L v)) 4 v.req) q p=0;generalize yZ L v=k;unfold aI;by_cases e:q=k
   ·rw[d_ e];show(if p=4 then v.req else L.g k p)=0;rw[b_ (by omega),<- e]; exact h q a p b
   rw[b_ e]; exact h q a p b
  split; · exact h
  split <;> exact h
 exact h
theorem KO.eq(h:KO L)(a:KO L')(e : ∀ q,q<6->L'.known q=L.known q):L'.known=L.known:=by
 funext q
 by_cases c:q<6
 ·exact e q c
 rw[h q (by omega),a q (by omega)]
theorem GK.apply(h:GK L)(a:gL v):GK (bV L v):=⟨Gz h.g a,h.k.apply,h.r.apply⟩
theorem X5(k a:Nat):GK (mJ k a).core:=⟨MP k a,fun _ _=>rfl,fun q h=>M_ h (z_ _)⟩
theorem Fe(a : ∀ j,j<an->gL (ev j))(h:GK L) : ∀ j,j<=an->GK (ou ev K L j)
 | 0,_=>h
 | j+1,hj=>by
   unfold ou;split
   ·exact(Fe a h j (by omega)).apply (a j (by omega))
   ·exact Fe a h j (by omega)
theorem M9(a : ∀ j,j<an->gL (ev j)) : ∀ f L,GK L->GK (iG ev an K f L)
 | 0,L,h=>by unfold Rt.iG; exact h
 | f+1,L,h=>by
   unfold Rt.iG;split
   ·exact Fe a h an (A_ _)
   ·exact M9 a f _ (Fe a h an (A_ _))
theorem WG.new{M:WM}(h : ∀ i,(M.ml i).core=(mJ M.n 0).core):WG M:=⟨fun o _=>by rw[h]; exact X5 _ _⟩
theorem WG.do{w':World}{M d:WM}{B p T o:Nat}{x:ED}(h:WG M)(l:oZ w' B p d T)(i:o<M.n)(b:DoR o x M d v):WG d:=⟨fun q k=>by
 rw[b.n]at k
 rcases b.c with ⟨m,r,f,a⟩|⟨m,r,f,a,h5,h6,h7,h8⟩
 ·by_cases e:q=o
  ·rw[e]
   rcases a with a|⟨_,a⟩
   ·rw[a]; exact h.g o i
   ·rw[a]; exact M9 (fun j s=>by have:=l.wf j (by omega); rw[f]at this; exact this) _ _ (h.g o i)
  ·rw[b.oth q e]; exact h.g q k
 ·by_cases e:q=o
  ·rw[e,h5];exact(h.g o i).apply (by have:=l.wf M.an (by omega); rw[f,vH]at this; exact this)
  ·rw[b.oth q e]; exact h.g q k⟩
theorem QW{f g:Nat->Int}{o:Int} : ∀ {n:Nat},(∀ i,i<n->f i=g i)->nC f o n=nC g o n
 | 0,_=>rfl
 | n+1,h=>by unfold nC; rw[QW (n:=n) fun i a=>h i (by omega),h n (by omega)]
theorem sj.asks(h:sj k ev an L)(o:sj k ev an L')(W:Ws k ev an)(n : ∀ i,i<6->L'.known i=L.known i) : ∀(a:Nat) (r:Int),a<6->((∃ j,j<L'.rn a/\L'.rq a j=r) <-> ∃ j,j<L.rn a/\L.rq a j=r):=by
 obtain⟨m,N,c,q,d⟩:=h.ex;obtain⟨m',N',f,t,l⟩:=o.ex;have e:eX m'=eX m:=by
  rw[d,l];exact Ku n (fun i p=>(W.g i p).reg.2) an (A_ _)
 intro a r b;rw[<- c.s.ask a r b,<- f.s.ask a r b];have:iB m' ((a:Int)+1) r=iB m ((a:Int)+1) r:=congrFun (congrFun (L_ Ab.ask e) _) r;rw[this]
theorem fZ.to(h:fZ m L)(b:Ej L L')(z:L'.known=L.known)(ha : ∀(a:Nat) (r:Int),a<6->((∃ j,j<L'.rn a/\L'.rq a j=r) <-> ∃ j,j<L.rn a/\L.rq a j=r))(r:G5 L)(A:G5 L'):fZ m L':=by
 have o : ∀ {i},i<L'.nn->i<L.nn:=fun {i} q=>by rw[<- b.nn]; exact q
 have s : ∀ {i},i<L'.gn->i<L.gn:=fun {i} q=>by rw[<- b.gn]; exact q
 have t : ∀ q,q<L.gn->L'.g q=L.g q:=fun q l=>by
  funext p
  by_cases c:p<5
  ·exact b.g q l p c
  ·rw[r q l p (by omega),A q (by rw[b.gn]; exact l) p (by omega)]
 refine⟨⟨fun k=>(h.T.has k).trans ⟨fun⟨i,d,e⟩=>⟨i,by rw[b.nn]; exact d,by rw[(b.n i d).1]; exact e⟩,fun⟨i,d,e⟩=>⟨i,o d,by rw[<- (b.n i (o d)).1]; exact e⟩⟩,by rw[b.nn]; exact h.T.n,fun i d=>by rw[(b.n i (o d)).1,(b.n i (o d)).2.1]; exact h.T.par i (o d)⟩,
  by rw[b.inn]; exact h.inn,by rw[b.left]; exact h.left,by rw[z]; exact h.known,fun i d=>by rw[(b.n i (o d)).1,(b.n i (o d)).2.2]; exact h.row i (o d),fun a ha=>by rw[b.nn,QW (f:=L'.id) (g:=L.id) fun i d=>(b.n i d).1]; exact h.own a ha,
  h.gi,by rw[b.gn]; exact h.gn,fun q l=>by rw[t q (s l)]; exact h.g1 q (s l),fun j y => ?_,fun a r w=>(h.ask a r w).trans (ha a r w).symm,h.ga,fun p q x l u v => ?_⟩
 ·obtain⟨q,l,e⟩:=h.g2 j y;exact⟨q,by rw[b.gn]; exact l,by rw[t q l]; exact e⟩
 rw[t p (s x),t q (s l)]at u v;exact h.li p q (s x) (s l) u v
def nxC(c i n:Nat):Nat:=if c=n then n else i+1
theorem X6(h:c=i\/c=an)(hi:i<an):nxC c i an=i+1\/nxC c i an=an:=by unfold nxC; split <;> omega
theorem agp(h:sj k ev an L)(W:Ws k ev an)(hi:i<an)(b:KG ev an K)(a : ∀ q,q<6->L.known q=wL K (fH ev c) q)(j:c=i\/c=an)(d:(ev i).seq<=K (aN (ev i))) : ∀ q,q<6->(bV L (ev i)).known q=wL K (fH ev (nxC c i an)) q:=by
 unfold nxC;by_cases e:c=an
 ·rw[d_ e];subst e;rw[(agd W hi (fun q f=>(a q f).trans (akp b q f)) d).2]; exact a
 rw[b_ e];have g:c=i:=by omega
 subst g;exact(h.nextK W hi b a d).2
theorem agq(W:Ws k ev an)(hi:i<an)(a : ∀ q,q<6->L.known q=wL K (fH ev c) q)(f:c=i\/c=an)(d : ¬ (ev i).seq<=K (aN (ev i))) : ∀ q,q<6->L.known q=wL K (fH ev (nxC c i an)) q:=by
 unfold nxC;by_cases e:c=an
 ·rw[d_ e,<- e]; exact a
 rw[b_ e];have b:c=i:=by omega
 subst b;exact akn W hi a d
end
end Rt
open Rt
theorem vP.to{w:World}{B lp N N':Nat}{m:dN}{L L':dP}(h:vP w B lp m L N)(c:fZ m L')(a:Inv L' N')(b:yG L'):vP w B lp m L' N':=⟨h.q,c,a.toInv0,a.s,b⟩
end
theorem Na(n:Nat)(m:Int)(w:World)(h:m=(n:Int))(j:1<=n)(k:n<=6) :
 Calls Tryz.prog 27 #[au m] w fun e w' => ∃ p M,e = .returned (pt p)/\M.n=n/\M.an=0/\WC M/\WG M/\oZ w' w.heap.size p M 0/\Below w.heap.size w w':=by
 subst h; exact(OX n w j k).mono fun _ _ ⟨p,M,d,a,b,c,f,g⟩=>⟨p,M,d,a,b,.new b fun i=>by rw[c i,a],.new fun i=>by rw[c i,a],f,g⟩
set_option maxRecDepth 20000 in
set_option maxHeartbeats 2000000 in
theorem X7(X:Nat)(X8:Option Addr)(na ca:Nat)(xa:Nat->ED)(pb:Nat)(w:World)(hna:na<=60)(hrb:X<=255)(hpb:pb<=255)(hxa : ∀ k,k<na->GH (xa k))(X9:mP w X8 na 9 (flat 9 fun k=>GI (xa k)))(hK:iU w 0 0 8 Cj) :
 Calls Tryz.prog 11 #[.int .u8 (X:Int),.slice X8 (na) (ca),.int .u8 (pb:Int)] w fun e w' => ∃ lp I m p M,e = .returned (.tuple #[(pt lp),(pt (m.pl p)),.bool true])/\p=pb % (X % 6+1)/\m.n=X % 6+1/\p<m.n/\WC m/\m.an<=60/\vP w' w.heap.size lp I (m.ml p).core M/\M<=219600/\uh w' w.heap.size (m.pl p) (m.ml p)/\Inv (m.ml p).core M/\Below w.heap.size w w':=by
 have l0:=hK.lt (by omega);refine Kent Tryz.func11 117 ?_;refine ay<|av (.pointer none)<|av (.pointer none)<|av aF<|aC<|Ws ?_;obtain⟨E,ern⟩ : ∃ r,r=X % 6:=⟨_,rfl⟩;have hrn:E<6:=by rw[ern]; exact J_ _ (by omega)
 refine Wl<|av (.int .u8 (X:Int))<|Lv (au X) (dA rfl rfl (by kernel_rfl) Tryz.underlying3 (iN (by omega) rfl))<|Lv (au E) (Fx.xX rfl rfl rfl (by omega) (EF ern))<|Lv (au ((E:Int)+1)) fA<|av (au ((E:Int)+1))<|aC<|ay<|av (au ((E:Int)+1))<|lD (Na (E+1) _ _ (by omega) (by omega) (by omega)) (ax := #[au ((E:Int)+1)]) ?_;rintro e9 w1 ⟨B,M0,K,hMn,hMa,asK,asL,hW0,hbw⟩;refine⟨(pt B),K,?_⟩;clear K;have sB:=(Below.refl w.heap.size w).size;have b1:=bf hbw (Below.refl w.heap.size w);have sW:w.heap.size<=w1.heap.size:=hbw.size;refine av (pt B)<|aC<|Ws<|ay<|av (au 0)<|aC<|Wb<|Wo (fun f G => ∃ k:Nat,∃ m:WM,∃ M:Nat,k<=na/\M<=3660*k/\m.n=M0.n/\m.an<=k/\w.heap.size<=G.heap.size/\WC m/\WG m/\f 1 = .slice X8 (na) (ca)/\f 2 = .int .u8 (pb:Int)/\f 9=au ((E:Int)+1)/\f 10=(pt B)/\f 11=au (k:Int)/\oZ G w.heap.size B m M/\Below w.heap.size w G) (fun f _=>(na-(intOf (f 11)).toNat)) ⟨0,M0,0,by omega,by omega,rfl,by omega,sW,asK,asL,(by rfl),Fx.ic,Fx.ic,(by rfl),Fx.ic,hW0,b1⟩ ?_;rintro f1 u ⟨k,m,M,hk,hTk,agr,ayO,sWk,ab,hWG,h1,h2,h3,h4,h5,L,Y⟩;refine Ws<|ay<|aU h5<|aU h1<|av (au na) ?_;by_cases c26:(k:Int)<(na:Int)
 ·refine Lv aG (gM c26)<|aC<|aM<|Wk<|sN<|Ws<|Wb<|Wl<|aU h4<|aU h1<|aU h5 ?_;obtain⟨bq1,oq1,eq1,m2⟩:=(X9.up Y rfl) (by omega);have aeA:bq1<u.heap.size:=m2.lt (by omega);refine Lv (pf bq1 (9*k+oq1)) (dw 9 (hx:=(rfl.trans (L_ (fun q=>Value.slice q (na) (ca)) eq1))))<|Lv (.agg (aA 9 (GI (xa k)))) (eT m2 (9*k) (fun jq hjq=>Fx.iq (k:=k) (by omega) hjq))<|lD (akj m w.heap.size B M (xa k) _ L sWk (hxa k (by omega)) (by omega) (by omega)) ?_;rintro e9 w3 ⟨v9,K,hv9,M2,hW1,hM2,ayQ,ayR,hb1⟩;refine⟨_,K,?_⟩;clear K;have asM:=hM2.n;have b3:Below w.heap.size w w3:=akk Y hb1 sB;have sW1:w.heap.size<=w3.heap.size:=by have:=hb1.size; omega
  have sWn:w.heap.size<=w3.heap.size:=by have:=hb1.size; omega
  have asN:WC M2:=ab.do hW1 (J_ _ (by have:=L.n1; omega)) hM2 (by omega) (L.cz.own _ (J_ _ (by have:=L.n1; omega)));have asO:WG M2:=hWG.do hW1 (J_ _ (by have:=L.n1; omega)) hM2;refine Ln<|bP<|sN<|Wl<|aU h5<|Lv (au ((k:Int)+1)) fA<|av (au ((k:Int)+1))<|Ln<|gW ⟨k+1,M2,(M+3660),by omega,by omega,(asM.trans agr),by omega,sWn,asN,asO,h1,(h2.trans Fx.ic),(h3.trans Fx.ic),h4,Fx.ic,hW1,b3⟩ ?_;show(na-(intOf (au ((k:Int)+1))).toNat)<_;simp only[h5,intOf]; omega
 refine Lv aF (gN c26)<|aC<|aK<|Wx<|bX<|gP<|bY<|sN<|Ws ?_;have hWc:=L.c;have hWa:=L.a;have ags:=L.wf;have ayT:=L.may;have hcz:=L.cz;have hWw:=L;have haA:mP u m.aa m.an 14 (evX m.ev):=hWa.arr;have lpw:B<u.heap.size:=hWc.lt;have l0X:0<u.heap.size:=by omega
 have hKX:iU u 0 0 8 Cj:=hK.below Y l0;have hB:1<=u.heap.size:=by omega
 have akr:m.an<=60:=by omega
 have T:=ab.w;have hWn:m.n=E+1:=agr.trans hMn;obtain⟨p,ewo⟩ : ∃ r,r=pb % (E+1):=⟨_,rfl⟩;have hwo:p<(E+1):=by rw[ewo]; exact J_ _ (by omega)
 have O:p<m.n:=by omega
 have asP:=hWw.l;have haL:mP u m.la m.n 1 (H9 m.pl):=asP.arr;have acd:=hWw.g p O;have akt:=acd.c;have ayY:m.pl p<u.heap.size:=akt.lt;have hKc:=(ab.f p O).kc;have hKk:BL (m.ml p).s.known:=(hWw.inv p O).kn;have asQ:sj m.n m.ev m.an (mJ (E+1) 0).core:=by have q9:=sj.new m.n m.ev m.an (aaC T) 0; rw[hWn]at q9 ⊢; exact q9
 have asR : ∀ q,q<6->(mJ (E+1) 0).core.known q=wL (m.ml p).s.known (fH m.ev 0) q:=ako hKc (fun q hq=>(hKk q hq).1);refine vV<|eG h4<|aW (pt B)<|aW (pt B)<|Qv (.slice m.la (m.n) (m.lc)) (fun C A=>aL (hWc.aH.dr A) 0)<|eG h2<|Qv (au pb) (fun C A=>dA rfl rfl (by kernel_rfl) Tryz.underlying3 (iN (by omega) rfl))<|eG h3<|Qv (au p) (fun C A=>Fx.xX rfl rfl rfl (by omega) (EF ewo)) ?_;obtain⟨bq2,oq2,Ev,m3z⟩:=haL (by omega);have aku:bq2<u.heap.size:=m3z.lt (by omega);have m3:=m3z.below (Below.refl u.heap.size u) aku;have arT:bq2<u.heap.size:=m3.lt (by omega);refine Qv (pf bq2 (oq2+p)) (fun C A=>dw 1 (hx:=(rfl.trans (L_ (fun q=>Value.slice q (m.n) (m.lc)) Ev))))<|Qv (pt (m.pl p)) (fun C A=>aL (m3.dr A) p)<|aW (pt (m.pl p))<|Qn ?_;rintro _ ⟨U,rfl⟩;obtain⟨BM,nV⟩ : ∃ C,C=World.drewN u U:=⟨_,rfl⟩;rw[<- nV];have s2:Stp u.heap.size u BM:=by rw[nV]; exact Sb (jA u U)
 have⟨m4,m5,m6⟩:=iy s2.old hWc akt acd;have b4:=s2.below (Below.refl u.heap.size u) (Below.refl u.heap.size u).size (Below.refl u.heap.size u).size;clear nV;refine sN<|ay<|aU h3<|lD (zR (ajD (E+1) (by omega) _) (L_ (fun z => #[Value.int .i64 z]) (by omega))) (ax := #[au ((E:Int)+1)]) ?_;rintro e9 w4 ⟨lp,m0,K,hl1,hb2⟩;refine⟨_,K,?_⟩;clear K;have hl2:=hl1.weak b4.size;have⟨m8,m9,m10,b5⟩:=jN hb2 m4 m5 m6 b4;refine av (.tuple #[(pt lp),au 0])<|av (pt lp)<|av (au 0)<|av (pt lp)<|av (au 0)<|aC<|Ws<|ay<|av (au 0)<|Lv aF (jG rfl)<|av aF<|av (pt lp)<|Lv aF (Fx.oH rfl rfl rfl (by kernel_rfl))<|av aF<|aC<|aK<|Wk<|sN<|Ws<|ay<|av (au 0)<|aC<|Wb<|Wo (fun f G => ∃ J:Nat,∃ I:dN,∃ D:dP,∃ H:Nat,∃ F:Nat,J<=m.an+1/\H<=60*J/\sj m.n m.ev m.an D/\GK D/\(∀ q,q<6->D.known q=wL (m.ml p).s.known (fH m.ev F) q)/\(F=0\/F=m.an)/\(1<=J->F=m.an)/\f 10=(pt B)/\f 12=(pt (m.pl p))/\f 13=(pt lp)/\f 15=au (J:Int)/\vP G u.heap.size lp I D H/\aP G B 2 (Nt (.slice m.la (m.n) (m.lc)) (.slice m.aa (m.an) (m.ac))) 78/\aP G (m.pl p) 27 (mD (m.ml p)) 56/\uh G w.heap.size (m.pl p) (m.ml p)/\Below u.heap.size u G) (fun f _=>(m.an+1-(intOf (f 15)).toNat)) ⟨0,m0,(mJ (E+1) 0).core,0,0,by omega,by omega,asQ,(X5 _ _),asR,(.inl rfl),(fun h=>M_ h (by decide)),h4,(by rfl),(by rfl),Fx.ic,hl2,m8,m9,m10,b5⟩ ?_;rintro f2 w5 ⟨J,I,D,H,F,hrd,hN9,R,S,Z,ad,hrc,h6,h7,h8,h9,m12,m13,m14,m15,b6⟩;refine Ws<|ay<|aU h9<|aU h6<|av (pt B)<|av (pf B 1)<|Lv (.slice m.aa (m.an) (m.ac)) (aL m13.aH 1)<|av (au m.an) ?_;by_cases c63:(J:Int)<=(m.an:Int)
 ·refine Lv aG (nL c63)<|aC<|aM<|Wk<|sN<|Ws<|Wb<|ay<|av (au 0)<|aC<|Wb<|Wo (fun f G => ∃ t:Nat,∃ I:dN,∃ D:dP,∃ H:Nat,∃ F:Nat,t<=m.an/\H<=60*J+t/\sj m.n m.ev m.an D/\GK D/\(∀ q,q<6->D.known q=wL (m.ml p).s.known (fH m.ev F) q)/\(F=t\/F=m.an)/\f 10=(pt B)/\f 12=(pt (m.pl p))/\f 13=(pt lp)/\f 15=au (J:Int)/\f 16=au (t:Int)/\vP G u.heap.size lp I D H/\aP G B 2 (Nt (.slice m.la (m.n) (m.lc)) (.slice m.aa (m.an) (m.ac))) 78/\aP G (m.pl p) 27 (mD (m.ml p)) 56/\uh G w.heap.size (m.pl p) (m.ml p)/\Below u.heap.size u G) (fun f _=>(m.an-(intOf (f 16)).toNat)) ⟨0,I,D,H,F,by omega,by omega,R,S,Z,ad,h6,h7,h8,(h9.trans Fx.ic),Fx.ic,m12,m13,m14,m15,b6⟩ ?_;rintro f3 P ⟨t,I,D,H,F,hix,hN9,R,S,Z,ad,W,h11,h12,Rl,Q,m16,ae,m18,m19,b7⟩;refine Ws<|ay<|aU Q<|aU W<|av (pt B)<|av (pf B 1)<|Lv (.slice m.aa (m.an) (m.ac)) (aL ae.aH 1)<|av (au m.an) ?_;by_cases c72:(t:Int)<(m.an:Int)
  ·refine Lv aG (gM c72)<|aC<|aM<|Wk<|sN<|Ws<|Wb<|Ws ?_;have hi9:t<m.an:=(by omega);have hxw:=ags t hi9;obtain⟨N,akv,hrg,hro⟩ : ∃ N,aN (m.ev t)=N/\N<6/\(m.ev t).o=(N:Int)+1:=⟨_,rfl,(T.g t hi9).reg.2,(T.g t hi9).reg.1⟩;have hkk:=hKk N hrg;refine vV<|eG W<|aW (pt B)<|aW (pf B 1)<|Qv (.slice m.aa (m.an) (m.ac)) (fun C A=>aL (ae.aH.dr A) 1)<|eG Q ?_;obtain⟨V,oq3,Qf,akw⟩:=haA (by omega);have akx:V<u.heap.size:=akw.lt (by omega);have m20:=akw.below b7 akx;have arU:V<P.heap.size:=m20.lt (by omega);refine Qv (pf V (14*t+oq3)) (fun C A=>dw 14 (hx:=(rfl.trans (L_ (fun q=>Value.slice q (m.an) (m.ac)) Qf))))<|aW (pf V (14*t+oq3+1))<|Qv (aD ((m.ev t).seq)) (fun C A=>aL (m20.dr A) (14*t+1) (Fx.fU (k:=t) (j:=1) (by omega) (by omega) rfl))<|eG h11<|eG W<|aW (pt B)<|aW (pf B 1)<|Qv (.slice m.aa (m.an) (m.ac)) (fun C A=>aL (ae.aH.dr A) 1)<|eG Q<|Qv (pf V (14*t+oq3)) (fun C A=>dw 14 (hx:=(rfl.trans (L_ (fun q=>Value.slice q (m.an) (m.ac)) Qf))))<|aW (pf V (14*t+oq3))<|Qv (au ((m.ev t).o)) (fun C A=>aL (m20.dr A) (14*t) (Fx.fU (k:=t) (j:=0) (by omega) (by omega) rfl))<|Qv (au N) (fun C A=>gQ)<|aW (pt (m.pl p))<|aW (pt (m.pl p))<|aW (pf (m.pl p) 12)<|Qv (pf (m.pl p) (N+12)) (fun C A=>jJ 6 1)<|Qv (aD ((m.ml p).s.known N)) (fun C A=>aL (m18.aH.dr A) (N+12) (kV _ (by omega) (jV _ (by omega) (by omega)))) ?_;by_cases Zq:((m.ev t).seq)<=((m.ml p).s.known N)
   ·have agt:(m.ev t).seq<=(m.ml p).s.known (aN (m.ev t)):=(by rw[akv]; omega);refine Qv aG (fun C A=>nL Zq)<|Qn ?_;rintro _ ⟨U,rfl⟩;obtain⟨wq2,um⟩ : ∃ C,C=World.drewN P U:=⟨_,rfl⟩;rw[<- um];have s4:Stp P.heap.size P wq2:=(by rw[um]; exact Sb (jA P U));have⟨m21,m22,m23,m24,mZ,b8⟩:=oJ s4.old m16 ae m18 m19 m20 b7;clear um;refine sN<|aM<|Wl<|aU h12<|aU W<|av (pt B)<|av (pf B 1)<|Lv (.slice m.aa (m.an) (m.ac)) (aL m22.aH 1)<|aU Q<|Lv (pf V (14*t+oq3)) (dw 14 (hx:=(rfl.trans (L_ (fun q=>Value.slice q (m.an) (m.ac)) Qf))))<|Lv (.agg (aA 14 (bM (m.ev t)))) (eT mZ (14*t) (fun jq hjq=>Fx.iq (k:=t) (by omega) hjq))<|dH (QL (v:=(m.ev t)) m21 (ags t (by omega)) hB (hKX.below b8 l0X) (fun _ _=>rfl)) _ rfl ?_;rintro w7 ⟨hq1,hc1⟩;have SH:=m21.q.typed hc1;have agu:=m21.q.Kk hc1 b8.size;have b9:=ajC b8 agu (A_ _);have nQ:=m22.Em SH (by decide);have ayZ:=nQ.lt;have nH:=m23.Em SH (by decide);have aza:=nH.lt;have og:=m24.Em SH (by decide);refine Ln<|bP<|sN<|Wl<|aU Q<|Lv (au ((t:Int)+1)) fA<|av (au ((t:Int)+1))<|Ln<|gW ⟨t+1,jY I (m.ev t),bV D (m.ev t),H+1,(nxC F t m.an),by omega,by omega,(R.apply T (show t<m.an by omega)),(S.apply (ags t (show t<m.an by omega))),(agp R T (show t<m.an by omega) hKc Z ad agt),(X6 ad (show t<m.an by omega)),W,h11,h12,(Rl.trans Fx.ic),Fx.ic,hq1,nQ,nH,og,b9⟩ ?_;show(m.an-(intOf (au ((t:Int)+1))).toNat)<_;simp only[Q,intOf]; omega
   have agt : ¬ (m.ev t).seq<=(m.ml p).s.known (aN (m.ev t)):=(by rw[akv]; omega);refine Qv aF (fun C A=>ow Zq)<|Qn ?_;rintro _ ⟨U,rfl⟩;obtain⟨Yo,Bb⟩ : ∃ C,C=World.drewN P U:=⟨_,rfl⟩;rw[<- Bb];have s5:Stp P.heap.size P Yo:=(by rw[Bb]; exact Sb (jA P U));have⟨oh,oD,lI,m32,b10⟩:=nN s5.old m16 ae m18 m19 b7;clear Bb;refine sN<|aK<|Wk<|bP<|sN<|Wl<|aU Q<|Lv (au ((t:Int)+1)) fA<|av (au ((t:Int)+1))<|Ln<|gW ⟨t+1,I,D,H,(nxC F t m.an),by omega,by omega,R,S,(agq T (show t<m.an by omega) Z ad agt),(X6 ad (show t<m.an by omega)),W,h11,h12,(Rl.trans Fx.ic),Fx.ic,oh,oD,lI,m32,b10⟩ ?_;show(m.an-(intOf (au ((t:Int)+1))).toNat)<_;simp only[Q,intOf]; omega
  refine Lv aF (gN c72)<|aC<|aK<|Wx<|bX<|gP<|bY<|bP<|sN<|Wl<|aU Rl<|Lv (au ((J:Int)+1)) fA<|av (au ((J:Int)+1))<|Ln<|gW ⟨J+1,I,D,H,F,by omega,by omega,R,S,Z,(.inr (by omega)),(fun _=>by omega),W,h11,h12,Fx.ic,m16,ae,m18,m19,b7⟩ ?_;show(m.an+1-(intOf (au ((J:Int)+1))).toNat)<_;simp only[h9,intOf]; omega
 refine Lv aF (ow c63)<|aC<|aK<|Wx<|bX<|gP<|bY<|sN<|Ws ?_;have ecx:F=m.an:=by omega
 have hkE : ∀ q,q<6->(m.ml p).s.known q=D.known q:=fun q hq=>by rw[Z q hq,ecx]; exact(akp hKc q hq).symm
 have hGm:=hWG.g p O;have hSm:Ej D (m.ml p).core:=R.same (ab.f p O) T S.g hGm.g hkE;have azc:H<=3720:=by omega
 have hkf:(m.ml p).core.known=D.known:=S.k.eq hGm.k hkE;have hSq:=m12.s.to hSm hkf (R.asks (ab.f p O) T hkE) S.r hGm.r;refine kH [0,1,2,4,5,6,7,3,8,9,10,11] [0,0,0,2,0,0,0,1,2,0,0,0] [(8,3,[3]),(9,3,[8,3]),(10,3,[9,8,3]),(11,3,[3]),(9,8,[8]),(10,8,[9,8]),(11,8,[8])] fun rE dR iK => ?_;have⟨nR,nS,qW,b11⟩:=jN dR m12 m14 m15 b6;refine bZ h8<|bZ h7<|bZ h8<|bZ h7<|aX (pt (m.pl p))<|aX (pt (m.pl p))<|Rd (v := .agg (aA 20 (kI (m.ml p).s))) (by rfl) (by rfl) (uG _) (fun C A=>dQ (x:=mD (m.ml p)) (y:=kI (m.ml p).s) rfl rfl (by kernel_rfl) (by kernel_rfl) (nS.aH.below A (by have:=nS.lt; omega)) (i:=0) (by omega) (by omega) (fun jq hjq=>(show mD _ (0+jq)=kI _ jq by rw[G_]; exact kV _ hjq rfl))) ?_;refine zD<|lD (Kl nR (by omega)) ?_;rintro e9 w8 ⟨ss1,K,Ya,hb3⟩;obtain⟨zna,znc,zga,zgc,eS9⟩ : ∃ a b c d,ss1=qM D a b c d:=⟨_,_,_,_,Ya.e⟩;subst eS9;refine⟨_,K,?_⟩;clear K;have s7:=Sb hb3;have⟨qB,mh,b12⟩:=iy hb3 nR qW b11;refine Ln ⟨s7.old,?_⟩;refine zD<|dH (aaD Ya.r (.ldg mh.ldg) hSm (qB.wf (by omega))) _ rfl ?_;intro w9 hb4;have s8:=Sb hb4;have⟨lM,qh,b13⟩:=iy hb4 qB mh b12;refine Ln ⟨s8.old,?_⟩;refine aX (pt lp) (aX (pt (m.pl p)) (aX aG (bS (Wr (⟨.tuple #[(pt lp),(pt (m.pl p)),.bool true],Fx.ahi Tryz.results11 (by exact rfl) (by exact rfl) (by exact rfl),?_⟩)))));exact⟨lp,I,m,p,M,rfl,by rw[ewo,ern],hWn.trans (by rw[ern]),O,ab,akr,(lM.weak Y.size).to hSq (hWw.inv p O) hGm.g,by omega,qh,hWw.inv p O,(akk Y b13 Y.size)⟩
namespace Rt
end Rt
end Go.Proofs.YtcbedgfikejkoaaGreatDoor
