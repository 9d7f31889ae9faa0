/-
  What the proof of the law rests on, part 7: walks of functions, and plain laws; each says its conditions itself.
-/
import Derived.Test.YtahbiajdgealnaaDoorRows
import Derived.LaidMore
import Derived.OpenShut
import Derived.ProofKit
import Derived.Stop.Joined
import Derived.Test.YtahbiajdgealnaaDoorZC6
set_option maxHeartbeats 1600000
set_option linter.unusedVariables false
set_option linter.unusedSimpArgs false
namespace Go.Proofs.YtahbiajdgealnaaDoor
open Go.RowKit Rt
open Fx (fI fq fP bF gX gW dA dY gP jE eZ jF gy jv jG Lv sN Ln Ws Qv Wl Rp Wc Qs Wr Sb Lk Wk rC rV sR Rs Rn Rd Rk Wb Wx Wo FQ Wt rT K4 Qn F3 Bl Af Ar DI Ei rM gK Av mV wI uT wX xX Aq DL Au rv aA aQ bR aN ev bZ Stp dJ aR flat dD Mp fA aU iR iQ bJ down iI jM iT nY bP bL cells_one jl bS wQ unseen jN iK bX dH bI bT cK cO gU iB qo gu)
namespace Rt
structure Aa where
 who:Nat
 meet:Bool
 other:Nat
 kind:Nat
 node:Nat
 dst:Nat
 aT:Nat
 req:Nat
 of:Nat
structure xS(x:Aa):Prop where
 who:x.who<=255
 other:x.other<=255
 kind:x.kind<=255
 node:x.node<=255
 dst:x.dst<=255
 aT:x.aT<=65535
 req:x.req<=255
 of:x.of<=255
def uR(x:Aa):Nat->Value:=fun p=>if p=0 then .int .u8 (x.who:Int)else if p=1 then .bool x.meet else if p=2 then .int .u8 (x.other:Int)else if p=3 then .int .u8 (x.kind:Int)else if p=4 then .int .u8 (x.node:Int)else if p=5 then .int .u8 (x.dst:Int)else if p=6 then .int .u16 (x.aT:Int)else if p=7 then .int .u8 (x.req:Int)else .int .u8 (x.of:Int)
theorem Gf{k n r:Nat}(e:r=k % n):Int.tmod (k:Int) (n:Int)=(r:Int):=by
 rw[Int.tmod_eq_emod_of_nonneg (by omega),e];exact(Int.natCast_emod k n).symm
theorem Eb(V:EvM)(x:Int) : ∀ j,j<14->dD (bH V) 9 (aC x) j=bH { V with node:=x } j:=fun j a=>by
 rcases j with _|_|_|_|_|_|_|_|_|_|_|_|_|_|j <;> first|rfl|omega
theorem Vu(V:EvM)(x:Int) : ∀ j,j<14->dD (bH V) 10 (au x) j=bH ⟨V.o,V.seq,V.deps,V.kind,V.node,x,V.aT,V.req,V.of⟩ j:=fun j a=>by
 rcases j with _|_|_|_|_|_|_|_|_|_|_|_|_|_|j <;> first|rfl|omega
theorem FB(V:EvM)(x:Int) : ∀ j,j<14->dD (bH V) 11 (au x) j=bH { V with aT:=x } j:=fun j a=>by
 rcases j with _|_|_|_|_|_|_|_|_|_|_|_|_|_|j <;> first|rfl|omega
theorem Vv(V:EvM)(x:Int) : ∀ j,j<14->dD (bH V) 12 (aC x) j=bH { V with req:=x } j:=fun j a=>by
 rcases j with _|_|_|_|_|_|_|_|_|_|_|_|_|_|j <;> first|rfl|omega
theorem agn(V:EvM)(x:Int) : ∀ j,j<14->dD (bH V) 13 (aC x) j=bH { V with of:=x } j:=fun j a=>by
 rcases j with _|_|_|_|_|_|_|_|_|_|_|_|_|_|j <;> first|rfl|omega
end Rt
set_option maxRecDepth 20000 in
set_option maxHeartbeats 2000000 in
theorem OY(M:WM)(B p T:Nat)(x:Aa)(w:World)(Z:nW w B p M T)(hx:xS x) :
 Calls Tryd.prog 12 #[(pt p),.agg (aA 9 (uR x))] w fun e w' => ∃ V,fV V/\nP V/\(V.o=((x.who % M.n:Nat):Int)+1/\V.seq=(M.ml (x.who % M.n)).s.known (x.who % M.n)+1/\V.deps=(M.ml (x.who % M.n)).s.known)/\e = .returned (.agg (aA 14 (bH V)))/\Below w.heap.size w w':=by
 have hWc:=Z.c;have hWl:=Z.l;have hWa:=Z.a;have hWg:=Z.g;have hn1:=Z.n1;have hn6:=Z.n6;have hpB:=Z.pB;have lpp:p<w.heap.size:=hWc.lt;have hxw:=hx.who;have hxo:=hx.other;have hxk:=hx.kind;have hxn:=hx.node;have hxt:=hx.dst;have hxa:=hx.aT;have hxr:=hx.req;have hxf:=hx.of;refine Kent Tryd.func12 143 ?_;refine ay<|pQ fun G w1 mR m1 s1 z1 => ?_;have⟨m2,m3,m4,m5,b1⟩:=qD s1.old hWc hWl hWa hWg (Below.refl w.heap.size w);have sO:=gL mR;have nC:=cu mR hWc.lt;have uo:=m1.lt;refine qC 14 (fun h=>if h<1 then au 0 else if h<8 then aC 0 else if h<9 then .int .u8 (0)else if h<10 then aC 0 else if h<12 then au 0 else aC 0) fun U w2 yZ m6 s2 z2 => ?_;have⟨m7,m8,m9,m10,m11,b2⟩:=rX s2.old m2 m3 m4 m5 m1 b1;have qN:=jc yZ b1.size;have Oh:=cu yZ m2.lt;have KU:(.slice M.aa (M.an) (M.ac):Value).ownBlock≠some U:=by rw[yZ]; exact m4.mH (z_ _)
 have BX:=cu yZ m1.lt;have zL:=m6.lt;refine aD<|Ws ?_;obtain⟨o,eo⟩ : ∃ r,r=x.who % M.n:=⟨_,rfl⟩;have ho:o<M.n:=by rw[eo]; exact I_ _ (by omega)
 refine yS<|aX (pt G)<|Qv (.int .u8 (x.who:Int)) (fun E D=>aM (m11.aH.dr D) 0)<|Qv (au x.who) (fun E D=>dA rfl rfl (by kernel_rfl) Tryd.underlying3 (iT (by omega) rfl))<|aX (pt p)<|aX (pt p)<|aX (pt p)<|Qv (.slice M.la (M.n) (M.lc)) (fun E D=>aM (m7.aH.dr D) 0)<|aX (au M.n)<|Qv (au o) (fun E D=>Fx.zl rfl rfl rfl (by omega) (Gf eo))<|aX (au o)<|Qn ?_;rintro _ ⟨qd,rfl⟩;obtain⟨Dn,oG⟩ : ∃ E,E=World.drewN w2 qd:=⟨_,rfl⟩;rw[<- oG];have s3:Stp w2.heap.size w2 Dn:=by rw[oG]; exact Sb (jD w2 qd)
 have⟨m12,m13,m14,m15,m16,m17,b3⟩:=jw s3.old m7 m8 m9 m10 m11 m6 b2;clear oG;refine sN<|ay<|av (pt p)<|av (pt p)<|av (pt p)<|Lv (.slice M.la (M.n) (M.lc)) (aM m12.aH 0)<|av (au o) ?_;obtain⟨GN,eq1⟩:=m13.addr (by omega);have m18:Fx.Own Dn B 57 1 (bK GN M.n M.lc) M.n (Gd M.pl):=m13.fH (K_ (fun q=>Value.slice q M.n M.lc) eq1);refine Lv (pf GN o) (dh 1 (hx:=(rfl.trans (K_ (fun q=>Value.slice q (M.n) (M.lc)) eq1))))<|Lv (pt (M.pl o)) (aM m18.aH o)<|av (pt (M.pl o))<|aD<|Ws ?_;obtain⟨H,agp⟩ : ∃ r,r=x.kind % 7:=⟨_,rfl⟩;have avm:H<7:=by rw[agp]; exact I_ _ (by omega)
 have Yk:=m15 o (by omega);have FC:=Yk.c;have agq:=Yk.n;have hkn:=(Z.inv o (by omega)).kn;have hko:=hkn o (by omega);have hko:0<=(M.ml o).s.known o/\(M.ml o).s.known o<1099511627776:=hko;have hU : ∀ k,k<(M.ml o).s.nn->jU ((M.ml o).id k):=fun k hk=>by have Y:=(Z.inv o (by omega)).pos k hk; have I:=(Z.inv o (by omega)).top k hk; exact⟨by show(0:Int)<=(M.ml o).core.id k; omega,by show(M.ml o).core.id k<=_; omega⟩
 have hbn:=(Z.g o (by omega)).bn;refine rT (T:=28) (T':=28) (a := .tmp 7) (v := .tmp 44) (m:=14) (z:=fun h=>if h<1 then au 0 else if h<8 then aC 0 else if h<9 then .int .u8 (0)else if h<10 then aC 0 else if h<12 then au 0 else aC 0) (y:=bR (bR (bR (bR (fun h=>if h<1 then au 0 else if h<8 then aC 0 else if h<9 then .int .u8 (0)else if h<10 then aC 0 else if h<12 then au 0 else aC 0) 0 1 (fun _=>au ((o:Int)+1))) 1 1 (fun _=>aC ((M.ml o).s.known o+1))) 2 6 (rv .u64 ((M.ml o).s.known))) 8 1 (fun _ => .int .u8 ((H:Int)+1))) (u := .agg (aA 14 (bR (bR (bR (bR (fun h=>if h<1 then au 0 else if h<8 then aC 0 else if h<9 then .int .u8 (0)else if h<10 then aC 0 else if h<12 then au 0 else aC 0) 0 1 (fun _=>au ((o:Int)+1))) 1 1 (fun _=>aC ((M.ml o).s.known o+1))) 2 6 (rv .u64 ((M.ml o).s.known))) 8 1 (fun _ => .int .u8 ((H:Int)+1))))) 20 21 (List.replicate 22 (0,2,[],[])) #[au (o:Int),au ((o:Int)+1),(pt (M.pl o)),au (o:Int),(pt (M.pl o)),(pt (M.pl o)),(pf (M.pl o) 12),(pf (M.pl o) (o+12)),aC ((M.ml o).s.known o),aC ((M.ml o).s.known o+1),(pt (M.pl o)),(pt (M.pl o)),(pt (M.pl o)),(pf (M.pl o) 12),.agg (aA 6 (rv .u64 ((M.ml o).s.known))),(pf G 3),.int .u8 (x.kind:Int),.int .u8 (H:Int),.int .u8 ((H:Int)+1),.agg (aA 14 (bR (bR (bR (bR (fun h=>if h<1 then au 0 else if h<8 then aC 0 else if h<9 then .int .u8 (0)else if h<10 then aC 0 else if h<12 then au 0 else aC 0) 0 1 (fun _=>au ((o:Int)+1))) 1 1 (fun _=>aC ((M.ml o).s.known o+1))) 2 6 (rv .u64 ((M.ml o).s.known))) 8 1 (fun _ => .int .u8 ((H:Int)+1)))),undef,undef] (by kernel_rfl) (by kernel_rfl) (by kernel_rfl) (by kernel_rfl) (by kernel_rfl) (by kernel_rfl) rfl (by kernel_rfl) rfl rfl (by kernel_rfl) (fun A=>(show ev _ (.tmp 7)=(pt A)from by kernel_rfl)) (fun A=>(show ev _ (.tmp 44) = .agg (aA 14 (bR (bR (bR (bR (fun h=>if h<1 then au 0 else if h<8 then aC 0 else if h<9 then .int .u8 (0)else if h<10 then aC 0 else if h<12 then au 0 else aC 0) 0 1 (fun _=>au ((o:Int)+1))) 1 1 (fun _=>aC ((M.ml o).s.known o+1))) 2 6 (rv .u64 ((M.ml o).s.known))) 8 1 (fun _ => .int .u8 ((H:Int)+1))))from by kernel_rfl)) (bL _ _) (bS (bS (bS (bS (fun jq _=>by show((fun h=>if h<1 then au 0 else if h<8 then aC 0 else if h<9 then .int .u8 (0)else if h<10 then aC 0 else if h<12 then au 0 else aC 0:Nat->Value) jq).oneCell'=true; simp only[]; repeat (first|rfl|split)) (fun _ _=>rfl)) (fun _ _=>rfl)) (fun _ _=>rfl)) (fun _ _=>rfl)) (by kernel_rfl) (fun A => ?_) ?_
 ·refine⟨?_,?_,?_,?_,?_,?_,?_,?_,?_,?_,?_,?_,?_,?_,?_,?_,?_,?_,?_,?_,?_,?_,trivial⟩
  ·exact .inr (.inr pU)
  ·exact .inr (.inr (rW (au ((o:Int)+1)) fun E D=>Fx.JD rfl (show ev _ (.tmp 25)=au (o:Int)from by kernel_rfl) (show ev _ (.const (au 1))=au 1 from by kernel_rfl) Fx.io))
  ·exact .inr (.inr pU)
  ·exact .inr (.inr pU)
  ·exact .inr (.inr pU)
  ·exact .inr (.inr pU)
  ·exact .inr (.inr pU)
  ·exact .inr (.inr (rW (pf (M.pl o) (o+12)) fun E D=>gP rfl (show ev _ (.tmp 31)=(pf (M.pl o) 12)from by kernel_rfl) (show ev _ (.tmp 28)=au (o:Int)from by kernel_rfl) Tryd.underlying26 (s:=1) (by kernel_rfl) (by omega) (by omega) (by omega)))
  ·exact .inr (.inr (rW (aC ((M.ml o).s.known o)) fun E D=>bF (x:=mD (M.ml o)) rfl (show ev _ (.tmp 32)=(pf (M.pl o) (o+12))from by kernel_rfl) (by kernel_rfl) (FC.aH.below D (by have:=FC.lt; omega)) (i:=o+12) (by omega) (by omega) (kJ _ (by omega) (lD _ (by omega) (by omega)))))
  ·exact .inr (.inr (rW (aC ((M.ml o).s.known o+1)) fun E D=>Fx.JD rfl (show ev _ (.tmp 33)=aC ((M.ml o).s.known o)from by kernel_rfl) (show ev _ (.const (aC 1))=aC 1 from by kernel_rfl) (jN (by omega) (by omega))))
  ·exact .inr (.inr pU)
  ·exact .inr (.inr pU)
  ·exact .inr (.inr pU)
  ·exact .inr (.inr pU)
  ·exact .inr (.inr (rW (.agg (aA 6 (rv .u64 ((M.ml o).s.known)))) fun E D=>eZ (x:=mD (M.ml o)) (y:=rv .u64 ((M.ml o).s.known)) rfl (show ev _ (.tmp 38)=(pf (M.pl o) 12)from by kernel_rfl) (by kernel_rfl) (by kernel_rfl) (FC.aH.below D (by have:=FC.lt; omega)) (i:=12) (by omega) (by omega) (fun j C=>kJ _ (by omega) (lD _ C (by omega)))))
  ·exact .inr (.inr pU)
  ·exact .inr (.inr (rW (.int .u8 (x.kind:Int)) fun E D=>bF (x:=uR x) rfl (show ev _ (.tmp 40)=(pf G 3)from by kernel_rfl) (by kernel_rfl) (m16.aH.below D (by have:=m16.lt; omega)) (i:=3) (by omega) (by omega) rfl))
  ·exact .inr (.inr (rW (.int .u8 (H:Int)) fun E D=>Fx.zl rfl (show ev _ (.tmp 41) = .int .u8 (x.kind:Int)from by kernel_rfl) (show ev _ (.const (.int .u8 (7))) = .int .u8 (7)from by kernel_rfl) (by omega) (Gf agp)))
  ·exact .inr (.inr (rW (.int .u8 ((H:Int)+1)) fun E D=>Fx.JD rfl (show ev _ (.const (.int .u8 (1))) = .int .u8 (1)from by kernel_rfl) (show ev _ (.tmp 42) = .int .u8 (H:Int)from by kernel_rfl) (Fx.u8e (by omega) (by omega))))
  ·exact .inr (.inr (rW (.agg (aA 14 (bR (bR (bR (bR (fun h=>if h<1 then au 0 else if h<8 then aC 0 else if h<9 then .int .u8 (0)else if h<10 then aC 0 else if h<12 then au 0 else aC 0) 0 1 (fun _=>au ((o:Int)+1))) 1 1 (fun _=>aC ((M.ml o).s.known o+1))) 2 6 (rv .u64 ((M.ml o).s.known))) 8 1 (fun _ => .int .u8 ((H:Int)+1))))) fun E D=>gy (vs := [(0,au ((o:Int)+1)),(1,aC ((M.ml o).s.known o+1)),(2,.agg (aA 6 (rv .u64 ((M.ml o).s.known)))),(3,.int .u8 ((H:Int)+1))]) (places := #[(0,1),(1,1),(2,6),(8,1),(9,1),(10,1),(11,1),(12,1),(13,1)]) (m:=14) (x:=fun h=>if h<1 then au 0 else if h<8 then aC 0 else if h<9 then .int .u8 (0)else if h<10 then aC 0 else if h<12 then au 0 else aC 0) rfl (Fx.ZV (show ev _ (.tmp 26)=au ((o:Int)+1)from by kernel_rfl) (show ev _ (.tmp 34)=aC ((M.ml o).s.known o+1)from by kernel_rfl) (show ev _ (.tmp 39) = .agg (aA 6 (rv .u64 ((M.ml o).s.known)))from by kernel_rfl) (show ev _ (.tmp 43) = .int .u8 ((H:Int)+1)from by kernel_rfl)) Tryd.underlying28 (by kernel_rfl) (by kernel_rfl) (by rw[bJ (off:=0) (s:=1) (y:=fun _=>au ((o:Int)+1)) (by kernel_rfl) (cells_one (by rfl)) (by rfl)]; rw[bJ (off:=1) (s:=1) (y:=fun _=>aC ((M.ml o).s.known o+1)) (by kernel_rfl) (cells_one (by rfl)) (by rfl)]; rw[bJ (off:=2) (s:=6) (y:=rv .u64 ((M.ml o).s.known)) (by kernel_rfl) (bL _ _) (by rfl)]; rw[bJ (off:=8) (s:=1) (y:=fun _ => .int .u8 ((H:Int)+1)) (by kernel_rfl) (cells_one (by rfl)) (by rfl)]; rfl)))
  ·exact .inl rfl
  exact .inr (.inl rfl)
 rintro A w3 f1 hf1 Bz m19 hb1;have Vl:p≠A:=t_ (n_ (m12.lt) Bz);have aor:G≠A:=t_ (n_ (m16.lt) Bz);have acF:U≠A:=t_ (n_ (m17.lt) Bz);have aos:GN≠A:=t_ (n_ (m18.lt) Bz);have agr:(M.pl o)≠A:=t_ (n_ (FC.lt) Bz);have Vm:(.slice M.aa (M.an) (M.ac):Value).ownBlock≠some A:=fun e=>by have:=(m14.ge e).2; omega
 have⟨m22,m23,m24,mZ,oM,b4⟩:=rX hb1 m15 m16 m17 m18 agq b3;have Bz:w.heap.size<=A:=m_ b3.size Bz;have IK:=m19.lt;have q1:f1 3=(pt G):=by rw[hf1]; kernel_rfl
 have q2:f1 4=(pt U):=by rw[hf1]; kernel_rfl
 have q3:f1 6=(pt (M.pl o)):=by rw[hf1]; kernel_rfl
 have q4:f1 7=(pt A):=by rw[hf1]; kernel_rfl
 clear hf1;refine sN<|Ws ?_;obtain⟨d,eV0⟩ : ∃ V:EvM,V=(⟨(o:Int)+1,(M.ml o).s.known o+1,(M.ml o).s.known,(H:Int)+1,0,0,0,0,0⟩:EvM):=⟨_,rfl⟩;have hz1:jU 0:=⟨by decide,by decide⟩;have hz2:uF 0:=⟨by decide,by decide⟩;have t:fV d:=by rw[eV0]; exact⟨⟨by show(_:Int)<=(o:Int)+1; omega,by show(o:Int)+1<=_; omega⟩,⟨by show(0:Int)<=(M.ml o).s.known o+1; omega,by show(M.ml o).s.known o+1<=_; omega⟩,fun i hi=>⟨(hkn i hi).1,by have q:(M.ml o).s.known i<1099511627776:=(hkn i hi).2; show(M.ml o).s.known i<=_; omega⟩,⟨by show(0:Int)<=(H:Int)+1; omega,by show(H:Int)+1<=255; omega⟩,hz1,hz2,hz2,hz1,hz1⟩
 have oN:aQ w3 A 14 (bH d) 28:=m19.congr (fun j C=>by rw[eV0]; rcases j with _|_|_|_|_|_|_|_|_|_|_|_|_|_|j <;> first|rfl|omega|exact K_ (Value.int .u8) (by omega))
 have X:nP d:=by rw[eV0]; exact⟨by show(0:Int)<=_; decide,by show(0:Int)<=_; decide⟩
 have hd0:d.o=(o:Int)+1/\d.seq=(M.ml o).s.known o+1/\d.deps=(M.ml o).s.known:=by rw[eV0]; exact⟨rfl,rfl,rfl⟩
 have ek0:d.kind=(H:Int)+1:=by rw[eV0]
 refine Wl<|av (aC 0)<|aD ?_;have oZ:Fx.Own w3 B 57 1 (.slice M.la (M.n) (M.lc)) M.n (Gd M.pl):=mZ.fH (K_ (fun q=>Value.slice q M.n M.lc) eq1.symm);refine DL (fun f w_ => ∃ nd:Int,jU nd/\f 3=(pt G)/\f 4=(pt U)/\f 7=(pt A)/\f 8=aC nd/\aQ w_ G 9 (uR x) 39/\aQ w_ U 14 (fun h=>if h<1 then au 0 else if h<8 then aC 0 else if h<9 then .int .u8 (0)else if h<10 then aC 0 else if h<12 then au 0 else aC 0) 28/\aQ w_ A 14 (bH d) 28/\Below w.heap.size w w_) ?_ ?_
 ·refine Ws ?_;have Yl:=m22 o (by omega);have Vw:=Yl.c;have ard:=Yl.n;refine Wl<|aY q3<|av (pt (M.pl o))<|av (pt (M.pl o))<|av (pf (M.pl o) 18)<|Lv (.slice (M.ml o).s.na ((M.ml o).s.nn) ((M.ml o).s.nc)) (aM Vw.aH 18)<|av (au (((M.ml o).s.nn:Nat):Int))<|Lv (.bool (decide (0<(((M.ml o).s.nn:Nat):Int)))) (Fx.Rl rfl rfl rfl)<|aD<|Wc (b:=decide (0<(((M.ml o).s.nn:Nat):Int))) rfl (fun c51 => ?_)<|fun c51 => ?_
  ·have c51:=h_ c51;obtain⟨Wj,agt⟩ : ∃ r,r=x.node % (M.ml o).s.nn:=⟨_,rfl⟩;have aot:Wj<(M.ml o).s.nn:=(by rw[agt]; exact I_ _ (by omega));refine yS<|eB q3<|aX (pt (M.pl o))<|aX (pt (M.pl o))<|aX (pf (M.pl o) 18)<|Qv (.slice (M.ml o).s.na ((M.ml o).s.nn) ((M.ml o).s.nc)) (fun E D=>aM (Vw.aH.dr D) 18)<|Qv (pf G 4) (fun E D=>jB q1 4)<|Qv (.int .u8 (x.node:Int)) (fun E D=>aM (m23.aH.dr D) 4)<|Qv (au x.node) (fun E D=>dA rfl rfl (by kernel_rfl) Tryd.underlying3 (iT (by omega) rfl))<|eB q3<|aX (pt (M.pl o))<|aX (pt (M.pl o))<|aX (pf (M.pl o) 18)<|Qv (.slice (M.ml o).s.na ((M.ml o).s.nn) ((M.ml o).s.nc)) (fun E D=>aM (Vw.aH.dr D) 18)<|aX (au (((M.ml o).s.nn:Nat):Int))<|Qv (au Wj) (fun E D=>Fx.zl rfl rfl rfl (by omega) (Gf agt)) ?_;obtain⟨Q8,Ja⟩:=oM.addr (by omega);have qc:Fx.Own w3 B 84 56 (.slice (some ⟨Q8,0,none⟩) ((M.ml o).s.nn) ((M.ml o).s.nc)) ((M.ml o).s.nn) (Jw (M.ml o)):=oM.fH (K_ (fun q=>Value.slice q ((M.ml o).s.nn) ((M.ml o).s.nc)) Ja);refine Qv (pf Q8 (56*Wj)) (fun E D=>dh 56 (hx:=(rfl.trans (K_ (fun q=>Value.slice q ((M.ml o).s.nn) ((M.ml o).s.nc)) Ja))))<|aX (pf Q8 (56*Wj))<|Qv (aC ((M.ml o).id Wj)) (fun E D=>aM (qc.aH.dr D) (56*Wj) (Fx.iw (k:=Wj) (j:=0) (by omega) (by omega) rfl))<|aX (aC ((M.ml o).id Wj))<|Qn ?_;rintro _ ⟨qd,rfl⟩;obtain⟨wq2,vQ⟩ : ∃ E,E=World.drewN w3 qd:=⟨_,rfl⟩;rw[<- vQ];have s5:Stp w3.heap.size w3 wq2:=(by rw[vQ]; exact Sb (jD w3 qd));have⟨og,qG,uf,uq,b5⟩:=qD s5.old m23 m24 oN qc b4;clear vQ;have nU:Fx.Own wq2 B 84 56 (.slice (M.ml o).s.na ((M.ml o).s.nn) ((M.ml o).s.nc)) ((M.ml o).s.nn) (Jw (M.ml o)):=uq.fH (K_ (fun q=>Value.slice q ((M.ml o).s.nn) ((M.ml o).s.nc)) Ja.symm);exact wQ ⟨((M.ml o).id Wj),(hU Wj aot),q1,q2,q4,Fx.ic,og,qG,uf,b5⟩
  have c51:=j_ c51;refine Wk ?_;exact wQ ⟨0,⟨by decide,by decide⟩,q1,q2,q4,Fx.ic,m23,m24,oN,b4⟩
 rintro f2 w4 ⟨nd,OZ,Y,I,F,h4,nD,nE,K,J⟩;refine Ws<|ay<|Lv (pf A 8) (jB F 8)<|Lv (.int .u8 (d.kind)) (aM K.aH 8)<|aD<|Wb<|ay ?_;by_cases c73:d.kind=1
 ·refine Lv aG (eY c73)<|av aG<|aD<|aO<|Ws<|Ws ?_;obtain⟨r76,agu⟩ : ∃ r,r=x.node % 2:=⟨_,rfl⟩;have avn:r76<2:=by rw[agu]; exact I_ _ (by omega)
  refine Wl<|Lv (pf G 4) (jB Y 4)<|Lv (.int .u8 (x.node:Int)) (aM nD.aH 4)<|Lv (.int .u8 (r76:Int)) (Fx.zl rfl rfl rfl (by omega) (Gf agu)) ?_;by_cases c77:(r76:Int)=1
  ·refine Lv aG (eY c77)<|aD<|aO<|Wl<|aY h4<|Lv (pf A 9) (jB F 9)<|iX K 9 (aC nd) fun w5 rQ s6 z3 => ?_;obtain⟨L,eV1⟩ : ∃ V:EvM,V=⟨d.o,d.seq,d.deps,d.kind,nd,d.dst,d.aT,d.req,d.of⟩:=⟨_,rfl⟩;have Ld:fV L:=(by rw[eV1]; exact⟨t.o,t.seq,t.deps,t.kind,OZ,t.dst,t.aT,t.req,t.of⟩);have aov:L.o=(o:Int)+1/\L.seq=(M.ml o).s.known o+1/\L.deps=(M.ml o).s.known:=(by rw[eV1]; exact hd0);have aow:nP L:=(by rw[eV1]; exact⟨X.aT,X.req⟩);have pz:aQ w5 A 14 (bH L) 28:=rQ.congr (fun j C=>by rw[eV1]; exact Eb _ _ j C);have gM:=gK s6 K.ty;have rZ:=jO gM nD;have xB:=nE.bY s6 (by omega);have b7:=s6.below J J.size (by omega);refine aD<|Wl<|Lv (pf G 6) (jB Y 6)<|Lv (.int .u16 (x.aT:Int)) (aM rZ.aH 6)<|Lv (au x.aT) (dA rfl rfl (by kernel_rfl) Tryd.underlying2 (iT (by omega) rfl))<|Lv (pf A 11) (jB F 11)<|iX pz 11 (au x.aT) fun w6 tK s7 z4 => ?_;obtain⟨V2,eV2⟩ : ∃ V:EvM,V=⟨L.o,L.seq,L.deps,L.kind,L.node,L.dst,(x.aT:Int),L.req,L.of⟩:=⟨_,rfl⟩;have aox:fV V2:=(by rw[eV2]; exact⟨Ld.o,Ld.seq,Ld.deps,Ld.kind,Ld.node,Ld.dst,(show uF (x.aT:Int)from⟨by omega,by omega⟩),Ld.req,Ld.of⟩);have aoy:V2.o=(o:Int)+1/\V2.seq=(M.ml o).s.known o+1/\V2.deps=(M.ml o).s.known:=(by rw[eV2]; exact aov);have aoz:nP V2:=(by rw[eV2]; exact⟨by show(x.aT:Int)<=65536; omega,aow.req⟩);have sQ:aQ w6 A 14 (bH V2) 28:=tK.congr (fun j C=>by rw[eV2]; exact FB _ _ j C);have uU:=xB.bY s7 (by omega);have b8:=s7.below b7 b7.size (by omega);refine Ln<|bT<|sN<|ay<|Lv (.agg (aA 14 (bH V2))) (fJ sQ.aH 0 (ha:=F))<|dZ uU 0 (ha:=I) (h1:=(fD _)) fun w7 uV s8 z5 => ?_;have uy:aQ w7 U 14 (bH V2) 28:=aR uV;have sS:=sQ.bY s8 (by omega);have b9:=s8.below b8 b8.size (by omega);refine aD (Wr (⟨.agg (aA 14 (bH V2)),rV Tryd.results12 ⟨_,I,aU uy.aH (by kernel_rfl) (by kernel_rfl)⟩,?_⟩));exact⟨V2,aox,aoz,by rw[<- eo]; exact aoy,rfl,b9⟩
  refine Lv aF (fU c77)<|aD<|aL<|Wk<|sN<|Wl<|Lv (pf G 6) (jB Y 6)<|Lv (.int .u16 (x.aT:Int)) (aM nD.aH 6)<|Lv (au x.aT) (dA rfl rfl (by kernel_rfl) Tryd.underlying2 (iT (by omega) rfl))<|Lv (pf A 11) (jB F 11)<|iX K 11 (au x.aT) fun w8 sj s9 z6 => ?_;obtain⟨V3,eV3⟩ : ∃ V:EvM,V=⟨d.o,d.seq,d.deps,d.kind,d.node,d.dst,(x.aT:Int),d.req,d.of⟩:=⟨_,rfl⟩;have aoA:fV V3:=by rw[eV3]; exact⟨t.o,t.seq,t.deps,t.kind,t.node,t.dst,(show uF (x.aT:Int)from⟨by omega,by omega⟩),t.req,t.of⟩
  have aoB:V3.o=(o:Int)+1/\V3.seq=(M.ml o).s.known o+1/\V3.deps=(M.ml o).s.known:=by rw[eV3]; exact hd0
  have aoC:nP V3:=by rw[eV3]; exact⟨by show(x.aT:Int)<=65536; omega,X.req⟩
  have sU:aQ w8 A 14 (bH V3) 28:=sj.congr (fun j C=>by rw[eV3]; exact FB _ _ j C);have ru:=nE.bY s9 (by omega);have b10:=s9.below J J.size (by omega);refine Ln<|bT<|sN<|ay<|Lv (.agg (aA 14 (bH V3))) (fJ sU.aH 0 (ha:=F))<|dZ ru 0 (ha:=I) (h1:=(fD _)) fun w9 uW s10 z7 => ?_;have oh:aQ w9 U 14 (bH V3) 28:=aR uW;have m64:=sU.bY s10 (by omega);have b11:=s10.below b10 b10.size (by omega);refine aD (Wr (⟨.agg (aA 14 (bH V3)),rV Tryd.results12 ⟨_,I,aU oh.aH (by kernel_rfl) (by kernel_rfl)⟩,?_⟩));exact⟨V3,aoA,aoC,by rw[<- eo]; exact aoB,rfl,b11⟩
 refine Lv aF (fU c73)<|av aF<|aD<|aL<|ay ?_;by_cases c85:d.kind=2
 ·refine Lv aG (eY c85)<|av aG<|aD<|aO<|ay<|aY h4<|Lv (pf A 9) (jB F 9)<|iX K 9 (aC nd) fun rO yY s11 z8 => ?_;obtain⟨P,eV4⟩ : ∃ V:EvM,V=⟨d.o,d.seq,d.deps,d.kind,nd,d.dst,d.aT,d.req,d.of⟩:=⟨_,rfl⟩;have Lf:fV P:=by rw[eV4]; exact⟨t.o,t.seq,t.deps,t.kind,OZ,t.dst,t.aT,t.req,t.of⟩
  have aoD:P.o=(o:Int)+1/\P.seq=(M.ml o).s.known o+1/\P.deps=(M.ml o).s.known:=by rw[eV4]; exact hd0
  have aoE:nP P:=by rw[eV4]; exact⟨X.aT,X.req⟩
  have wE:aQ rO A 14 (bH P) 28:=yY.congr (fun j C=>by rw[eV4]; exact Eb _ _ j C);have BD:=gK s11 K.ty;have wR:=jO BD nD;have wK:=nE.bY s11 (by omega);have b12:=s11.below J J.size (by omega);refine aD<|Wl<|Lv (pf G 6) (jB Y 6)<|Lv (.int .u16 (x.aT:Int)) (aM wR.aH 6)<|Lv (au x.aT) (dA rfl rfl (by kernel_rfl) Tryd.underlying2 (iT (by omega) rfl))<|Lv (au ((x.aT:Int)+1)) fE<|Lv (pf A 11) (jB F 11)<|iX wE 11 (au ((x.aT:Int)+1)) fun F7 sV s12 z9 => ?_;obtain⟨V5,eV5⟩ : ∃ V:EvM,V=⟨P.o,P.seq,P.deps,P.kind,P.node,P.dst,(x.aT:Int)+1,P.req,P.of⟩:=⟨_,rfl⟩;have aoF:fV V5:=by rw[eV5]; exact⟨Lf.o,Lf.seq,Lf.deps,Lf.kind,Lf.node,Lf.dst,(show uF ((x.aT:Int)+1)from⟨by omega,by omega⟩),Lf.req,Lf.of⟩
  have aoG:V5.o=(o:Int)+1/\V5.seq=(M.ml o).s.known o+1/\V5.deps=(M.ml o).s.known:=by rw[eV5]; exact aoD
  have aoH:nP V5:=by rw[eV5]; exact⟨by show(x.aT:Int)+1<=65536; omega,aoE.req⟩
  have uX:aQ F7 A 14 (bH V5) 28:=sV.congr (fun j C=>by rw[eV5]; exact FB _ _ j C);have vI:=wK.bY s12 (by omega);have b13:=s12.below b12 b12.size (by omega);refine Ln<|bT<|sN<|ay<|Lv (.agg (aA 14 (bH V5))) (fJ uX.aH 0 (ha:=F))<|dZ vI 0 (ha:=I) (h1:=(fD _)) fun Cx tN s13 z10 => ?_;have Ah:aQ Cx U 14 (bH V5) 28:=aR tN;have yt:=uX.bY s13 (by omega);have b14:=s13.below b13 b13.size (by omega);refine aD (Wr (⟨.agg (aA 14 (bH V5)),rV Tryd.results12 ⟨_,I,aU Ah.aH (by kernel_rfl) (by kernel_rfl)⟩,?_⟩));exact⟨V5,aoF,aoH,by rw[<- eo]; exact aoG,rfl,b14⟩
 refine Lv aF (fU c85)<|av aF<|aD<|aL<|ay ?_;by_cases c94:d.kind=3
 ·refine Lv aG (eY c94)<|av aG<|aD<|aO<|ay<|aY h4<|Lv (pf A 9) (jB F 9)<|iX K 9 (aC nd) fun F8 yu Dm z11 => ?_;obtain⟨Q,eV6⟩ : ∃ V:EvM,V=⟨d.o,d.seq,d.deps,d.kind,nd,d.dst,d.aT,d.req,d.of⟩:=⟨_,rfl⟩;have Lg:fV Q:=by rw[eV6]; exact⟨t.o,t.seq,t.deps,t.kind,OZ,t.dst,t.aT,t.req,t.of⟩
  have aoI:Q.o=(o:Int)+1/\Q.seq=(M.ml o).s.known o+1/\Q.deps=(M.ml o).s.known:=by rw[eV6]; exact hd0
  have aoJ:nP Q:=by rw[eV6]; exact⟨X.aT,X.req⟩
  have wS:aQ F8 A 14 (bH Q) 28:=yu.congr (fun j C=>by rw[eV6]; exact Eb _ _ j C);have abu:=gK Dm K.ty;have wT:=jO abu nD;have sZ:=nE.bY Dm (by omega);have b15:=Dm.below J J.size (by omega);refine aD<|ay<|Lv (pf G 6) (jB Y 6)<|Lv (.int .u16 (x.aT:Int)) (aM wT.aH 6)<|Lv (au x.aT) (dA rfl rfl (by kernel_rfl) Tryd.underlying2 (iT (by omega) rfl))<|Lv (au ((x.aT:Int)+1)) fE<|Lv (pf A 11) (jB F 11)<|iX wS 11 (au ((x.aT:Int)+1)) fun NY uY s15 z12 => ?_;obtain⟨R,eV7⟩ : ∃ V:EvM,V=⟨Q.o,Q.seq,Q.deps,Q.kind,Q.node,Q.dst,(x.aT:Int)+1,Q.req,Q.of⟩:=⟨_,rfl⟩;have Lh:fV R:=by rw[eV7]; exact⟨Lg.o,Lg.seq,Lg.deps,Lg.kind,Lg.node,Lg.dst,(show uF ((x.aT:Int)+1)from⟨by omega,by omega⟩),Lg.req,Lg.of⟩
  have aoK:R.o=(o:Int)+1/\R.seq=(M.ml o).s.known o+1/\R.deps=(M.ml o).s.known:=by rw[eV7]; exact aoI
  have aoL:nP R:=by rw[eV7]; exact⟨by show(x.aT:Int)+1<=65536; omega,aoJ.req⟩
  have xD:aQ NY A 14 (bH R) 28:=uY.congr (fun j C=>by rw[eV7]; exact FB _ _ j C);have agv:=gK s15 wS.ty;have yw:=jO agv wT;have wF:=sZ.bY s15 (by omega);have b16:=s15.below b15 b15.size (by omega);refine aD<|Wl<|Lv (pf G 7) (jB Y 7)<|Lv (.int .u8 (x.req:Int)) (aM yw.aH 7)<|Lv (aC x.req) (dA rfl rfl (by kernel_rfl) Tryd.underlying22 (jN (by omega) rfl))<|Lv (aC ((x.req:Int)+1)) fE<|Lv (pf A 12) (jB F 12)<|iX xD 12 (aC ((x.req:Int)+1)) fun LK zw s16 z13 => ?_;obtain⟨V8,eV8⟩ : ∃ V:EvM,V=⟨R.o,R.seq,R.deps,R.kind,R.node,R.dst,R.aT,(x.req:Int)+1,R.of⟩:=⟨_,rfl⟩;have aoM:fV V8:=by rw[eV8]; exact⟨Lh.o,Lh.seq,Lh.deps,Lh.kind,Lh.node,Lh.dst,Lh.aT,(show jU ((x.req:Int)+1)from⟨by omega,by omega⟩),Lh.of⟩
  have aoN:V8.o=(o:Int)+1/\V8.seq=(M.ml o).s.known o+1/\V8.deps=(M.ml o).s.known:=by rw[eV8]; exact aoK
  have aoO:nP V8:=by rw[eV8]; exact⟨aoL.aT,by show(x.req:Int)+1<=256; omega⟩
  have yx:aQ LK A 14 (bH V8) 28:=zw.congr (fun j C=>by rw[eV8]; exact Vv _ _ j C);have yA:=wF.bY s16 (by omega);have b17:=s16.below b16 b16.size (by omega);refine Ln<|bT<|sN<|ay<|Lv (.agg (aA 14 (bH V8))) (fJ yx.aH 0 (ha:=F))<|dZ yA 0 (ha:=I) (h1:=(fD _)) fun w16 yB Gx z14 => ?_;have Ai:aQ w16 U 14 (bH V8) 28:=aR yB;have Dt:=yx.bY Gx (by omega);have b18:=Gx.below b17 b17.size (by omega);refine aD (Wr (⟨.agg (aA 14 (bH V8)),rV Tryd.results12 ⟨_,I,aU Ai.aH (by kernel_rfl) (by kernel_rfl)⟩,?_⟩));exact⟨V8,aoM,aoO,by rw[<- eo]; exact aoN,rfl,b18⟩
 refine Lv aF (fU c94)<|av aF<|aD<|aL<|ay ?_;by_cases agw:d.kind=4
 ·refine Lv aG (eY agw)<|av aG<|aD<|aO<|ay<|Lv (pf G 7) (jB Y 7)<|Lv (.int .u8 (x.req:Int)) (aM nD.aH 7)<|Lv (aC x.req) (dA rfl rfl (by kernel_rfl) Tryd.underlying22 (jN (by omega) rfl))<|Lv (aC ((x.req:Int)+1)) fE<|Lv (pf A 12) (jB F 12)<|iX K 12 (aC ((x.req:Int)+1)) fun WV CF LP z15 => ?_;obtain⟨S,eV9⟩ : ∃ V:EvM,V=⟨d.o,d.seq,d.deps,d.kind,d.node,d.dst,d.aT,(x.req:Int)+1,d.of⟩:=⟨_,rfl⟩;have Li:fV S:=by rw[eV9]; exact⟨t.o,t.seq,t.deps,t.kind,t.node,t.dst,t.aT,(show jU ((x.req:Int)+1)from⟨by omega,by omega⟩),t.of⟩
  have aoP:S.o=(o:Int)+1/\S.seq=(M.ml o).s.known o+1/\S.deps=(M.ml o).s.known:=by rw[eV9]; exact hd0
  have agx:nP S:=by rw[eV9]; exact⟨X.aT,by show(x.req:Int)+1<=256; omega⟩
  have CG:aQ WV A 14 (bH S) 28:=CF.congr (fun j C=>by rw[eV9]; exact Vv _ _ j C);have agy:=gK LP K.ty;have Aj:=jO agy nD;have FT:=nE.bY LP (by omega);have b19:=LP.below J J.size (by omega);refine aD<|Wl<|Lv (pf G 8) (jB Y 8)<|Lv (.int .u8 (x.of:Int)) (aM Aj.aH 8)<|Lv (aC x.of) (dA rfl rfl (by kernel_rfl) Tryd.underlying22 (jN (by omega) rfl))<|Lv (aC ((x.of:Int)+1)) fE<|Lv (pf A 13) (jB F 13)<|iX CG 13 (aC ((x.of:Int)+1)) fun Sq EF s19 z16 => ?_;obtain⟨Wm,Ym⟩ : ∃ V:EvM,V=⟨S.o,S.seq,S.deps,S.kind,S.node,S.dst,S.aT,S.req,(x.of:Int)+1⟩:=⟨_,rfl⟩;have agz:fV Wm:=by rw[Ym]; exact⟨Li.o,Li.seq,Li.deps,Li.kind,Li.node,Li.dst,Li.aT,Li.req,(show jU ((x.of:Int)+1)from⟨by omega,by omega⟩)⟩
  have agA:Wm.o=(o:Int)+1/\Wm.seq=(M.ml o).s.known o+1/\Wm.deps=(M.ml o).s.known:=by rw[Ym]; exact aoP
  have agB:nP Wm:=by rw[Ym]; exact⟨agx.aT,agx.req⟩
  have FU:aQ Sq A 14 (bH Wm) 28:=EF.congr (fun j C=>by rw[Ym]; exact agn _ _ j C);have vR:=FT.bY s19 (by omega);have b20:=s19.below b19 b19.size (by omega);refine Ln<|bT<|sN<|ay<|Lv (.agg (aA 14 (bH Wm))) (fJ FU.aH 0 (ha:=F))<|dZ vR 0 (ha:=I) (h1:=(fD _)) fun Y4 zO s20 z17 => ?_;have uK:aQ Y4 U 14 (bH Wm) 28:=aR zO;have nL:=FU.bY s20 (by omega);have LJ:=s20.below b20 b20.size (by omega);refine aD (Wr (⟨.agg (aA 14 (bH Wm)),rV Tryd.results12 ⟨_,I,aU uK.aH (by kernel_rfl) (by kernel_rfl)⟩,?_⟩));exact⟨Wm,agz,agB,by rw[<- eo]; exact agA,rfl,LJ⟩
 refine Lv aF (fU agw)<|av aF<|aD<|aL<|ay ?_;by_cases agC:d.kind=5
 ·refine Lv aG (eY agC)<|av aG<|aD<|aO<|ay<|aY h4<|Lv (pf A 9) (jB F 9)<|iX K 9 (aC nd) fun Sw nM s21 z18 => ?_;obtain⟨N,Yn⟩ : ∃ V:EvM,V=⟨d.o,d.seq,d.deps,d.kind,nd,d.dst,d.aT,d.req,d.of⟩:=⟨_,rfl⟩;have C8:fV N:=by rw[Yn]; exact⟨t.o,t.seq,t.deps,t.kind,OZ,t.dst,t.aT,t.req,t.of⟩
  have agD:N.o=(o:Int)+1/\N.seq=(M.ml o).s.known o+1/\N.deps=(M.ml o).s.known:=by rw[Yn]; exact hd0
  have agE:nP N:=by rw[Yn]; exact⟨X.aT,X.req⟩
  have qh:aQ Sw A 14 (bH N) 28:=nM.congr (fun j C=>by rw[Yn]; exact Eb _ _ j C);have agF:=gK s21 K.ty;have qH:=jO agF nD;have qI:=nE.bY s21 (by omega);have Ju:=s21.below J J.size (by omega);refine aD<|ay<|Lv (pf G 6) (jB Y 6)<|Lv (.int .u16 (x.aT:Int)) (aM qH.aH 6)<|Lv (au x.aT) (dA rfl rfl (by kernel_rfl) Tryd.underlying2 (iT (by omega) rfl))<|Lv (au ((x.aT:Int)+1)) fE<|Lv (pf A 11) (jB F 11)<|iX qh 11 (au ((x.aT:Int)+1)) fun PD sF s22 z19 => ?_;obtain⟨O,Yo⟩ : ∃ V:EvM,V=⟨N.o,N.seq,N.deps,N.kind,N.node,N.dst,(x.aT:Int)+1,N.req,N.of⟩:=⟨_,rfl⟩;have C9:fV O:=by rw[Yo]; exact⟨C8.o,C8.seq,C8.deps,C8.kind,C8.node,C8.dst,(show uF ((x.aT:Int)+1)from⟨by omega,by omega⟩),C8.req,C8.of⟩
  have agG:O.o=(o:Int)+1/\O.seq=(M.ml o).s.known o+1/\O.deps=(M.ml o).s.known:=by rw[Yo]; exact agD
  have Zv:nP O:=by rw[Yo]; exact⟨by show(x.aT:Int)+1<=65536; omega,agE.req⟩
  have vS:aQ PD A 14 (bH O) 28:=sF.congr (fun j C=>by rw[Yo]; exact FB _ _ j C);have agH:=gK s22 qh.ty;have sG:=jO agH qH;have tO:=qI.bY s22 (by omega);have Q5:=s22.below Ju Ju.size (by omega);refine aD ?_;obtain⟨W,er6⟩ : ∃ r,r=x.dst % 6:=⟨_,rfl⟩;have hr6:W<6:=by rw[er6]; exact I_ _ (by omega)
  refine Wl<|Lv (pf G 5) (jB Y 5)<|Lv (.int .u8 (x.dst:Int)) (aM sG.aH 5)<|Lv (au x.dst) (dA rfl rfl (by kernel_rfl) Tryd.underlying3 (iT (by omega) rfl))<|Lv (au W) (Fx.zl rfl rfl rfl (by omega) (Gf er6))<|Lv (au ((W:Int)+1)) fE<|Lv (pf A 10) (jB F 10)<|iX vS 10 (au ((W:Int)+1)) fun w22 xJ s23 z20 => ?_;obtain⟨Wn,Yp⟩ : ∃ V:EvM,V=⟨O.o,O.seq,O.deps,O.kind,O.node,(W:Int)+1,O.aT,O.req,O.of⟩:=⟨_,rfl⟩;have agJ:fV Wn:=by rw[Yp]; exact⟨C9.o,C9.seq,C9.deps,C9.kind,C9.node,(show uF ((W:Int)+1)from⟨by omega,by omega⟩),C9.aT,C9.req,C9.of⟩
  have agK:Wn.o=(o:Int)+1/\Wn.seq=(M.ml o).s.known o+1/\Wn.deps=(M.ml o).s.known:=by rw[Yp]; exact agG
  have agL:nP Wn:=by rw[Yp]; exact⟨Zv.aT,Zv.req⟩
  have tQ:aQ w22 A 14 (bH Wn) 28:=xJ.congr (fun j C=>by rw[Yp]; exact Vu _ _ j C);have zP:=tO.bY s23 (by omega);have Q6:=s23.below Q5 Q5.size (by omega);refine Ln<|bT<|sN<|ay<|Lv (.agg (aA 14 (bH Wn))) (fJ tQ.aH 0 (ha:=F))<|dZ zP 0 (ha:=I) (h1:=(fD _)) fun w23 wM s24 z21 => ?_;have tT:aQ w23 U 14 (bH Wn) 28:=aR wM;have vT:=tQ.bY s24 (by omega);have WS:=s24.below Q6 Q6.size (by omega);refine aD (Wr (⟨.agg (aA 14 (bH Wn)),rV Tryd.results12 ⟨_,I,aU tT.aH (by kernel_rfl) (by kernel_rfl)⟩,?_⟩));exact⟨Wn,agJ,agL,by rw[<- eo]; exact agK,rfl,WS⟩
 refine Lv aF (fU agC)<|av aF<|aD<|aL<|ay ?_;by_cases agM:d.kind=6
 ·refine Lv aG (eY agM)<|av aG<|aD<|aO ?_;obtain⟨W,er6⟩ : ∃ r,r=x.dst % 6:=⟨_,rfl⟩;have hr6:W<6:=by rw[er6]; exact I_ _ (by omega)
  refine Wl<|Lv (pf G 5) (jB Y 5)<|Lv (.int .u8 (x.dst:Int)) (aM nD.aH 5)<|Lv (au x.dst) (dA rfl rfl (by kernel_rfl) Tryd.underlying3 (iT (by omega) rfl))<|Lv (au W) (Fx.zl rfl rfl rfl (by omega) (Gf er6))<|Lv (au ((W:Int)+1)) fE<|Lv (pf A 10) (jB F 10)<|iX K 10 (au ((W:Int)+1)) fun w24 wN Y3 z22 => ?_;obtain⟨Wp,Yq⟩ : ∃ V:EvM,V=⟨d.o,d.seq,d.deps,d.kind,d.node,(W:Int)+1,d.aT,d.req,d.of⟩:=⟨_,rfl⟩;have agN:fV Wp:=by rw[Yq]; exact⟨t.o,t.seq,t.deps,t.kind,t.node,(show uF ((W:Int)+1)from⟨by omega,by omega⟩),t.aT,t.req,t.of⟩
  have agO:Wp.o=(o:Int)+1/\Wp.seq=(M.ml o).s.known o+1/\Wp.deps=(M.ml o).s.known:=by rw[Yq]; exact hd0
  have agP:nP Wp:=by rw[Yq]; exact⟨X.aT,X.req⟩
  have vU:aQ w24 A 14 (bH Wp) 28:=wN.congr (fun j C=>by rw[Yq]; exact Vu _ _ j C);have EH:=nE.bY Y3 (by omega);have WT:=Y3.below J J.size (by omega);refine Ln<|bT<|sN<|ay<|Lv (.agg (aA 14 (bH Wp))) (fJ vU.aH 0 (ha:=F))<|dZ EH 0 (ha:=I) (h1:=(fD _)) fun w25 EI s26 z23 => ?_;have BI:aQ w25 U 14 (bH Wp) 28:=aR EI;have Ga:=vU.bY s26 (by omega);have WU:=s26.below WT WT.size (by omega);refine aD (Wr (⟨.agg (aA 14 (bH Wp)),rV Tryd.results12 ⟨_,I,aU BI.aH (by kernel_rfl) (by kernel_rfl)⟩,?_⟩));exact⟨Wp,agN,agP,by rw[<- eo]; exact agO,rfl,WU⟩
 refine Lv aF (fU agM)<|av aF<|aD<|aL<|Wk<|bT<|sN<|ay<|Lv (.agg (aA 14 (bH d))) (fJ K.aH 0 (ha:=F))<|dZ nE 0 (ha:=I) (h1:=(fD _)) fun w26 wO s27 z24 => ?_;have BJ:aQ w26 U 14 (bH d) 28:=aR wO;have Kz:=K.bY s27 (by omega);have Y2:=s27.below J J.size (by omega);refine aD (Wr (⟨.agg (aA 14 (bH d)),rV Tryd.results12 ⟨_,I,aU BJ.aH (by kernel_rfl) (by kernel_rfl)⟩,?_⟩));exact⟨d,t,X,by rw[<- eo]; exact hd0,rfl,Y2⟩
theorem Rt.QJ{L:fB}{v:EvM}(h:bG L v=0):bM v=true:=by
 unfold bG at h;split at h; · cases h
 rename_i h1; simpa using h1
structure Rt.DoR(o:Nat)(x:Aa)(M M':WM)(v:EvM):Prop where
 n:M'.n=M.n
 oth : ∀ q,q≠o->M'.ml q=M.ml q
 c:(v=zeroE/\M'.an=M.an/\M'.ev=M.ev/\((M'.ml o).core=(M.ml o).core\/x.meet=true/\(M'.ml o).core=E8 M.ev M.an (M.ml (x.other % M.n)).s.known (M.ml o).core))\/(x.meet=false/\M'.an=M.an+1/\M'.ev=aI M.ev M.an v/\bG (M.ml o).core v=0/\(M'.ml o).core=dz (M.ml o).core v/\v.o=(o:Int)+1/\v.seq=(M.ml o).s.known o+1/\v.deps=(M.ml o).s.known)
theorem Rt.yN{L:fB}{v:EvM}(h:bG L v=0):(dz L v).known=aI L.known (aK v) (L.known (aK v)+1):=by
 rcases qK L v with ⟨_,a⟩|⟨h1,_⟩
 ·exact a
 exact L_ h h1
theorem Rt.Bh:fV zeroE:=by
 have z:jU 0:=⟨by decide,by decide⟩;have y:uF 0:=⟨by decide,by decide⟩;exact⟨y,z,fun _ _=>z,⟨by decide,by decide⟩,z,y,y,z,z⟩
def Wq(p:Nat)(M:WM)(k:Nat):Prop:=k=p\/(Value.slice M.la M.n M.lc).ownBlock=some k\/(Value.slice M.aa M.an M.ac).ownBlock=some k
def Yr(w:World)(p:Nat)(M a:WM):Prop := ∀ k,Wq p a k->Wq p M k\/w.heap.size<=k
theorem nW.ge{w:World}{B p T:Nat}{M:WM}(h:nW w B p M T) : ∀ k,Wq p M k->B<=k/\k<w.heap.size:=fun k b=>by
 rcases b with rfl|e|e
 ·exact⟨h.pB,h.c.lt⟩
 ·exact h.l.ge e
 ·exact h.a.ge e
theorem nW.xR{w w':World}{B p T:Nat}{M:WM}(h:nW w B p M T)(a:B<=w.heap.size)(c:jM (Wq p M) w w'):Below B w w':=Fx.jM.below (Below.refl B w) c (fun k b=>(h.ge k b).1) a
theorem nW.Cw{w w':World}{B p T:Nat}{M:WM}(h:nW w B p M T)(d:jM (Wq p M) w w'):jl [61,57,28] w w':=Fx.jl.RD d fun k b=>by
 rcases b with rfl|e|e
 ·exact⟨_,h.c.ty,by decide⟩
 ·exact⟨_,h.l.ty e,by decide⟩
 ·exact⟨_,h.a.ty e,by decide⟩
theorem Yr.app{w b:World}{p g:Nat}{M a:WM}(i:(Value.slice M.aa M.an M.ac).ownBlock=some g\/g=b.heap.size)(l:w.heap.size<=b.heap.size)(h1:a.la=M.la:=by rfl)(c:a.n=M.n:=by rfl)(d:a.lc=M.lc:=by rfl)(f:(Value.slice a.aa a.an a.ac).ownBlock=some g:=by rfl):Yr w p M a:=fun k j=>by
 rcases j with h|h|h
 ·exact .inl (.inl h)
 ·rw[h1,c,d]at h; exact .inl (.inr (.inl h))
 ·have e:g=k:=B_ (f.symm.trans h)
  rcases i with h5|h5
  ·exact .inl (.inr (.inr (e ▸ h5)))
  ·exact .inr (by omega)
theorem nW.mono{w:World}{B p T T':Nat}{M:WM}(h:nW w B p M T)(a:T<=T'):nW w B p M T' := { h with inv:=fun i b=>(h.inv i b).mono a }
set_option maxRecDepth 20000 in
set_option maxHeartbeats 2000000 in
theorem agQ(M:WM)(B p T:Nat)(x:Aa)(w:World)(d:nW w B p M T)(hB:B<=w.heap.size)(hx:xS x)(han:M.an<=60)(hT:T<=890000) :
 Calls Tryd.prog 11 #[(pt p),.agg (aA 9 (uR x))] w fun e w' => ∃ v,e = .returned (.agg (aA 14 (bH v)))/\fV v /\ ∃ O,nW w' B p O (T+3660)/\DoR (x.who % M.n) x M O v/\O.an<=M.an+1/\(x.meet=true->O.an=M.an)/\jM (Wq p M) w w'/\Yr w p M O:=by
 have hWc:=d.c;have hWl:=d.l;have hWa:=d.a;have hWg:=d.g;have hn1:=d.n1;have hn6:=d.n6;have hpB:=d.pB;have lpp:p<w.heap.size:=hWc.lt;have hxw:=hx.who;have hxo:=hx.other;have hxk:=hx.kind;have hxn:=hx.node;have hxt:=hx.dst;have hxa:=hx.aT;have hxr:=hx.req;have hxf:=hx.of;refine Kent Tryd.func11 94 ?_;refine ay<|pQ fun g1 w1 mR m1 s1 z1 => ?_;have⟨m2,f,m4,m5,m6⟩:=qD s1.old hWc hWl hWa hWg d;have b1:=(uT (Wq p M) w).then s1 (.inr (uT (Wq p M) w).size);have sO:w.heap.size<=g1:=by rw[mR]; exact(uT (Wq p M) w).size
 have nC:=cu mR hWc.lt;have uo:=m1.lt;refine qC 14 (fun b=>if b<1 then au 0 else if b<8 then aC 0 else if b<9 then .int .u8 (0)else if b<10 then aC 0 else if b<12 then au 0 else aC 0) fun R w2 ad m7 s2 z2 => ?_;have⟨m8,m9,m10,m11,m12,m13⟩:=rX s2.old m2 f m4 m5 m6 m1;have b2:=b1.then s2 (.inr b1.size);have qN:=jc ad b1.size;have Zj:=cu ad m2.lt;have Fu:(.slice M.aa (M.an) (M.ac):Value).ownBlock≠some R:=by rw[ad]; exact m4.mH (z_ _)
 have zX:=cu ad m1.lt;have zL:=m7.lt;refine aD<|Ws ?_;obtain⟨o,Q⟩ : ∃ r,r=x.who % M.n:=⟨_,rfl⟩;have ho:o<M.n:=by rw[Q]; exact I_ _ (by omega)
 refine yS<|aX (pt g1)<|Qv (.int .u8 (x.who:Int)) (fun D C=>aM (m13.aH.dr C) 0)<|Qv (au x.who) (fun D C=>dA rfl rfl (by kernel_rfl) Tryd.underlying3 (iT (by omega) rfl))<|aX (pt p)<|aX (pt p)<|aX (pt p)<|Qv (.slice M.la (M.n) (M.lc)) (fun D C=>aM (m8.aH.dr C) 0)<|aX (au M.n)<|Qv (au o) (fun D C=>Fx.zl rfl rfl rfl (by omega) (Gf Q))<|aX (au o)<|Qn ?_;rintro _ ⟨qd,rfl⟩;obtain⟨Dn,oG⟩ : ∃ D,D=World.drewN w2 qd:=⟨_,rfl⟩;rw[<- oG];have s3:Stp w2.heap.size w2 Dn:=by rw[oG]; exact Sb (jD w2 qd)
 have⟨m14,m15,m16,m17,m18,Y,m20⟩:=jw s3.old m8 m9 m10 m11 m12 m13 m7;have Z:=b2.then s3 (.inr b2.size);clear oG;refine sN<|Ws<|ay<|av (pf g1 1) ?_;by_cases H:x.meet=true
 ·refine Lv aG (aM Y.aH 1 ((show _=Value.bool x.meet from rfl).trans (K_ Value.bool H)))<|aD<|aO<|Ws ?_;obtain⟨A,acV⟩ : ∃ r,r=x.other % M.n:=⟨_,rfl⟩;have avp:A<M.n:=by rw[acV]; exact I_ _ (by omega)
  have Yk:=m17 A (by omega);have FC:=Yk.c;have Yl:=m17 o (by omega);refine jS [0,1,2,4,5,6,7,9,12,13,14,16,17,18,20,23,24,25,3,8,10,11,15,19,21,22,26,27,28,29,30,31,32,33,34,35,36,37] [0,0,0,1,0,0,0,0,4,0,0,4,0,0,0,4,0,0,0,4,0,4,0,0,0,0,4,0,0,0,4,0,0,0,4,2,0,3] [(37,3,[3]),(35,8,[11,10,8]),(37,8,[8]),(35,11,[11]),(37,11,[11]),(35,15,[15]),(37,15,[15]),(35,19,[34,33,32,31,30,29,19]),(37,19,[19]),(35,21,[34,33,32,31,30,29,28,22,21]),(37,21,[21]),(35,26,[34,33,32,31,30,29,28,27,26]),(37,26,[26]),(35,30,[34,33,32,31,30]),(37,30,[30]),(35,34,[34]),(37,34,[34]),(36,35,[35]),(37,35,[35])] fun qE dU iC => ?_;have s4:Stp Dn.heap.size Dn qE:=Sb dU;have⟨G,m22,m23,m24,mZ,nT,oM,oN⟩:=lK dU m14 m15 m16 m17 Y m20 FC Yl;have b4:=Z.then s4 (.inr Z.size);refine aZ (pt p)<|aZ (pt p)<|aZ (pt p)<|aZ (au o)<|aZ (pt p)<|aZ (pt p)<|aZ (pt p)<|aZ (au o)<|aZ (pt p)<|aZ (pt p)<|aZ (pf p 1)<|aZ (pt p)<|aZ (pt p)<|aZ (pt p)<|aZ (pf g1 2)<|aZ (pt p)<|aZ (pt p)<|aZ (pt p)<|Rd (v := .slice M.la (M.n) (M.lc)) (by rfl) (by rfl) (wI _) (fun D C=>bF (x:=Ni (.slice M.la (M.n) (M.lc)) (.slice M.aa (M.an) (M.ac))) rfl rfl (by kernel_rfl) (G.aH.below C (by have:=G.lt; omega)) (i:=0) (by omega) (by omega) rfl) ?_;refine Rs (.slice M.la (M.n) (M.lc)) (aM G.aH 0) ?_;obtain⟨S,J⟩:=m22.addr (by omega);have oZ:Fx.Own qE B 57 1 (bK S M.n M.lc) M.n (Gd M.pl):=m22.fH (K_ (fun q=>Value.slice q M.n M.lc) J);refine Rp (pf S o) (fun _=>dh 1 (hx:=(rfl.trans (K_ (fun q=>Value.slice q (M.n) (M.lc)) J))))<|Rs (pt (M.pl o)) (aM oZ.aH o) ?_;refine Rs (.slice M.aa (M.an) (M.ac)) (aM G.aH 1) ?_;refine Rs (.slice M.la (M.n) (M.lc)) (aM G.aH 0) ?_;refine Rs (.int .u8 (x.other:Int)) (aM mZ.aH 2) ?_;refine Rp (au x.other) (fun D=>dA rfl rfl (by kernel_rfl) Tryd.underlying3 (iT (by omega) rfl))<|Rs (.slice M.la (M.n) (M.lc)) (aM G.aH 0) ?_;refine aZ (au M.n)<|Rp (au A) (fun D=>Fx.zl rfl rfl rfl (by omega) (Gf acV))<|Rp (pf S A) (fun _=>dh 1 (hx:=(rfl.trans (K_ (fun q=>Value.slice q (M.n) (M.lc)) J))))<|Rs (pt (M.pl A)) (aM oZ.aH A) ?_;refine aZ (pt (M.pl A))<|aZ (pt (M.pl A))<|aZ (pf (M.pl A) 12)<|Rs (.agg (aA 6 (rv .u64 ((M.ml A).s.known)))) (fJ oM.aH 12 (fun j W=>kJ _ (by omega) (lD _ W (by omega)))) ?_;refine Dc<|lS (XO (M.ml o) B (M.pl o) T M.aa M.an M.ac M.ev ((M.ml A).s.known) _ oN (d.inv o (by omega)) m23.arr d.wf d.may d.sm han hT) ?_;rintro e9 w3 ⟨t,f,E,hlc,hI3,hL1,hb1⟩;refine⟨(pt t),E,?_⟩;clear E;have s5:=Sb hb1;have⟨qc,lU,m32,og,pV⟩:=qD hb1 G m23 m24 nT oZ;have b5:=b4.then s5 (.inr b4.size);refine Ln ⟨s5.old,?_⟩;refine Rp (pf S o) (fun _=>dh 1 (hx:=(rfl.trans (K_ (fun q=>Value.slice q (M.n) (M.lc)) J))))<|gG<|pR pV o (pt t) fun w4 uf s6 z3 => ?_;have gM:=gK s6 pV.JL;have⟨rP,qM,uq,nD,rY⟩:=qb gM qc lU m32 og hL1;have b6:=b5.then s6 (.inl (.inr (.inl (by rw[J]; rfl))));have rQ:Fx.Own w4 B 57 1 (bK S M.n M.lc) M.n (Gd (aI M.pl o t)):=uf.congr (fun F _=>congrFun Vr F);refine Ln<|bO<|ay<|av (.agg (aA 14 (fun b=>if b<1 then au 0 else if b<8 then aC 0 else if b<9 then .int .u8 (0)else if b<10 then aC 0 else if b<12 then au 0 else aC 0)))<|dZ nD 0 (h1:=(fun F _=>by show((fun b=>if b<1 then au 0 else if b<8 then aC 0 else if b<9 then .int .u8 (0)else if b<10 then aC 0 else if b<12 then au 0 else aC 0:Nat->Value) F).oneCell'=true; simp only[]; repeat (first|rfl|split))) fun w5 pz s7 z4 => ?_
  have rZ:aQ w5 R 14 (fun b=>if b<1 then au 0 else if b<8 then aC 0 else if b<9 then .int .u8 (0)else if b<10 then aC 0 else if b<12 then au 0 else aC 0) 28:=aR pz;have kr:=gK s7 nD.ty;have xB:=jO kr rP;have tK:=qM.bY s7 Fu;have⟨sQ,uV,uy⟩:=Df kr uq rY rQ;have b7:=b6.then s7 (.inr qN);refine aD (Wr (sR (⟨.agg (aA 14 (fun b=>if b<1 then au 0 else if b<8 then aC 0 else if b<9 then .int .u8 (0)else if b<10 then aC 0 else if b<12 then au 0 else aC 0)),rV Tryd.results11 ⟨_,rfl,aU rZ.aH (by kernel_rfl) (by kernel_rfl)⟩,?_⟩)));have wD:Fx.Own w5 B 57 1 (.slice M.la (M.n) (M.lc)) M.n (Gd (aI M.pl o t)):=uy.fH (K_ (fun q=>Value.slice q M.n M.lc) J.symm);exact⟨zeroE,K_ (fun z=>Ending.returned (Value.agg z)) (Fx.dW (y:=bH zeroE) fun j W=>by rcases j with _|_|_|_|_|_|_|_|_|_|_|_|_|_|j <;> first|rfl|omega),Bh,{ M with pl:=aI M.pl o t,ml:=aI M.ml o f },{ c:=xB,l:=wD,a:=tK,g:=sQ.put uV,inv:=(fun i U=>by show Inv (aI M.ml o f i).core _; unfold aI; split; exact hI3; exact(d.inv i U).mono (by omega)),wf:=d.wf,may:=d.may,sm:=d.sm,cz:=d.cz.learn (o:=o) (by omega) (L:=(M.ml o).core) rfl (fun q u=>by show(aI M.ml o f q).s.known=_; unfold aI; rw[b_ u]) (by show(aI M.ml o f o).s.known=_; unfold aI; rw[d_ rfl]; exact K_ fB.known hlc),pB:=hpB,n1:=hn1,n6:=hn6 },(by rw[<- Q]; exact⟨rfl,fun q u=>by show aI M.ml o f q=_; unfold aI; rw[b_ u],.inl ⟨rfl,rfl,rfl,.inr ⟨H,by rw[<- acV]; show(aI M.ml o f o).core=_; unfold aI; rw[d_ rfl]; exact hlc⟩⟩⟩),(by show M.an<=M.an+1; omega),(fun _=>rfl),b7,fun _ h => .inl h⟩
 rw[S_]at H;refine Lv aF (aM Y.aH 1 ((show _=Value.bool x.meet from rfl).trans (K_ Value.bool H)))<|aD<|aL<|Wk<|sN<|ay<|av (pt p)<|Lv (.agg (aA 9 (uR x))) (fJ Y.aH 0)<|lS (OY M B p T x _ m18 hx) ?_;rintro e9 w6 ⟨V,hV,hVs,hVd,E,hb2⟩;refine⟨_,E,?_⟩;clear E;rw[<- Q]at hVd;have s8:=Sb hb2;have⟨sS,sj,sU,xC,uW,oh⟩:=rX hb2 m14 m15 m16 m17 Y m20;have b8:=Z.then s8 (.inr Z.size);refine qC 14 (fun b=>if b<1 then au 0 else if b<8 then aC 0 else if b<9 then .int .u8 (0)else if b<10 then aC 0 else if b<12 then au 0 else aC 0) fun g3 w7 ae tL s9 z5 => ?_;have⟨m64,yY,wE,wR,wK,sV⟩:=rX s9.old sS sj sU xC uW oh;have b9:=b8.then s9 (.inr b8.size);have Bz:=jc ae b8.size;have aoS:=cu ae sS.lt;have Nq:(.slice M.aa (M.an) (M.ac):Value).ownBlock≠some g3:=by rw[ae]; exact sU.mH (z_ _)
 have⟨aoT,aoU⟩:=yT ae uW.lt oh.lt;have IK:=tL.lt;refine dZ tL 0 (h1:=(fD _)) fun w8 uX s10 z6 => ?_;have uz:aQ w8 g3 14 (bH V) 28:=aR uX;have qZ:=gK s10 tL.ty;have⟨vI,tN⟩:=F4 qZ m64 yY;have Ah:=wE.bY s10 Nq;have⟨vJ,yt⟩:=F4 qZ wR wK;have yu:=sV.bY s10 (by omega);have b10:=b9.then s10 (.inr Bz);refine aD<|Ws ?_;have aoV:=vJ o (by omega);refine jS [0,1,2,4,3,5,6,7,8,9,10,11,12,13] [0,0,0,4,0,0,4,4,3,0,0,0,0,0] [(8,3,[6,5,3]),(8,6,[6]),(8,7,[7]),(9,8,[8]),(10,8,[9,8]),(11,8,[9,8]),(12,8,[8]),(13,8,[8])] fun Dl gH nZ => ?_;have s11:Stp w8.heap.size w8 Dl:=Sb gH;have⟨wS,wT,sZ,uY,xD,yw,wF,zw⟩:=lK gH vI tN Ah vJ yt yu uz aoV;have b11:=b10.then s11 (.inr b10.size);refine aZ (pt p)<|aZ (pt p)<|aZ (pt p)<|aZ (au o)<|Rs (.slice M.la (M.n) (M.lc)) (aM wS.aH 0) ?_;obtain⟨Q8,K⟩:=wT.addr (by omega);have yx:Fx.Own Dl B 57 1 (bK Q8 M.n M.lc) M.n (Gd M.pl):=wT.fH (K_ (fun q=>Value.slice q M.n M.lc) K);refine Rp (pf Q8 o) (fun _=>dh 1 (hx:=(rfl.trans (K_ (fun q=>Value.slice q (M.n) (M.lc)) K))))<|Rs (pt (M.pl o)) (aM yx.aH o) ?_;refine Rs (.agg (aA 14 (bH V))) (fJ wF.aH 0) ?_;refine gG<|lS (Ou (M.ml o) B (M.pl o) T V _ zw hV (d.inv o (by omega)).w (by omega)) ?_;rintro e9 w9 ⟨t,f,E,hc3,hL2,hb3⟩;refine⟨.tuple #[(pt t),au (bG (M.ml o).core V)],E,?_⟩;clear E;have s12:=Sb hb3;have⟨zJ,yA,yB,Ai,Ez,Dt,CF⟩:=jw hb3 wS sZ uY xD yw wF yx;have b12:=b11.then s12 (.inr b11.size);refine Ln<|aZ (.tuple #[(pt t),au (bG (M.ml o).core V)])<|aZ (pt t)<|aZ (au (bG (M.ml o).core V))<|aZ (pt t)<|aZ (au (bG (M.ml o).core V))<|bO<|Ws<|ay<|av (au (bG (M.ml o).core V)) ?_;by_cases I:(bG (M.ml o).core V)=0
 ·refine Lv aF (jH I)<|aD<|aL<|Wk<|sN<|ay<|av (pt p)<|av (pt p)<|av (pt p)<|Lv (.slice M.la (M.n) (M.lc)) (aM zJ.aH 0)<|av (au o)<|av (pt t)<|Lv (pf Q8 o) (dh 1 (hx:=(rfl.trans (K_ (fun q=>Value.slice q (M.n) (M.lc)) K))))<|pR CF o (pt t) fun rO CG s13 z7 => ?_;have yX:=gK s13 CF.JL;have⟨Aj,FT,EF,FU,F9,vR,zO⟩:=RH yX zJ yA yB Ai Ez Dt hL2;have b13:=b12.then s13 (.inl (.inr (.inl (by rw[K]; rfl))));have uK:Fx.Own rO B 57 1 (bK Q8 M.n M.lc) M.n (Gd (aI M.pl o t)):=CG.congr (fun F _=>congrFun Vr F);refine aD<|Ws ?_;have sD:Fx.Own rO B 57 1 (.slice M.la (M.n) (M.lc)) M.n (Gd (aI M.pl o t)):=uK.fH (K_ (fun q=>Value.slice q M.n M.lc) K.symm);refine Au [0,1,2,3,4,5,6,7,8,9,10] [0,0,0,0,1,4,2,2,0,0,3] (jl [28]) wX Fx.jl.trans (fT := [(10,4,[4]),(6,5,[5]),(7,5,[6,5]),(10,5,[5]),(7,6,[6]),(8,6,[6]),(9,6,[6]),(10,6,[6]),(8,7,[7]),(9,7,[7]),(10,7,[7])]) (by kernel_rfl) (by kernel_rfl) (by kernel_rfl) (by kernel_rfl) (by kernel_rfl) fun Q0 lJ AB => ?_;have Dm:Stp rO.heap.size rO Q0:=Sb lJ;have⟨nL,nM,qh,qH,qI,sF,vS,sG⟩:=lK lJ Aj FT EF FU F9 vR zO sD;have b14:=b13.then Dm (.inr b13.size);refine aZ (pt p)<|aZ (pt p)<|aZ (pt p)<|aZ (pf p 1)<|Rd (v := .slice M.aa (M.an) (M.ac)) (by rfl) (by rfl) (wX _) (fun D C=>bF (x:=Ni (.slice M.la (M.n) (M.lc)) (.slice M.aa (M.an) (M.ac))) rfl rfl (by kernel_rfl) (nL.kg C (by decide)).aH (i:=1) (by omega) (by omega) rfl) ?_;refine Rs (.agg (aA 14 (bH V))) (fJ sF.aH 0) ?_;refine Dc<|Af (vs := [(0,.agg (aA 14 (bH V)))]) (s:=14) (zc:=fun b=>if b<1 then au 0 else if b<8 then aC 0 else if b<9 then .int .u8 (0)else if b<10 then aC 0 else if b<12 then au 0 else aC 0) (y:=bR (fun j=>(fun b=>if b<1 then au 0 else if b<8 then aC 0 else if b<9 then .int .u8 (0)else if b<10 then aC 0 else if b<12 then au 0 else aC 0) (j % 14)) (0*14) 14 (bH V)) (by rfl) rfl rfl Tryd.underlying59 (by kernel_rfl) (by rfl) (by rfl) (by kernel_rfl) (by rw[bJ (off:=0*14) (s:=14) (y:=bH V) rfl (bL _ _) (by rfl)]; rfl) rfl fun g4 F7 af tO s15 z8 => ?_;have⟨xJ,tQ,za,wM,tT,qj,vT⟩:=jw s15.old nL nM qh qI sF vS sG;have b15:=b14.then s15 (.inr b14.size);have Q7:=jc af b14.size;have Xx:=cu af nL.lt;have Xy:(.slice M.aa (M.an) (M.ac):Value).ownBlock≠some g4:=by rw[af]; exact nM.mH (z_ _)
  have⟨aiH,aiI,Xz⟩:=Dh af qH.lt qI.lt sF.lt;have Qi:=tO.lt;refine Ln ⟨Fx.jl.of_below s15.old,?_⟩;refine Dc<|Ar (B:=B) (s:=14) (bytes:=112) (k:=M.an) (m:=1) (v := .slice M.aa (M.an) (M.ac)) (x:=evX M.ev) (by rfl) rfl rfl rfl Tryd.underlying59 (by kernel_rfl) (by kernel_rfl) rfl rfl tQ tO.aH (yE (fun j=>(show(bH V j).oneCell'=true by unfold bH; repeat (first|rfl|split)))) (by omega) (by omega) (by omega) (m_ hB b15.size) fun N ab Cx ho1 hg1 wJ hlt1 => ?_
  have xA:=Av hg1 tQ;have⟨vU,Dv⟩:=F4 xA xJ za;have EI:=wM.grown hg1 Fu;have aiJ:R≠N:=fun e=>wJ.elim (fun P=>Fu (by rw[e]; exact P)) (fun P=>by have:=wM.lt; omega);have BI:=tT.grown hg1 Nq;have aiK:g3≠N:=fun e=>wJ.elim (fun P=>Nq (by rw[e]; exact P)) (fun P=>by have:=tT.lt; omega);have⟨Dw,Ga⟩:=F4 xA qj vT;have wN:Fx.Own Cx B 28 14 (bK N (M.an+1) ab) (M.an+1) (evX (aI M.ev M.an V)):=(ho1.congr (fun j W=>acS j W));have b16:jM (Wq p M) w Cx:=Fx.jM.grow b15 hg1 (fun q u => .inl (.inr (.inr u)));refine Ln ⟨xA,?_⟩;refine aZ (pt p)<|aZ (pf p 1)<|gG<|iX vU 1 (bK N (M.an+1) ab) fun F8 wO s16 z9 => ?_;have BJ:aQ F8 p 2 (Ni (.slice M.la (M.n) (M.lc)) (bK N (M.an+1) ab)) 61:=wO.congr (agl _ _ _);have BD:=gK s16 vU.ty;have⟨Jb,EJ,Dx,Dy,Gb,AU⟩:=WE BD Dv EI BI Dw Ga wN;have b17:=b16.then s16 (.inl (.inl rfl));refine Ln<|bO<|ay<|Lv (.agg (aA 14 (bH V))) (fJ Dx.aH 0)<|dZ EJ 0 (h1:=(fD _)) fun NY AV Gx z10 => ?_;have AX:aQ NY R 14 (bH V) 28:=aR AV;have Dr:=gK Gx EJ.ty;have BN:=jO Dr Jb;have zQ:=Dx.bY Gx (by omega);have⟨BK,ze⟩:=F4 Dr Dy Gb;have I5:=AU.ZY Gx (by omega);have P9:=jO Dr BJ;have b18:=b17.then Gx (.inr qN);refine aD (Wr (⟨.agg (aA 14 (bH V)),rV Tryd.results11 ⟨_,rfl,aU AX.aH (by kernel_rfl) (by kernel_rfl)⟩,?_⟩));have hinv:Inv f.core (T+3660):=by rw[hc3]; exact(G6 hVs (d.inv o (by omega))).mono (by omega)
  have eRo:aK V=o:=by unfold aK; omega
  have hk3:f.s.known=aI (M.ml o).s.known o ((M.ml o).s.known o+1):=(K_ fB.known hc3).trans (by rw[yN I,eRo]; rfl);exact⟨V,rfl,hV,{ M with pl:=aI M.pl o t,ml:=aI M.ml o f,an:=M.an+1,aa:=some ⟨N,0,none⟩,ac:=ab,ev:=aI M.ev M.an V },{ c:=P9,l:=ze,a:=I5,g:=BN.put BK,inv:=(fun i U=>by show Inv (aI M.ml o f i).core _; unfold aI; split; exact hinv; exact(d.inv i U).mono (by omega)),wf:=(fun k X=>by have hk2:k<M.an+1:=X; show fV (aI M.ev M.an V k); unfold aI; split; exact hV; exact d.wf k (by omega)),may:=(fun k X=>by have hk2:k<M.an+1:=X; show bM (aI M.ev M.an V k)=true; unfold aI; split; exact QJ I; exact d.may k (by omega)),sm:=(fun k X=>by have hk2:k<M.an+1:=X; show nP (aI M.ev M.an V k); unfold aI; split; exact hVs; exact d.sm k (by omega)),cz:=d.cz.event (o:=o) (by omega) (iW I) eRo hVd.2.2 (fun q u=>by show(aI M.ml o f q).s.known=_; unfold aI; rw[b_ u]) (by show(aI M.ml o f o).s.known=_; unfold aI; rw[d_ rfl]; exact hk3),pB:=hpB,n1:=hn1,n6:=hn6 },(by rw[<- Q]; exact⟨rfl,fun q u=>by show aI M.ml o f q=_; unfold aI; rw[b_ u],.inr ⟨H,rfl,rfl,I,by show(aI M.ml o f o).core=_; unfold aI; rw[d_ rfl]; exact hc3,hVd⟩⟩),z_ _,(fun u=>by rw[H]at u; cases u),b18,Yr.app wJ b15.size⟩
 refine Lv aG (mX I)<|aD<|aO<|ay<|av (.agg (aA 14 (fun b=>if b<1 then au 0 else if b<8 then aC 0 else if b<9 then .int .u8 (0)else if b<10 then aC 0 else if b<12 then au 0 else aC 0)))<|dZ Ez 0 (h1:=(fun F _=>by show((fun b=>if b<1 then au 0 else if b<8 then aC 0 else if b<9 then .int .u8 (0)else if b<10 then aC 0 else if b<12 then au 0 else aC 0:Nat->Value) F).oneCell'=true; simp only[]; repeat (first|rfl|split))) fun LK Ud LP z11 => ?_
 have TP:aQ LK R 14 (fun b=>if b<1 then au 0 else if b<8 then aC 0 else if b<9 then .int .u8 (0)else if b<10 then aC 0 else if b<12 then au 0 else aC 0) 28:=aR Ud;have IZ:=gK LP Ez.ty;have TQ:=jO IZ zJ;have abm:=yA.bY LP Fu;have TR:=jO IZ yB;have TS:=Dt.bY LP (by omega);have Qa:=jO IZ CF;have b19:=b12.then LP (.inr qN);refine aD (Wr (sR (⟨.agg (aA 14 (fun b=>if b<1 then au 0 else if b<8 then aC 0 else if b<9 then .int .u8 (0)else if b<10 then aC 0 else if b<12 then au 0 else aC 0)),rV Tryd.results11 ⟨_,rfl,aU TP.aH (by kernel_rfl) (by kernel_rfl)⟩,?_⟩)));have TU:Fx.Own LK B 57 1 (.slice M.la (M.n) (M.lc)) M.n (Gd M.pl):=Qa.fH (K_ (fun q=>Value.slice q M.n M.lc) K.symm);exact⟨zeroE,K_ (fun z=>Ending.returned (Value.agg z)) (Fx.dW (y:=bH zeroE) fun j W=>by rcases j with _|_|_|_|_|_|_|_|_|_|_|_|_|_|j <;> first|rfl|omega),Bh,M,{ c:=TQ,l:=TU,a:=abm,g:=TR,inv:=fun i U=>(d.inv i U).mono (by omega),wf:=d.wf,may:=d.may,sm:=d.sm,cz:=d.cz,pB:=hpB,n1:=hn1,n6:=hn6 },⟨rfl,fun _ _=>rfl,.inl ⟨rfl,rfl,rfl,.inl rfl⟩⟩,by omega,(fun _=>rfl),b19,fun _ h => .inl h⟩
theorem agS(M:WM)(B p T:Nat)(x:Aa)(w:World)(c:nW w B p M T)(b:B<=w.heap.size)(hx:xS x)(o:M.an<=60)(m:T<=890000) :
 Calls Tryd.prog 11 #[(pt p),.agg (aA 9 (uR x))] w fun e d => ∃ v,e = .returned (.agg (aA 14 (bH v)))/\fV v /\ ∃ a,nW d B p a (T+3660)/\DoR (x.who % M.n) x M a v/\a.an<=M.an+1/\(x.meet=true->a.an=M.an)/\Below B w d :=
 (agQ M B p T x w c b hx o m).mono fun _ _ ⟨v,f,g,a,h,i,j,k,l,_⟩=>⟨v,f,g,a,h,i,j,k,c.xR b l⟩
end Go.Proofs.YtahbiajdgealnaaDoor
namespace Go.Proofs.YtahbiajdgealnaaDoor
open Go.RowKit Go.WideShapes Go.ChangeShapes Go.Deep Rt
def Vx:Value->Bool | .bool b=>b|_=>false
theorem OU.int{k:IntKind}{v:Value}(h:OU (some k) v):v = .int k (intOf v)/\(Lit.int k (intOf v)).wf=true:=by
 obtain⟨n,rfl,a⟩:=h; exact⟨rfl,a⟩
theorem OU.bool{v:Value}(h:OU none v):v = .bool (Vx v):=by
 obtain⟨b,rfl⟩:=h; rfl
theorem wf_u8{n:Int}(h:(Lit.int .u8 n).wf=true):0<=n/\n<=255:=by simp[Lit.wf,IntKind.min,IntKind.max,IntKind.bits,IntKind.signed]at h; omega
theorem wf_u16{n:Int}(h:(Lit.int .u16 n).wf=true):0<=n/\n<=65535:=by simp[Lit.wf,IntKind.min,IntKind.max,IntKind.bits,IntKind.signed]at h; omega
theorem Vy{n:Int}(h:(Lit.int .u8 n).wf=true) : ∃ m:Nat,n=(m:Int)/\m<=255:=by
 have:=wf_u8 h; exact⟨n.toNat,by omega,by omega⟩
theorem Fx.nY.congr{w:World}{a:Option Addr}{n s:Nat}{x y:Nat->Value}(h:Fx.nY w a n s x)(e : ∀ p,p<n*s->x p=y p):Fx.nY w a n s y:=fun f=>by
 obtain⟨b,j,d,g⟩:=h f;exact⟨b,j,d,fun i c=>by rw[<- e i c]; exact g i c⟩
def Hy:List (Option IntKind) := [some .u8,none,some .u8,some .u8,some .u8,some .u8,some .u16,some .u8,some .u8]
def Vz(X:Nat->Value):Aa:=⟨(intOf (X 0)).toNat,Vx (X 1),(intOf (X 2)).toNat,(intOf (X 3)).toNat,(intOf (X 4)).toNat,(intOf (X 5)).toNat,(intOf (X 6)).toNat,(intOf (X 7)).toNat,(intOf (X 8)).toNat⟩
theorem FD{X:Nat->Value}(h : ∀(j:Nat) (k:Option IntKind),Hy[j]? = some k->OU k (X j)):xS (Vz X) /\ ∀ j,j<9->X j=uR (Vz X) j:=by
 have a : ∀ j,Hy[j]? = some (some .u8)->X j = .int .u8 ((intOf (X j)).toNat:Int)/\(intOf (X j)).toNat<=255:=fun j d=>by
  obtain⟨e,b⟩:=(h j _ d).int;have:=wf_u8 b;exact⟨by rw[Int.toNat_of_nonneg this.1]; exact e,by omega⟩
 have c:X 6 = .int .u16 ((intOf (X 6)).toNat:Int)/\(intOf (X 6)).toNat<=65535:=by
  obtain⟨e,b⟩:=(h 6 (some .u16) rfl).int;have:=wf_u16 b;exact⟨by rw[Int.toNat_of_nonneg this.1]; exact e,by omega⟩
 refine⟨⟨(a 0 rfl).2,(a 2 rfl).2,(a 3 rfl).2,(a 4 rfl).2,(a 5 rfl).2,c.2,(a 7 rfl).2,(a 8 rfl).2⟩,fun j d => ?_⟩
 rcases j with _|_|_|_|_|_|_|_|_|j
 ·exact(a 0 rfl).1
 ·exact(h 1 none rfl).bool
 ·exact(a 2 rfl).1
 ·exact(a 3 rfl).1
 ·exact(a 4 rfl).1
 ·exact(a 5 rfl).1
 ·exact c.1
 ·exact(a 7 rfl).1
 ·exact(a 8 rfl).1
 omega
section
variable {H:Type} {enc:TypeId × Value->H} {P:Program} {w:World}
theorem QK{t e:TypeId}{a:Option Addr}{len cap D:Nat}{d:DataW H}{r:List MemPlace}(q:P.underlying t=some (.slice e))(b:wh P D e=some Hy)(l:P.cellsOf e=9)
 (h:DataW.Trod enc P w 0 (fun _=>true) true t (.slice a len cap) d r) : ∃ g:Nat->Aa,(∀ i,i<len->xS (g i))/\Fx.nY w a len 9 (Fx.flat 9 fun k=>uR (g k)):=by
 obtain⟨v,n⟩:=h;obtain⟨s,x,u,f,_,_,X,c,m⟩:=QF q b l (by decide) n;simp[Value.cells]at f;obtain⟨rfl,rfl,rfl⟩:=f;exact⟨fun i=>Vz (X i),fun i o=>(FD (c i o)).1,m.congr (Fx.bP fun k b j p=>(FD (c k b)).2 j p)⟩
end
end Go.Proofs.YtahbiajdgealnaaDoor
namespace Go.Proofs.YtahbiajdgealnaaDoor
open Go.RowKit Rt
open Fx (fI fq fP bF gX gW dA dY gP jE eZ jF gy jv jG Lv sN Ln Ws Qv Wl Rp Wc Qs Wr Sb Lk Wk rC rV sR Rs Rn Rd Rk Wb Wx Wo FQ Wt rT K4 Qn F3 Bl Af Ar DI Ei rM gK Av mV wI uT wX xX Aq DL Au rv aA aQ bR aN ev bZ Stp dJ aR flat dD Mp fA aU iR iQ bJ down iI jM iT nY bP bL cells_one jl bS wQ unseen jN iK bX dH bI bT cK cO gU iB qo gu)
set_option maxRecDepth 20000
set_option linter.unusedVariables false
theorem Fx.aQ.RI{w w':World}{B g n:Nat}{x:Nat->Value}{T:TypeId}(h:aQ w g n x T)(a:Below B w w')(b:g<B):aQ w' g n x T:=(a.block g b).trans h
theorem acW{B:Nat}{a b c:World}(h:Below a.heap.size a b)(e:Below B b c)(d:a.heap.size<=B):Below a.heap.size a c:=h.trans (e.mono d)
theorem uZ.uj{w w':World}{B p:Nat}{m:lH}{e:List TypeId}(h:uZ w B p m)(b:Fx.yU e w w')(k:(Kv.all fun T => !e.contains T)=true):uZ w' B p m:=by
 have a : ∀ d∈Kv,e.contains d=false:=fun d f=>by
  have:=List.all_eq_true.1 k d f
  simpa using this
 exact { h with
  c:=h.c.uj b (a _ (by decide)),n:=h.n.uj b (a _ (by decide)),g:=h.g.uj b (a _ (by decide)),tc:=h.tc.uj b (a _ (by decide)),t:=h.t.uj b (a _ (by decide)),r:=⟨fun i j=>(h.r.1 i j).uj b (a _ (by decide)),h.r.2⟩ }
section
set_option linter.unusedVariables false
namespace Rt
structure Ab where
 inn:Nat->Bool
 left:Nat->Bool
 own:Nat->Int
 has:Int->Bool
 par:Int->Int
 R:Int->Nat->Int
 gh:Int->Int->Bool
 g:Int->Int->Nat->Int
 ask:Int->Int->Bool
def Ab.up(A:Ab)(x:Int):Nat->Int
 | 0=>x
 | i+1=>A.par (A.up x i)
def Ab.on(A:Ab)(x y:Int):Bool:=A.has y&&(List.range 6).any fun i=>decide (A.up x i=y)
def rH(v:EvM):Int:=iY v.o v.seq
def aV(v:EvM):Nat:=(v.o-1).toNat
def dV(v:EvM):Nat:=(v.dst-1).toNat
def Ab.dl(A:Ab)(v:EvM)(y:Int)(p:Nat):Int :=
 if v.kind=1 then(if y=rH v/\p=aV v then v.aT else 0)
 else if v.kind=2 then(if y=v.node/\p=aV v then v.aT else 0)
 else if v.kind=3 then(if A.on v.node y=true/\p=6+aV v then v.aT else 0)
 else if v.kind=4 then(if A.on (A.g v.o v.of 2) y=true/\p=12+aV v then A.g v.o v.of 3 else 0)
 else if v.kind=5 then(if y=v.node/\p=18+(6*aV v+dV v)then v.aT else 0)
 else 0
def Ab.qV(A:Ab)(v:EvM):Ab where
 inn:=fun j=>A.inn j || (decide (v.kind=6)&&decide (j=dV v))
 left:=fun j=>A.left j || (decide (v.kind=7)&&decide (j=aV v))
 own:=fun j=>A.own j+if v.kind=1/\j=aV v then 1 else 0
 has:=fun y=>A.has y || (decide (v.kind=1)&&decide (y=rH v))
 par:=fun y=>if v.kind=1/\y=rH v then v.node else A.par y
 R:=fun y p=>A.R y p+A.dl v y p
 gh:=fun o r=>A.gh o r || (decide (v.kind=3)&&(decide (o=v.o)&&decide (r=v.req)))
 g:=fun o r j=>if v.kind=3/\o=v.o/\r=v.req then(if j=2 then v.node else if j=3 then v.aT else 0)else if v.kind=4/\o=v.o/\r=v.of/\j=4 then v.req else A.g o r j
 ask:=fun o r=>A.ask o r || ((decide (v.kind=3) || decide (v.kind=4))&&(decide (o=v.o)&&decide (r=v.req)))
structure Ab.Ok(A:Ab):Prop where
 z:A.has 0=false
 p : ∀ y,A.has y=true->A.par y=0\/A.has (A.par y)=true
 p0 : ∀ y,A.has y=false->A.par y=0
 g : ∀ o r,A.gh o r=true->A.has (A.g o r 2)=true
 r0 : ∀ y p,A.has y=false->A.R y p=0
structure Ab.Pre(A:Ab)(v:EvM):Prop where
 n1:v.kind=1->A.has (rH v)=false/\rH v≠0/\(v.node=0\/A.has v.node=true)
 n2:v.kind=2->A.has v.node=true
 n3:v.kind=3->A.has v.node=true/\A.gh v.o v.req=false
 n4:v.kind=4->A.gh v.o v.of=true
 n5:v.kind=5->A.has v.node=true
section
variable {A B:Ab} {u v:EvM} {y:Int}
theorem Ab.HY(h:A.Ok){x:Int}(hx:A.has x=true) : ∀ i,A.up x i=0\/A.has (A.up x i)=true
 | 0 => .inr hx
 | i+1=>by
   show A.par (A.up x i)=0\/A.has (A.par (A.up x i))=true
   rcases Ab.HY h hx i with e|e
   ·left; rw[e]; exact h.p0 0 h.z
   ·exact h.p _ e
theorem Ab.Bj(hy:A.has y=true):(A.qV v).has y=true:=by show(A.has y || _)=true; rw[hy]; rfl
theorem Ab.O1(c:A.Pre v)(hy:A.has y=true):(A.qV v).par y=A.par y:=by
 show(if v.kind=1/\y=rH v then v.node else A.par y)=A.par y;rw[b_];rintro ⟨a,b⟩;have:=(c.n1 a).1;rw[<- b,hy]at this; cases this
theorem Ab.VA(c:A.Pre v):(A.qV v).par 0=A.par 0:=by
 show(if v.kind=1/\(0:Int)=rH v then v.node else A.par 0)=A.par 0;rw[b_];rintro ⟨a,b⟩;exact(c.n1 a).2.1 b.symm
theorem Ab.VB(h:A.Ok)(a:A.Pre v){x:Int}(hx:A.has x=true) : ∀ i,(A.qV v).up x i=A.up x i
 | 0=>rfl
 | i+1=>by
   show(A.qV v).par ((A.qV v).up x i)=A.par (A.up x i);rw[Ab.VB h a hx i]
   rcases Ab.HY h hx i with e|e
   ·rw[e]; exact Ab.VA a
   ·exact Ab.O1 a e
theorem Ab.VD(h:A.Ok)(b:A.Pre v){x:Int}(hx:A.has x=true)(y:Int):(A.qV v).on x y=A.on x y:=by
 unfold Ab.on;have e:((List.range 6).any fun i=>decide ((A.qV v).up x i=y))=((List.range 6).any fun i=>decide (A.up x i=y)):=by
  congr 1; funext i; rw[Ab.VB h b hx i]
 rw[e]
 cases hc:(List.range 6).any fun i=>decide (A.up x i=y)
 ·rw[H_,H_]
 rw[Bool.and_true,Bool.and_true];obtain⟨i,_,a⟩:=List.any_eq_true.1 hc;have a:=h_ a;show(A.has y || (decide (v.kind=1)&&decide (y=rH v)))=A.has y
 cases hy:A.has y
 ·rcases Ab.HY h hx i with e0|e0
  ·rw[a]at e0
   cases c1:decide (v.kind=1)
   ·rfl
   have:=(b.n1 (h_ c1)).2.1;rw[g_ (show ¬ y=rH v by rw[e0]; exact fun q=>this q.symm)]; rfl
  rw[a,hy]at e0; cases e0
 rfl
theorem Ab.Lj(f:A.Pre v){o r:Int}(d:A.gh o r=true)(j:Nat)(e:j≠4):(A.qV v).g o r j=A.g o r j:=by
 show(if v.kind=3/\o=v.o/\r=v.req then(if j=2 then v.node else if j=3 then v.aT else 0)else if v.kind=4/\o=v.o/\r=v.of/\j=4 then v.req else A.g o r j)=A.g o r j;rw[b_,b_]
 ·exact fun q=>e q.2.2.2
 rintro ⟨a,b,c⟩;have:=(f.n3 a).2;rw[<- b,<- c,d]at this; cases this
theorem Ab.acX{o r:Int}(a:A.gh o r=true):(A.qV v).gh o r=true:=by show(A.gh o r || _)=true; rw[a]; rfl
theorem Ab.acY(h:A.Ok)(b:A.Pre v):(A.qV v).Ok where
 z:=by
  show(A.has 0 || (decide (v.kind=1)&&decide ((0:Int)=rH v)))=false;rw[h.z,Bool.false_or]
  cases c1:decide (v.kind=1)
  ·rfl
  ·rw[g_ (fun q=>(b.n1 (h_ c1)).2.1 q.symm)]; rfl
 p:=fun y a=>by
  have a:(A.has y || (decide (v.kind=1)&&decide (y=rH v)))=true:=a;show(if v.kind=1/\y=rH v then v.node else A.par y)=0\/(A.qV v).has (if v.kind=1/\y=rH v then v.node else A.par y)=true;by_cases c:v.kind=1/\y=rH v
  ·rw[d_ c];exact(b.n1 c.1).2.2.imp id Ab.Bj
  ·rw[b_ c];have u:A.has y=true:=by
    rcases Bool.or_eq_true_iff.1 a with q|q
    ·exact q
    ·rw[R_]at q; exact L_ ⟨h_ q.1,h_ q.2⟩ c
   exact(h.p y u).imp id Ab.Bj
 p0:=fun y a=>by
  have a:(A.has y || (decide (v.kind=1)&&decide (y=rH v)))=false:=a;rw[Bool.or_eq_false_iff]at a;show(if v.kind=1/\y=rH v then v.node else A.par y)=0;rw[b_]
  ·exact h.p0 y a.1
  ·rintro ⟨s,t⟩;rw[f_ s,f_ t]at a; cases a.2
 g:=fun o r d=>by
  have d:(A.gh o r || (decide (v.kind=3)&&(decide (o=v.o)&&decide (r=v.req))))=true:=d;by_cases c:v.kind=3/\o=v.o/\r=v.req
  ·have:(A.qV v).g o r 2=v.node:=(by show(if v.kind=3/\o=v.o/\r=v.req then _ else _)=v.node; rw[d_ c]; rfl);rw[this]; exact Ab.Bj (b.n3 c.1).1
  ·have k:A.gh o r=true:=by
    rcases Bool.or_eq_true_iff.1 d with q|q
    ·exact q
    ·rw[R_,R_]at q; exact L_ ⟨h_ q.1,h_ q.2.1,h_ q.2.2⟩ c
   rw[Ab.Lj b k 2 (by decide)];exact Ab.Bj (h.g o r k)
 r0:=fun y p a=>by
  have a:(A.has y || (decide (v.kind=1)&&decide (y=rH v)))=false:=a;rw[Bool.or_eq_false_iff]at a;show A.R y p+A.dl v y p=0;rw[h.r0 y p a.1,Int.zero_add];have l : ∀ x,A.on x y=false:=fun x=>by unfold Ab.on; rw[a.1]; rfl
  unfold Ab.dl;by_cases f:v.kind=1
  ·rw[d_ f,b_];rintro ⟨e,_⟩; rw[f_ f,f_ e]at a; cases a.2
  rw[b_ f];by_cases i:v.kind=2
  ·rw[d_ i,b_];rintro ⟨e,_⟩; rw[e,b.n2 i]at a; cases a.1
  rw[b_ i];by_cases m:v.kind=3
  ·rw[d_ m,b_]; rw[l]; exact fun q=>by cases q.1
  rw[b_ m];by_cases n:v.kind=4
  ·rw[d_ n,b_]; rw[l]; exact fun q=>by cases q.1
  rw[b_ n];by_cases j:v.kind=5
  ·rw[d_ j,b_];rintro ⟨e,_⟩; rw[e,b.n5 j]at a; cases a.1
  rw[b_ j]
theorem Ab.VE(h:A.Ok)(c:A.Pre u)(i:A.Pre v)(y:Int)(p:Nat):(A.qV u).dl v y p=A.dl v y p:=by
 unfold Ab.dl;by_cases d:v.kind=1
 ·rw[d_ d,d_ d]
 rw[b_ d,b_ d];by_cases e:v.kind=2
 ·rw[d_ e,d_ e]
 rw[b_ e,b_ e];by_cases a:v.kind=3
 ·rw[d_ a,d_ a,Ab.VD h c (i.n3 a).1]
 rw[b_ a,b_ a];by_cases b:v.kind=4
 ·have f:=i.n4 b;rw[d_ b,d_ b,Ab.Lj c f 2 (by decide),Ab.Lj c f 3 (by decide),Ab.VD h c (h.g _ _ f)]
 rw[b_ b,b_ b]
theorem Ab.QL(h1:A.inn=B.inn)(a:A.left=B.left)(b:A.own=B.own)(c:A.has=B.has)(d:A.par=B.par)(e:A.R=B.R)(f:A.gh=B.gh)(h:A.g=B.g)(i:A.ask=B.ask):A=B:=by
 cases A; cases B; simp only at h1 a b c d e f h i; subst h1 a b c d e f h i; rfl
theorem Ab.VF(h:A.Ok)(b:A.Pre u)(d:A.Pre v)(k:u.o≠v.o)(i:u.kind=1->v.kind=1->rH u≠rH v):(A.qV u).qV v=(A.qV v).qV u:=by
 apply Ab.QL
 ·funext j; exact Bool.or_right_comm _ _ _
 ·funext j; exact Bool.or_right_comm _ _ _
 ·funext j; exact Int.add_right_comm _ _ _
 ·funext y; exact Bool.or_right_comm _ _ _
 ·funext y
  show(if v.kind=1/\y=rH v then v.node else if u.kind=1/\y=rH u then u.node else A.par y)=(if u.kind=1/\y=rH u then u.node else if v.kind=1/\y=rH v then v.node else A.par y);by_cases c:v.kind=1/\y=rH v
  ·rw[d_ c,d_ c,b_];rintro ⟨e,f⟩;exact i e c.1 (f.symm.trans c.2)
  rw[b_ c,b_ c]
 ·funext y p
  show A.R y p+A.dl u y p+(A.qV u).dl v y p=A.R y p+A.dl v y p+(A.qV v).dl u y p;rw[Ab.VE h b d,Ab.VE h d b,Int.add_right_comm]
 ·funext o r; exact Bool.or_right_comm _ _ _
 ·funext o r j
  show(if v.kind=3/\o=v.o/\r=v.req then _ else if v.kind=4/\o=v.o/\r=v.of/\j=4 then v.req else if u.kind=3/\o=u.o/\r=u.req then _ else if u.kind=4/\o=u.o/\r=u.of/\j=4 then u.req else A.g o r j) =
   (if u.kind=3/\o=u.o/\r=u.req then _ else if u.kind=4/\o=u.o/\r=u.of/\j=4 then u.req else if v.kind=3/\o=v.o/\r=v.req then _ else if v.kind=4/\o=v.o/\r=v.of/\j=4 then v.req else A.g o r j)
  by_cases c:o=v.o
  ·have a : ¬ o=u.o:=fun q=>k (q.symm.trans c);rw[b_ (show ¬ (u.kind=3/\o=u.o/\r=u.req)from fun q=>a q.2.1),b_ (show ¬ (u.kind=4/\o=u.o/\r=u.of/\j=4)from fun q=>a q.2.1),b_ (show ¬ (u.kind=3/\o=u.o/\r=u.req)from fun q=>a q.2.1),b_ (show ¬ (u.kind=4/\o=u.o/\r=u.of/\j=4)from fun q=>a q.2.1)]
  rw[b_ (show ¬ (v.kind=3/\o=v.o/\r=v.req)from fun q=>c q.2.1),b_ (show ¬ (v.kind=4/\o=v.o/\r=v.of/\j=4)from fun q=>c q.2.1),b_ (show ¬ (v.kind=3/\o=v.o/\r=v.req)from fun q=>c q.2.1),b_ (show ¬ (v.kind=4/\o=v.o/\r=v.of/\j=4)from fun q=>c q.2.1)]
 funext o r; exact Bool.or_right_comm _ _ _
end
end Rt
end
section
set_option linter.unusedVariables false
namespace Rt
def Cm(x:Nat->Int)(a:Nat):Int:=x a-x (6+a)+x (12+a)+(x (18+(6*0+a))+x (18+(6*1+a))+x (18+(6*2+a))+x (18+(6*3+a))+x (18+(6*4+a))+x (18+(6*5+a)))-(x (18+(6*a+0))+x (18+(6*a+1))+x (18+(6*a+2))+x (18+(6*a+3))+x (18+(6*a+4))+x (18+(6*a+5)))
structure Ab.QM(A:Ab)(v:EvM):Prop where
 inn:A.inn (aV v)=true
 left:A.left (aV v)=false
 pre:A.Pre v
 k1:v.kind=1->A.own (aV v)<5/\v.aT<=140737488355328 /\ ¬ ∀ i,i<4->A.has (A.up v.node i)=true
 k2:v.kind=2->A.R v.node (aV v)+v.aT<=140737488355328
 k3:v.kind=3->A.ask v.o v.req=false /\ ∀ y,A.on v.node y=true->v.aT<=Cm (A.R y) (aV v)
 k4:v.kind=4->A.ask v.o v.req=false/\A.g v.o v.of 4=0 /\ ∀ y,A.on (A.g v.o v.of 2) y=true->A.g v.o v.of 3<=A.R y (6+aV v)-A.R y (12+aV v)
 k5:v.kind=5->A.inn (dV v)=true/\v.aT<=Cm (A.R v.node) (aV v)
def agT(a p:Nat):Prop:=p=a\/p=6+a\/p=12+a \/ ∃ k,k<6/\p=18+(6*a+k)
structure Ab.Le(A B:Ab)(a:Nat):Prop where
 inn : ∀ j,A.inn j=true->B.inn j=true
 left:B.left a=A.left a
 own:B.own a=A.own a
 has : ∀ y,A.has y=true->B.has y=true
 hid : ∀ s,1<=s/\s<1099511627776->B.has (iY ((a:Int)+1) s)=A.has (iY ((a:Int)+1) s)
 par : ∀ y,A.has y=true->B.par y=A.par y
 R1 : ∀ y p,A.has y=true->agT a p->B.R y p=A.R y p
 R2 : ∀ y k,A.has y=true->k<6->A.R y (18+(6*k+a))<=B.R y (18+(6*k+a))
 gh : ∀ o r,A.gh o r=true->B.gh o r=true /\ ∀ j,j≠4->B.g o r j=A.g o r j
 gho : ∀ r,B.gh ((a:Int)+1) r=A.gh ((a:Int)+1) r
 go : ∀ r,B.g ((a:Int)+1) r 4=A.g ((a:Int)+1) r 4
 ask : ∀ r,B.ask ((a:Int)+1) r=A.ask ((a:Int)+1) r
structure O4(v:EvM):Prop where
 o:1<=v.o/\v.o<=6
 seq:1<=v.seq/\v.seq<1099511627776
 aT:0<=v.aT
 dst:v.kind=5->1<=v.dst/\v.dst<=6
section
variable {A B:Ab} {u v:EvM} {a:Nat} {x y:Int}
theorem O4.reg(h:O4 v):v.o=(aV v:Int)+1/\aV v<6:=by have:=h.o; unfold aV; omega
theorem O4.id(h:O4 v):rH v=1099511627776*v.o+v.seq:=by
 unfold rH iY; rw[d_ ⟨h.o.1,h.o.2,h.seq.1,h.seq.2⟩]
theorem O4.ne(a:O4 u)(b:O4 v)(h:u.o≠v.o):rH u≠rH v:=by
 rw[a.id,b.id]; have:=a.seq; have:=b.seq; have:=a.o; have:=b.o; omega
theorem Ab.Le.refl(A:Ab)(a:Nat):A.Le A a:=⟨fun _ h=>h,rfl,rfl,fun _ h=>h,fun _ _=>rfl,fun _ _=>rfl,fun _ _ _ _=>rfl,fun _ _ _ _=>M_ _,fun _ _ h=>⟨h,fun _ _=>rfl⟩,fun _=>rfl,fun _=>rfl,fun _=>rfl⟩
theorem Ab.Le.up(h:A.Le B a)(b:A.Ok)(c:B.Ok)(hx:A.has x=true) : ∀ i,B.up x i=A.up x i
 | 0=>rfl
 | i+1=>by
   show B.par (B.up x i)=A.par (A.up x i);rw[h.up b c hx i]
   rcases Ab.HY b hx i with e|e
   ·rw[e,b.p0 0 b.z,c.p0 0 c.z]
   ·exact h.par _ e
theorem Ab.Le.on(h:A.Le B a)(c:A.Ok)(d:B.Ok)(hx:A.has x=true)(y:Int):B.on x y=A.on x y:=by
 unfold Ab.on;have e:((List.range 6).any fun i=>decide (B.up x i=y))=((List.range 6).any fun i=>decide (A.up x i=y)):=by
  congr 1; funext i; rw[h.up c d hx i]
 rw[e]
 cases hc:(List.range 6).any fun i=>decide (A.up x i=y)
 ·rw[H_,H_]
 rw[Bool.and_true,Bool.and_true];obtain⟨i,_,b⟩:=List.any_eq_true.1 hc;have b:=h_ b
 rcases Ab.HY c hx i with e0|e0
 ·rw[b]at e0; rw[e0,c.z,d.z]
 rw[b]at e0; rw[e0,h.has _ e0]
theorem Ab.Nr(h:A.on x y=true):A.has y=true:=by unfold Ab.on at h; rw[R_]at h; exact h.1
theorem Ab.Le.loc(h:A.Le B a)(ha:a<6)(hy:A.has y=true):Cm (A.R y) a<=Cm (B.R y) a:=by
 have o : ∀ k,k<6->B.R y (18+(6*a+k))=A.R y (18+(6*a+k)):=fun k b=>h.R1 y _ hy (.inr (.inr (.inr ⟨k,b,rfl⟩)));unfold Cm;rw[h.R1 y a hy (.inl rfl),h.R1 y (6+a) hy (.inr (.inl rfl)),h.R1 y (12+a) hy (.inr (.inr (.inl rfl))),o 0 (by omega),o 1 (by omega),o 2 (by omega),o 3 (by omega),o 4 (by omega),o 5 (by omega)];have:=h.R2 y 0 hy (by omega); have:=h.R2 y 1 hy (by omega); have:=h.R2 y 2 hy (by omega); have:=h.R2 y 3 hy (by omega); have:=h.R2 y 4 hy (by omega); have:=h.R2 y 5 hy (by omega);omega
theorem Ab.Le.okE(h:A.Le B (aV v))(l:A.Ok)(m:B.Ok)(t:O4 v)(a:A.QM v):B.QM v:=by
 obtain⟨c,p⟩:=t.reg;have P:=a.pre;have w : ∀ r,B.gh v.o r=A.gh v.o r:=fun r=>by rw[c]; exact h.gho r
 have s : ∀ r,B.ask v.o r=A.ask v.o r:=fun r=>by rw[c]; exact h.ask r
 refine⟨h.inn _ a.inn,h.left.trans a.left,⟨fun k => ?_,fun k=>h.has _ (P.n2 k),fun k=>⟨h.has _ (P.n3 k).1,(w _).trans (P.n3 k).2⟩,fun k=>(w _).trans (P.n4 k),fun k=>h.has _ (P.n5 k)⟩,fun k => ?_,fun k => ?_,fun k => ?_,fun k => ?_,fun k=>⟨h.inn _ (a.k5 k).1,Q_ (a.k5 k).2 (h.loc p (P.n5 k))⟩⟩
 ·obtain⟨d,f,j⟩:=P.n1 k;refine⟨?_,f,j.imp (fun q=>q) (h.has _)⟩;have:=h.hid v.seq t.seq;rw[<- c]at this;exact this.trans d
 ·obtain⟨d,f,j⟩:=a.k1 k;refine⟨by rw[h.own]; exact d,f,fun q=>j fun i x => ?_⟩;have n:=q i x
  rcases(P.n1 k).2.2 with e|e
  ·exfalso;have:B.up v.node 0=0:=e;have:=q 0 (by omega);rw[‹B.up v.node 0=0›,m.z]at this; cases this
  rw[h.up l m e i]at n
  rcases Ab.HY l e i with e0|e0
  ·rw[e0,m.z]at n; cases n
  exact e0
 ·rw[h.R1 _ _ (P.n2 k) (.inl rfl)]; exact a.k2 k
 ·refine⟨(s _).trans (a.k3 k).1,fun y b => ?_⟩;rw[h.on l m (P.n3 k).1]at b;exact Q_ ((a.k3 k).2 y b) (h.loc p (Ab.Nr b))
 obtain⟨d,f,j⟩:=a.k4 k;have u:=(h.gh _ _ (P.n4 k)).2;refine⟨(s _).trans d,by rw[c,h.go,<- c]; exact f,fun y b => ?_⟩;rw[u 2 (by decide),h.on l m (l.g _ _ (P.n4 k))]at b;rw[u 3 (by decide),h.R1 _ _ (Ab.Nr b) (.inr (.inl rfl)),h.R1 _ _ (Ab.Nr b) (.inr (.inr (.inl rfl)))];exact j y b
end
end Rt
end
section
set_option linter.unusedVariables false
namespace Rt
section
variable {A B:Ab} {u v:EvM} {a:Nat} {x y:Int}
theorem Ab.Le.dl(h:A.Le B a)(f:A.Ok)(j:B.Ok)(i:A.Pre u)(y:Int)(p:Nat):B.dl u y p=A.dl u y p:=by
 unfold Ab.dl;by_cases d:u.kind=1
 ·rw[d_ d,d_ d]
 rw[b_ d,b_ d];by_cases e:u.kind=2
 ·rw[d_ e,d_ e]
 rw[b_ e,b_ e];by_cases c:u.kind=3
 ·rw[d_ c,d_ c,h.on f j (i.n3 c).1]
 rw[b_ c,b_ c];by_cases b:u.kind=4
 ·have k:=h.gh _ _ (i.n4 b);rw[d_ b,d_ b,k.2 2 (by decide),k.2 3 (by decide),h.on f j (f.g _ _ (i.n4 b))]
 rw[b_ b,b_ b]
theorem or_mono{p q c:Bool}(h:p=true->q=true)(a:(p || c)=true):(q || c)=true:=by
 cases c
 ·rw[G_]at a ⊢; exact h a
 rw[Bool.or_true]
theorem Ab.Le.both(h:A.Le B a)(f:A.Ok)(i:B.Ok)(n:A.Pre u)(w:B.Pre u):(A.qV u).Le (B.qV u) a:=by
 have m : ∀ y,(A.qV u).has y=true->A.has y=true\/(A.has y=false/\B.has y=false/\u.kind=1/\y=rH u):=fun y b=>by
  have b:(A.has y || (decide (u.kind=1)&&decide (y=rH u)))=true:=b
  cases hc:A.has y
  ·right;rw[hc,Bool.false_or,R_]at b;have k:=h_ b.1; have e:=h_ b.2;exact⟨rfl,e ▸ (w.n1 k).1,k,e⟩
  ·exact .inl rfl
 refine⟨fun j d=>or_mono (h.inn j) d,?_,?_,fun y b=>or_mono (h.has y) b,fun s x => ?_,fun y b => ?_,fun y p b v => ?_,fun y k b t => ?_,fun o r l=>⟨or_mono (fun q=>(h.gh o r q).1) l,fun j d => ?_⟩,fun r => ?_,fun r => ?_,fun r => ?_⟩
 ·show(B.left a || _)=(A.left a || _); rw[h.left]
 ·show B.own a+_=A.own a+_; rw[h.own]
 ·show(B.has _ || _)=(A.has _ || _); rw[h.hid s x]
 ·show(if u.kind=1/\y=rH u then u.node else B.par y)=(if u.kind=1/\y=rH u then u.node else A.par y)
  rcases m y b with q|⟨_,_,k,e⟩
  ·rw[h.par y q]
  rw[d_ ⟨k,e⟩,d_ ⟨k,e⟩]
 ·show B.R y p+B.dl u y p=A.R y p+A.dl u y p;rw[h.dl f i n]
  rcases m y b with q|⟨q1,q2,_,_⟩
  ·rw[h.R1 y p q v]
  rw[f.r0 y p q1,i.r0 y p q2]
 ·show A.R y _+A.dl u y _<=B.R y _+B.dl u y _;rw[h.dl f i n]
  rcases m y b with q|⟨q1,q2,_,_⟩
  ·have:=h.R2 y k q t; omega
  rw[f.r0 y _ q1,i.r0 y _ q2]; exact M_ _
 ·show(if u.kind=3/\o=u.o/\r=u.req then(if j=2 then u.node else if j=3 then u.aT else 0)else if u.kind=4/\o=u.o/\r=u.of/\j=4 then u.req else B.g o r j)=(if u.kind=3/\o=u.o/\r=u.req then(if j=2 then u.node else if j=3 then u.aT else 0)else if u.kind=4/\o=u.o/\r=u.of/\j=4 then u.req else A.g o r j);by_cases c:u.kind=3/\o=u.o/\r=u.req
  ·rw[d_ c,d_ c]
  rw[b_ c,b_ c,b_ (show ¬ (u.kind=4/\o=u.o/\r=u.of/\j=4)from fun q=>d q.2.2.2),b_ (show ¬ (u.kind=4/\o=u.o/\r=u.of/\j=4)from fun q=>d q.2.2.2)];have l:(A.gh o r || (decide (u.kind=3)&&(decide (o=u.o)&&decide (r=u.req))))=true:=l
  rcases Bool.or_eq_true_iff.1 l with q|q
  ·exact(h.gh o r q).2 j d
  rw[R_,R_]at q; exact L_ ⟨h_ q.1,h_ q.2.1,h_ q.2.2⟩ c
 ·show(B.gh _ r || _)=(A.gh _ r || _); rw[h.gho r]
 ·show(if u.kind=3/\(a:Int)+1=u.o/\r=u.req then(if 4=2 then u.node else if 4=3 then u.aT else 0)else if u.kind=4/\(a:Int)+1=u.o/\r=u.of/\4=4 then u.req else B.g _ r 4)=(if u.kind=3/\(a:Int)+1=u.o/\r=u.req then(if 4=2 then u.node else if 4=3 then u.aT else 0)else if u.kind=4/\(a:Int)+1=u.o/\r=u.of/\4=4 then u.req else A.g _ r 4);rw[h.go r]
 show(B.ask _ r || _)=(A.ask _ r || _); rw[h.ask r]
theorem Ab.acZ(d:O4 u)(r:aV u≠a)(ha:a<6){p:Nat}(b:agT a p)(y:Int):A.dl u y p=0:=by
 obtain⟨n,s⟩:=d.reg;have j:p≠aV u:=by rcases b with e|e|e|⟨k,hk,e⟩ <;> omega
 have l:p≠6+aV u:=by rcases b with e|e|e|⟨k,hk,e⟩ <;> omega
 have m:p≠12+aV u:=by rcases b with e|e|e|⟨k,hk,e⟩ <;> omega
 unfold Ab.dl;by_cases f:u.kind=1
 ·rw[d_ f,b_ fun q=>j q.2]
 rw[b_ f];by_cases g:u.kind=2
 ·rw[d_ g,b_ fun q=>j q.2]
 rw[b_ g];by_cases h:u.kind=3
 ·rw[d_ h,b_ fun q=>l q.2]
 rw[b_ h];by_cases i:u.kind=4
 ·rw[d_ i,b_ fun q=>m q.2]
 rw[b_ i];by_cases c:u.kind=5
 ·have o:=d.dst c;rw[d_ c,b_];rintro ⟨_,q⟩;unfold dV at q
  rcases b with e|e|e|⟨k,hk,e⟩ <;> omega
 rw[b_ c]
theorem Ab.agU(a:O4 u){p:Nat}(d:18<=p)(y:Int):0<=A.dl u y p:=by
 obtain⟨b,e⟩:=a.reg;have c:=a.aT;unfold Ab.dl;split
 ·split <;> omega
 split
 ·split <;> omega
 split
 ·split <;> omega
 split
 ·rw[b_ fun q=>by omega]; omega
 split
 ·split <;> omega
 omega
theorem Ab.Le.step(h:A.Le B a)(x:B.Ok)(c:O4 u)(m:B.Pre u)(e:aV u≠a)(ha:a<6):A.Le (B.qV u) a:=by
 obtain⟨w,z⟩:=c.reg;have no : ¬ (a:Int)+1=u.o:=by omega
 refine⟨fun j d => ?_,?_,?_,fun y b=>Ab.Bj (h.has y b),fun s f => ?_,fun y b=>(Ab.O1 m (h.has y b)).trans (h.par y b),fun y p b l => ?_,fun y k b v => ?_,fun o r t => ?_,fun r => ?_,fun r => ?_,fun r => ?_⟩
 ·show(B.inn j || _)=true; rw[h.inn j d]; rfl
 ·show(B.left a || (decide (u.kind=7)&&decide (a=aV u)))=A.left a;rw[g_ (show ¬ a=aV u from fun q=>e q.symm),H_,G_]; exact h.left
 ·show B.own a+(if u.kind=1/\a=aV u then 1 else 0)=A.own a;rw[b_ fun q=>e q.2.symm,C_]; exact h.own
 ·show(B.has _ || (decide (u.kind=1)&&decide (iY ((a:Int)+1) s=rH u)))=_;rw[g_ (show ¬ iY ((a:Int)+1) s=rH u from fun q=>by
   rw[c.id]at q; unfold iY at q; rw[d_ ⟨by omega,by omega,f.1,f.2⟩]at q; have:=c.seq; omega),H_,G_]
  exact h.hid s f
 ·show B.R y p+B.dl u y p=A.R y p;rw[Ab.acZ c e ha l,C_]; exact h.R1 y p b l
 ·show A.R y _<=B.R y _+B.dl u y _;have:=h.R2 y k b v;have:=Ab.agU (A:=B) c (p:=18+(6*k+a)) (by omega) y;omega
 ·obtain⟨i,n⟩:=h.gh o r t;exact⟨Ab.acX i,fun j d=>(Ab.Lj m i j d).trans (n j d)⟩
 ·show(B.gh _ r || (decide (u.kind=3)&&(decide ((a:Int)+1=u.o)&&decide (r=u.req))))=_;rw[g_ no,Bool.false_and,H_,G_]; exact h.gho r
 ·show(if u.kind=3/\(a:Int)+1=u.o/\r=u.req then(if 4=2 then u.node else if 4=3 then u.aT else 0)else if u.kind=4/\(a:Int)+1=u.o/\r=u.of/\4=4 then u.req else B.g _ r 4)=_;rw[b_ fun q=>no q.2.1,b_ fun q=>no q.2.1]; exact h.go r
 show(B.ask _ r || ((decide (u.kind=3) || decide (u.kind=4))&&(decide ((a:Int)+1=u.o)&&decide (r=u.req))))=_;rw[g_ no,Bool.false_and,H_,G_]; exact h.ask r
end
end Rt
end
section
set_option linter.unusedVariables false
namespace Rt
def wH(K:Nat->Int)(v:EvM):Bool:=decide (v.seq<=K (aK v))
def fO(ev:Nat->EvM)(K:Nat->Int)(A0:Ab):Nat->Ab
 | 0=>A0
 | n+1=>if wH K (ev n)=true then(fO ev K A0 n).qV (ev n)else fO ev K A0 n
structure Evs(A0:Ab)(ev:Nat->EvM)(an:Nat):Prop where
 ok0:A0.Ok
 rd : ∀ k,k<an->dw (eO ev k) (ev k)=true
 g : ∀ k,k<an->O4 (ev k)
 dc : ∀ k,k<an->FV ev an (ev k).deps
 tk : ∀ k,k<an->(fO ev (ev k).deps A0 k).QM (ev k)
section
variable {A0:Ab} {ev:Nat->EvM} {an n m i j k:Nat} {K K1 K2:Nat->Int}
theorem mE{v:EvM}:wH K v=true<->v.seq<=K (aK v):=by unfold wH; exact O_
theorem Evs.seq(h:Evs A0 ev an)(a:k<an):(ev k).seq=eO ev k (aK (ev k))+1:=(Dz (h.rd k a)).2.1
theorem Evs.mono(h:Evs A0 ev an)(a:j<an)(c:k<an)(e:aK (ev j)=aK (ev k))(b:j<k):(ev j).seq<(ev k).seq:=by
 rw[h.seq a,h.seq c];have:=D7 (ev:=ev) b;rw[e]at this ⊢; omega
theorem Evs.uniq(h:Evs A0 ev an)(b:j<an)(c:k<an)(a:aK (ev j)=aK (ev k))(d:(ev j).seq=(ev k).seq):j=k:=by
 rcases Nat.lt_trichotomy j k with q|q|q
 ·have:=h.mono b c a q; omega
 ·exact q
 have:=h.mono c b a.symm q; omega
theorem Evs.ahead(h:Evs A0 ev an)(a:j<an)(b:k<an)(e:wH (ev k).deps (ev j)=true):j<k:=by
 have e:=mE.1 e;have d:=(Dz (h.rd k b)).2.2 (aK (ev j)) (h.g j a).reg.2;rw[h.seq a]at e;by_cases c:j<k
 ·exact c
 have:=cnt_mono (ev:=ev) (i:=aK (ev j)) (show k<=j by omega); omega
theorem lZ(e:wH K (ev n)=true):fO ev K A0 (n+1)=(fO ev K A0 n).qV (ev n):=by show(if _ then _ else _)=_; rw[d_ e]
theorem mF(e:wH K (ev n)=false):fO ev K A0 (n+1)=fO ev K A0 n:=by show(if _ then _ else _)=_; rw[b_ (by rw[e]; decide)]
theorem Jo(h:Evs A0 ev an)(a:Nat)(ha:a<6)(f : ∀ i,i<6->K1 i<=K2 i) : ∀ m,m<=an->(∀ i,i<=m->(fO ev K1 A0 i).Ok)->(∀ i,i<=m->(fO ev K2 A0 i).Ok)->(∀ i,i<m->wH K1 (ev i)=true->(fO ev K1 A0 i).QM (ev i))->(∀ i,i<m->wH K2 (ev i)=true->(fO ev K2 A0 i).QM (ev i)) ->
 (∀ i,i<m->aK (ev i)=a->wH K2 (ev i)=true->wH K1 (ev i)=true)->(fO ev K1 A0 m).Le (fO ev K2 A0 m) a
 | 0,_,_,_,_,_,_=>Ab.Le.refl _ _
 | m+1,hm,o1,o2,v1,v2,ho=>by
   have d:=Jo h a ha f m (by omega) (fun i c=>o1 i (by omega)) (fun i c=>o2 i (by omega)) (fun i c=>v1 i (by omega)) (fun i c=>v2 i (by omega)) (fun i c=>ho i (by omega))
   cases c1:wH K1 (ev m)with
   | true =>
     have b:wH K2 (ev m)=true:=mE.2 (Q_ (mE.1 c1) (f _ (h.g m (by omega)).reg.2));rw[lZ c1,lZ b];exact d.both (o1 m (by omega)) (o2 m (by omega)) (v1 m (by omega) c1).pre (v2 m (by omega) b).pre
   | false =>
     rw[mF c1]
     cases b:wH K2 (ev m)with
     | true =>
       rw[lZ b];exact d.step (o2 m (by omega)) (h.g m (by omega)) (v2 m (by omega) b).pre (fun e=>by have:=ho m (by omega) e b; rw[c1]at this; cases this) ha
     | false=>rw[mF b]; exact d
theorem uS(h:Evs A0 ev an) : ∀ n,n<=an -> ∀ K,FV ev an K->(∀ i,i<=n->(fO ev K A0 i).Ok) /\ ∀ i,i<n->wH K (ev i)=true->(fO ev K A0 i).QM (ev i)
 | 0,_,K,_=>⟨fun i a=>(show i=0 by omega) ▸ h.ok0,fun i a=>L_ a (u_ _)⟩
 | n+1,hn,K,hc=>by
   obtain⟨o,v⟩:=uS h n (by omega) K hc;have f:wH K (ev n)=true->(fO ev K A0 n).QM (ev n):=fun c=>by
    obtain⟨l,r⟩:=uS h n (by omega) (ev n).deps (h.dc n (by omega));have d:=h.g n (by omega);have p:=Jo h (aV (ev n)) d.reg.2 (hc.cl n (by omega) (mE.1 c)) n (by omega) l o r v (fun i a e t=>by
     have u:=h.mono (j:=i) (k:=n) (by omega) (by omega) e a;have b:=(Dz (h.rd n (by omega))).1;refine mE.2 ?_;have m:(ev n).deps (aK (ev n))=(ev n).seq-1:=by
      unfold bM at b; simp only[R_,decide_eq_true_eq]at b; exact b.1.1.1.2
     rw[show aK (ev i)=aK (ev n)from e,m]; omega)
    exact p.okE (l n (z_ _)) (o n (z_ _)) d (h.tk n (by omega))
   have s : ∀ i,i<n+1->wH K (ev i)=true->(fO ev K A0 i).QM (ev i):=fun i a e=>by
    by_cases q:i=n
    ·subst q; exact f e
    ·exact v i (by omega) e
   refine⟨fun i a => ?_,s⟩;by_cases q:i=n+1
   ·subst q
    cases c:wH K (ev n)with
    | true=>rw[lZ c]; exact Ab.acY (o n (z_ _)) (f c).pre
    | false=>rw[mF c]; exact o n (z_ _)
   ·exact o i (by omega)
end
end Rt
end
section
set_option linter.unusedVariables false
namespace Rt
section
variable {A0:Ab} {ev:Nat->EvM} {an n m i j k:Nat} {K:Nat->Int}
theorem Cn(h:Evs A0 ev an)(a:j<an) : ∀ m,j<=m->m<=an->fO ev (ev j).deps A0 m=fO ev (ev j).deps A0 j
 | 0,h1,_=>by obtain rfl:j=0:=(by omega); rfl
 | m+1,h1,h2=>by
   by_cases e:j=m+1
   ·rw[e]
   ·have c:wH (ev j).deps (ev m)=false:=by
     cases q:wH (ev j).deps (ev m)with
     | true=>have:=h.ahead (show m<an by omega) a q; omega
     | false=>rfl
    rw[mF c];exact Cn h a m (by omega) (by omega)
theorem VG{v:EvM}(h:bM v=true):v.deps (aK v)=v.seq-1:=by
 unfold bM at h; simp only[R_,decide_eq_true_eq]at h; exact h.1.1.1.2
theorem HZ(h:Evs A0 ev an)(l:FV ev an K)(b:j<an)(hr:dw K (ev j)=true)(h1:j<=m)(a:m<=an):(fO ev K A0 m).QM (ev j):=by
 obtain⟨f,q⟩:=uS h m a (ev j).deps (h.dc j b);obtain⟨o,v⟩:=uS h m a K l;obtain⟨n,s,p⟩:=Dz hr;have c:=h.g j b;have d:=Jo h (aV (ev j)) c.reg.2 p m a f o q v (fun i r e k=>by
  refine mE.2 ?_;have:=mE.1 k;rw[show aK (ev i)=aK (ev j)from e]at this ⊢;rw[VG n]; omega)
 rw[Cn h b m h1 a]at d;exact d.okE (by rw[<- Cn h b m h1 a]; exact f m (z_ _)) (o m (z_ _)) c (h.tk j b)
def Jp(K:Nat->Int)(v:EvM):Nat->Int:=aI K (aK v) (K (aK v)+1)
theorem VH(h:Evs A0 ev an)(a:j<an)(hr:dw K (ev j)=true)(hi:i<an)(b:i≠j):wH (Jp K (ev j)) (ev i)=wH K (ev i):=by
 have d:=(Dz hr).2.1;have:wH (Jp K (ev j)) (ev i)=true<->wH K (ev i)=true:=by
  rw[mE,mE];unfold Jp aI;split
  ·rename_i e;rw[e];constructor
   ·intro q;by_cases c:(ev i).seq<=K (aK (ev j))
    ·exact c
    ·exact L_ (h.uniq hi a e (by omega)) b
   ·intro q; omega
  ·exact Iff.rfl
 cases c1:wH (Jp K (ev j)) (ev i) <;> cases c2:wH K (ev i) <;> simp_all
theorem FE(h:Evs A0 ev an)(a:j<an)(hr:dw K (ev j)=true) : ∀ m,m<=j->fO ev (Jp K (ev j)) A0 m=fO ev K A0 m
 | 0,_=>rfl
 | m+1,hm=>by
   have e:=VH h a hr (show m<an by omega) (show m≠j by omega)
   cases c:wH K (ev m)with
   | true=>rw[lZ (e.trans c),lZ c,FE h a hr m (by omega)]
   | false=>rw[mF (e.trans c),mF c,FE h a hr m (by omega)]
theorem H6(h:Evs A0 ev an)(b:FV ev an K)(a:j<an)(hr:dw K (ev j)=true) : ∀ m,j<m->m<=an->fO ev (Jp K (ev j)) A0 m=(fO ev K A0 m).qV (ev j)
 | 0,h1,_=>L_ h1 (u_ _)
 | m+1,h1,h2=>by
   have r:=(Dz hr).2.1;by_cases e:m=j
   ·subst e;have l:wH (Jp K (ev m)) (ev m)=true:=mE.2 (by unfold Jp aI; rw[d_ rfl]; omega);have n:wH K (ev m)=false:=by
     cases q:wH K (ev m)with
     | true=>have:=mE.1 q; omega
     | false=>rfl
    rw[lZ l,mF n,FE h a hr m (z_ _)]
   ·have k:=H6 h b a hr m (by omega) (by omega);have f:=VH h a hr (show m<an by omega) e
    cases c:wH K (ev m)with
    | true =>
      obtain⟨o,v⟩:=uS h (m+1) h2 K b;rw[lZ (f.trans c),lZ c,k];have i:(ev j).o≠(ev m).o:=fun q=>by
       have d:aK (ev j)=aK (ev m):=(by unfold aK; rw[q]);have s:=h.mono a (show m<an by omega) d (by omega);have p:=mE.1 c;rw[<- d]at p; omega
      exact Ab.VF (o m (by omega)) (HZ h b a hr (by omega) (by omega)).pre (v m (by omega) c).pre i (fun _ _=>O4.ne (h.g j a) (h.g m (by omega)) i)
    | false=>rw[mF (f.trans c),mF c,k]
theorem Yt(h:Evs A0 ev an)(b:FV ev an K)(a:j<an)(hr:dw K (ev j)=true):fO ev (Jp K (ev j)) A0 an=(fO ev K A0 an).qV (ev j):=H6 h b a hr an a (z_ _)
end
end Rt
end
section
set_option linter.unusedVariables false
namespace Rt
def eF(m:dM):Ab where
 inn:=m.inn
 left:=m.left
 own:=m.own
 has:=m.T.has
 par:=m.T.par
 R:=bf m
 gh:=iA m
 g:=fun o r j=>if iA m o r=true/\2<=j/\j<=4 then m.g (eX m o r) j else 0
 ask:=gN m
section
variable {m:dM} {T:dK} {x y:Int} {v:EvM}
theorem H7{x p:Nat->Int} : ∀ {n:Nat} {k:Int},dO x n k=false->gZ x p n k=0
 | 0,k,_=>rfl
 | n+1,k,h=>by
   have h:(dO x n k || decide (x n=k))=false:=h;rw[Bool.or_eq_false_iff]at h;show(if x n=k then p n else gZ x p n k)=0;rw[b_ (j_ h.2)];exact H7 h.1
def Ll(T:dK)(x:Int):Nat->Int
 | 0=>x
 | i+1=>T.par (Ll T x i)
theorem FH(T:dK)(x:Int) : ∀ i,Ll T x (i+1)=Ll T (T.par x) i
 | 0=>rfl
 | i+1=>by show T.par (Ll T x (i+1))=T.par (Ll T (T.par x) i); rw[FH T x i]
theorem QN(h:T.has x=false):T.path x = []:=by
 have : ¬ T.has x=true:=by rw[h]; decide
 cases e:T.path x with
 | nil=>rfl
 | cons a l=>exact L_ (show ji T.x T.p T.n 4 x = []from kE h) (by rw[show ji T.x T.p T.n 4 x=T.path x from rfl,e]; exact fun q=>by cases q)
theorem Ec(g:T.ok) : ∀ n x,(T.path x).length<=n->(∀ i,i<(T.path x).length->(T.path x).getD i 0=Ll T x i/\T.has (Ll T x i)=true)/\T.has (Ll T x (T.path x).length)=false
 | 0,x,hn=>by
   have e:T.path x = []:=List.length_eq_zero_iff.1 (by omega);rw[e];refine⟨fun i d=>L_ d (u_ _),?_⟩
   cases c:T.has (Ll T x [].length)with
   | false=>rfl
   | true=>rw[dK.step g (show T.has x=true from c)]at e; cases e
 | n+1,x,hn=>by
   cases c:T.has x with
   | false =>
     rw[QN c];exact⟨fun i d=>L_ d (u_ _),c⟩
   | true =>
     have f:=dK.step g c;have k:(T.path x).length=(T.path (T.par x)).length+1:=(by rw[f]; rfl);obtain⟨h,j⟩:=Ec g n (T.par x) (by omega);refine⟨fun i d => ?_,by rw[k,FH]; exact j⟩
     cases i with
     | zero=>rw[f]; exact⟨rfl,c⟩
     | succ i =>
       rw[FH];obtain⟨a,b⟩:=h i (by omega);refine⟨?_,b⟩;rw[f];exact a
theorem FI(m:dM)(x:Int) : ∀ i,(eF m).up x i=Ll m.T x i
 | 0=>rfl
 | i+1=>by show m.T.par ((eF m).up x i)=m.T.par (Ll m.T x i); rw[FI m x i]
theorem Lm(a:T.ok){k:Nat}(h:T.has (Ll T x k)=false) : ∀ i,k<=i->T.has (Ll T x i)=false
 | 0,hi=>by obtain rfl:k=0:=(by omega); exact h
 | i+1,hi=>by
   by_cases e:k=i+1
   ·rw[<- e]; exact h
   ·have:=Lm a h i (by omega);have b:T.par (Ll T x i)=0:=H7 this;show T.has (T.par (Ll T x i))=false;rw[b]; exact Bo.WK a
theorem Co(j:m.T.ok)(x y:Int):(eF m).on x y=true<->y∈m.T.path x:=by
 obtain⟨h,n⟩:=Ec j _ x (z_ _);have o:=dK.yI (T:=m.T) (k:=x);unfold Ab.on;rw[R_,List.any_eq_true,List.mem_iff_getElem];constructor
 ·rintro ⟨l,i,d,e⟩;have e:=h_ e;rw[FI]at e;have f:i<(m.T.path x).length:=by
   by_cases c:i<(m.T.path x).length
   ·exact c
   ·have:=Lm j n i (by omega);rw[e]at this;rw[show(eF m).has y=m.T.has y from rfl,this]at l; cases l
  refine⟨i,f,?_⟩;have:=(h i f).1;rw[r_,o_ f]at this;exact this.trans e
 rintro ⟨i,d,e⟩;obtain⟨a,b⟩:=h i d;rw[r_,o_ d]at a;have g:Ll m.T x i=y:=a.symm.trans e;refine⟨by rw[<- g]; exact b,i,N_.2 (by omega),f_ (by rw[FI]; exact g)⟩
end
end Rt
end
section
set_option linter.unusedVariables false
namespace Rt
theorem yO{x:Nat->Int}{n:Int}{b:Bool}{a:Int}{off:Nat}(h:(bQ x n b a off).2=0):may x=true/\1<=n/\n<=1125899906842624/\b=true/\a=0/\x off+n<=1125899906842624/\(bQ x n b a off).1=upd x off (x off+n):=by
 rcases nN x n b a off with ⟨_,c,_⟩|⟨⟨hm,h1,c,hr,he,hx⟩,heq⟩
 ·exact L_ h c
 exact⟨hm,h1,c,hr,he,hx,by rw[heq]⟩
section
variable {m:dM} {x y:Int} {v:EvM}
theorem FJ(b:m.T.ok){k:Int}(d:m.T.has k=true)(r:Nat->Int)(y:Int):bf (BS m k r) y=if y=k then r else bf m y:=by
 unfold bf;show(if m.T.has y=true then aN m.R (m.idx k) r (m.idx y)else Fv)=_;by_cases e:y=k
 ·subst e; rw[d_ d,d_ rfl]; unfold aN; rw[d_ rfl]
 rw[b_ e];by_cases c:m.T.has y=true
 ·rw[d_ c,d_ c];unfold aN;rw[b_]
  ·rfl
  intro q;have a:=(dM.CY b c).2;rw[q,(dM.CY b d).2]at a;exact e a.symm
 rw[b_ c,b_ c]
open Classical in
theorem Jq(a:m.T.ok)(f:(Nat->Int)->(Nat->Int) × Int)(x y:Int):bf (qm m f (m.T.path x)) y=if y∈m.T.path x then(f (bf m y)).1 else bf m y:=by
 unfold bf;show(if m.T.has y=true then(if m.T.x (m.idx y)∈m.T.path x then(f (m.R (m.idx y))).1 else m.R (m.idx y))else Fv)=_;by_cases c:m.T.has y=true
 ·rw[d_ c,d_ c,(dM.CY a c).2]; rfl
 rw[b_ c,b_ c,b_ fun q=>c (dK.nR a rfl y q)]
theorem yP(b:m.T.ok){f:(Nat->Int)->(Nat->Int) × Int}(h:dn m f (m.T.path x)=0)(hy:y∈m.T.path x):(f (bf m y)).2=0:=by
 obtain⟨i,a,e⟩:=List.getElem_of_mem hy;have:=Fq h i a;rw[r_,o_ a]at this;rw[<- e];unfold bf;rw[d_ (dK.nR b rfl _ (P_ a))];exact this
theorem FK(h:bM v=true):v.o=(aV v:Int)+1/\aV v<6/\v.o.toNat-1=aV v:=by
 have:=nO h; unfold aV; omega
theorem Jr{x:Nat->Int}{off:Nat}{n:Int}(p:Nat):upd x off (x off+n) p=x p+if p=off then n else 0:=by
 unfold upd;by_cases e:p=off
 ·subst e; rw[d_ rfl,d_ rfl]
 rw[b_ e,b_ e,C_]
theorem ada(f:m.T.ok)(k:bM v=true)(j:v.kind=1)(a:iP m v=0)(y:Int)(p:Nat):bf (CV m v) y p=bf m y p+(eF m).dl v y p:=by
 have d:m.T.has (mY v)=false:=by
  unfold iP at a;split at a
  ·cases a
  ·exact(Eu a).2.1
 have h:rH v=mY v:=qJ k;unfold Ab.dl;rw[d_ j,h];unfold bf;show(if(m.T.put (mY v) v.node).has y=true then aN m.R m.T.n (upd (fun _=>0) (aK v) v.aT) (zh (aN m.T.x m.T.n (mY v)) (m.T.n+1) y)else Fv) p=_;rw[dK.jo];by_cases e:mY v=y
 ·subst e;rw[f_ rfl,Bool.or_true,d_ rfl,d,b_ (by decide),K8 _ _ _ (fun i g e=>by have:=dK.zC g; rw[e,d]at this; cases this)]
  unfold aN;rw[d_ rfl];show upd (fun _=>0) (aK v) v.aT p=0+_;unfold upd;rw[Int.zero_add];by_cases c:p=aK v
  ·rw[d_ c,d_ ⟨rfl,c⟩]
  rw[b_ c,b_ (fun q=>c q.2)]
 rw[g_ e,G_,b_ (show ¬ (y=mY v/\p=aV v)from fun q=>e q.1.symm),C_];by_cases c:m.T.has y=true
 ·rw[d_ c,d_ c,K9 _ _ e];have b:=(dM.CY f c).1;have b:zh m.T.x m.T.n y<m.T.n:=b;unfold aN;rw[b_ (by omega)];rfl
 rw[b_ c,b_ c]
theorem Yu(f:m.T.ok)(g:bM v=true)(d:v.kind=2)(a:jr m v=0)(y:Int)(p:Nat):bf (tY m v) y p=bf m y p+(eF m).dl v y p:=by
 have b:m.T.has v.node=true:=by
  unfold jr at a
  cases c:m.T.has v.node with
  | true=>rfl
  | false=>rw[d_ c]at a; cases a
 unfold Ab.dl;rw[b_ (by rw[d]; decide),d_ d];unfold tY;rw[FJ f b];by_cases e:y=v.node
 ·subst e;rw[d_ rfl,Jr];unfold bf;rw[d_ b];show m.R (m.idx v.node) p+(if p=aK v then v.aT else 0)=m.R (m.idx v.node) p+_;by_cases c:p=aK v
  ·rw[d_ c,d_ ⟨rfl,c⟩]
  rw[b_ c,b_ (fun q=>c q.2)]
 rw[b_ e,b_ (fun q=>e q.1),C_]
theorem adb(j:m.T.ok)(z:bM v=true)(f:v.kind=5)(d:jX m v=0)(y:Int)(p:Nat):bf (CP m v) y p=bf m y p+(eF m).dl v y p:=by
 have g:m.T.has v.node=true/\(rE m v).2=0:=by
  unfold jX at d
  cases c:m.T.has v.node with
  | true =>
    rw[b_ (by rw[c]; decide)]at d;split at d
    ·cases d
    ·exact⟨rfl,d⟩
  | false=>rw[d_ c]at d; cases d
 obtain⟨a,b,s,t,w,x,u,l,n,o,r,k⟩:=AY g.2;have h:aV v=a:=by unfold aV; omega
 have i:dV v=b:=by unfold dV; omega
 unfold Ab.dl;rw[b_ (by rw[f]; decide),b_ (by rw[f]; decide),b_ (by rw[f]; decide),b_ (by rw[f]; decide),d_ f,h,i];unfold CP;rw[FJ j g.1];by_cases e:y=v.node
 ·subst e;rw[d_ rfl];unfold rE;rw[k,Jr];unfold bf;rw[d_ g.1];show m.R (m.idx v.node) p+(if p=18+a*6+b then v.aT else 0)=m.R (m.idx v.node) p+_;by_cases c:p=18+a*6+b
  ·rw[d_ c,d_ ⟨rfl,by omega⟩]
  rw[b_ c,b_ (fun q=>c (by omega))]
 rw[b_ e,b_ (fun q=>e q.1),C_]
theorem VI(a:m.T.ok){f:(Nat->Int)->(Nat->Int) × Int}{x:Int}{n:Int}{off:Nat}(b : ∀ y,y∈m.T.path x->(f (bf m y)).1=upd (bf m y) off (bf m y off+n))(y:Int)(p:Nat):bf (qm m f (m.T.path x)) y p=bf m y p+if(eF m).on x y=true/\p=off then n else 0:=by
 rw[Jq a];by_cases c:y∈m.T.path x
 ·rw[d_ c,b y c,Jr];by_cases e:p=off
  ·rw[d_ e,d_ ⟨(Co a x y).2 c,e⟩]
  rw[b_ e,b_ (fun q=>e q.2)]
 rw[b_ c,b_ (fun q=>c ((Co a x y).1 q.1)),C_]
theorem ade(d:m.T.ok)(g:bM v=true)(b:v.kind=3)(a:jL m v=0)(y:Int)(p:Nat):bf (jY m v) y p=bf m y p+(eF m).dl v y p:=by
 have e:dn m (fun x=>bC x v.o v.aT) (m.T.path v.node)=0:=by
  unfold jL at a;split at a
  ·cases a
  split at a
  ·cases a
  exact a
 unfold Ab.dl;rw[b_ (by rw[b]; decide),b_ (by rw[b]; decide),d_ b];refine VI d (f:=fun x=>bC x v.o v.aT) (x:=v.node) (fun y h => ?_) y p;have c:(bC (bf m y) v.o v.aT).2=0:=yP d e h;unfold bC at c;show(bC (bf m y) v.o v.aT).1=_;unfold bC;rw[(yO c).2.2.2.2.2.2,(FK g).2.2]
theorem adf(i:m.T.ok)(l:bM v=true)(b:v.kind=4)(a:jd m v=0)(y:Int)(p:Nat):bf (iq m v) y p=bf m y p+(eF m).dl v y p:=by
 have d:iA m v.o v.of=true/\dn m (fun x=>bD x v.o (m.g (eX m v.o v.of) 3)) (m.T.path (m.g (eX m v.o v.of) 2))=0:=by
  unfold jd at a;split at a
  ·cases a
  split at a
  ·cases a
  rename_i c;refine⟨?_,a⟩
  cases e:iA m v.o v.of with
  | true=>rfl
  | false=>exact L_ (.inl e) c
 have j:(eF m).g v.o v.of 2=m.g (eX m v.o v.of) 2:=d_ ⟨d.1,by decide,by decide⟩;have k:(eF m).g v.o v.of 3=m.g (eX m v.o v.of) 3:=d_ ⟨d.1,by decide,by decide⟩;unfold Ab.dl;rw[b_ (by rw[b]; decide),b_ (by rw[b]; decide),b_ (by rw[b]; decide),d_ b,j,k];refine VI i (f:=fun x=>bD x v.o (m.g (eX m v.o v.of) 3)) (x:=m.g (eX m v.o v.of) 2) (fun y n => ?_) y p;have h:(bD (bf m y) v.o (m.g (eX m v.o v.of) 3)).2=0:=yP i d.2 n;unfold bD at h;show(bD (bf m y) v.o (m.g (eX m v.o v.of) 3)).1=_;unfold bD;rw[(yO h).2.2.2.2.2.2,(FK l).2.2]
theorem Lp{m':dM}(a:m'.an=m.an+1)(b:m'.ao=aN m.ao m.an v.o)(c:m'.ar=aN m.ar m.an v.req)(o r:Int):gN m' o r=(gN m o r || (decide (o=v.o)&&decide (r=v.req))):=by
 have:gN m' o r=true<->(gN m o r=true\/(v.o=o/\v.req=r)):=by unfold gN; rw[a,b,c]; exact Fy
 rw[Bool.eq_iff_iff,this,Bool.or_eq_true,R_,O_,O_];exact⟨fun h=>h.imp id fun q=>⟨q.1.symm,q.2.symm⟩,fun h=>h.imp id fun q=>⟨q.1.symm,q.2.symm⟩⟩
theorem VJ{c d:Nat->Int}{n:Nat}{a b o r:Int}(h : ¬ (a=o/\b=r)):vZ (aN c n a) (aN d n b) (n+1) o r=vZ c d n o r:=by
 have f : ∀ k,k<=n->vZ (aN c n a) (aN d n b) k o r=vZ c d k o r:=fun k=>by
  induction k with
  | zero=>intro _; rfl
  | succ k ih =>
    intro g;show(if aN c n a k=o/\aN d n b k=r then k else _)=(if c k=o/\d k=r then k else _);rw[ih (by omega)];have e : ¬ k=n:=(by omega);rw[show aN c n a k=c k from b_ e,show aN d n b k=d k from b_ e]
 show(if aN c n a n=o/\aN d n b n=r then n else vZ (aN c n a) (aN d n b) n o r)=_;rw[f n (z_ _)];rw[show aN c n a n=a from d_ rfl,show aN d n b n=b from d_ rfl,b_ h]
theorem VK{c d:Nat->Int}{n:Nat}{a b:Int}:vZ (aN c n a) (aN d n b) (n+1) a b=n:=by
 show(if aN c n a n=a/\aN d n b n=b then n else _)=_;unfold aN;rw[d_ ⟨d_ rfl,d_ rfl⟩]
theorem yQ(g:Nat->Nat->Int)(n:Nat)(r:Nat->Int)(j:Nat):(fun i=>aN g n r i j)=aN (fun i=>g i j) n (r j):=by
 funext i; unfold aN; split <;> rfl
end
end Rt
end
section
set_option linter.unusedVariables false
namespace Rt
section
variable {m:dM} {x y:Int} {v:EvM}
theorem je{b c:Bool}(h:c=false):b=(b || c):=by rw[h,G_]
theorem JA{k:Int}(h:v.kind≠k){c:Bool}:(decide (v.kind=k)&&c)=false:=by rw[g_ h]; rfl
theorem VL(i:m.T.ok)(e:bM v=true)(a:v.kind=1)(h:iP m v=0):eF (CV m v)=(eF m).qV v:=by
 have d:rH v=mY v:=qJ e;have b:v.kind≠3:=by rw[a]; decide
 have f:v.kind≠4:=by rw[a]; decide
 have k:v.kind≠6:=by rw[a]; decide
 have l:v.kind≠7:=by rw[a]; decide
 apply Ab.QL
 ·funext j; exact je (JA k)
 ·funext j; exact je (JA l)
 ·funext j
  show aI m.own (aK v) (m.own (aK v)+1) j=m.own j+if v.kind=1/\j=aV v then 1 else 0;unfold aI;by_cases c:j=aK v
  ·rw[d_ c,d_ ⟨a,c⟩,c]
  rw[b_ c,b_ (fun q=>c q.2),C_]
 ·funext y
  show(m.T.put (mY v) v.node).has y=(m.T.has y || (decide (v.kind=1)&&decide (y=rH v)));rw[dK.jo,d,f_ a,Bool.true_and]
  congr 1
  exact decide_eq_decide.2 ⟨Eq.symm,Eq.symm⟩
 ·funext y
  show(m.T.put (mY v) v.node).par y=if v.kind=1/\y=rH v then v.node else m.T.par y;rw[dK.sK,d];by_cases c:mY v=y
  ·rw[d_ c,d_ ⟨a,c.symm⟩]
  rw[b_ c,b_ (fun q=>c q.2.symm)]
 ·funext y p; exact ada i e a h y p
 ·funext o r; exact je (JA b)
 ·funext o r j
  show(eF m).g o r j=if v.kind=3/\_ then _ else if v.kind=4/\_ then _ else _;rw[b_ (fun q=>b q.1),b_ (fun q=>f q.1)]
 funext o r
 show gN m o r=(gN m o r || ((decide (v.kind=3) || decide (v.kind=4))&&_));rw[g_ b,g_ f];exact je rfl
theorem Lr{m':dM}(e:m'.inn=m.inn)(f:m'.left=m.left)(h:m'.own=m.own)(c:m'.T=m.T)(i : ∀ o r,iA m' o r=iA m o r)(k:(eF m').g=(eF m).g)(l : ∀ o r,gN m' o r=gN m o r)(a:v.kind≠1)(b:v.kind≠3)(d:v.kind≠4)(s:v.kind≠6)(t:v.kind≠7)
 (n : ∀ y p,bf m' y p=bf m y p+(eF m).dl v y p):eF m'=(eF m).qV v:=by
 apply Ab.QL
 ·funext j; rw[show(eF m').inn j=m.inn j from congrFun e j]; exact je (JA s)
 ·funext j; rw[show(eF m').left j=m.left j from congrFun f j]; exact je (JA t)
 ·funext j
  rw[show(eF m').own j=m.own j from congrFun h j];show m.own j=m.own j+if v.kind=1/\j=aV v then 1 else 0;rw[b_ (fun q=>a q.1),C_]
 ·funext y; rw[show(eF m').has y=m.T.has y from by rw[<- c]; rfl]; exact je (JA a)
 ·funext y
  rw[show(eF m').par y=m.T.par y from by rw[<- c]; rfl];show _=if v.kind=1/\y=rH v then v.node else m.T.par y;rw[b_ (fun q=>a q.1)]
 ·funext y p; exact n y p
 ·funext o r; rw[show(eF m').gh o r=iA m o r from i o r]; exact je (JA b)
 ·funext o r j
  rw[k];show(eF m).g o r j=if v.kind=3/\_ then _ else if v.kind=4/\_ then _ else _;rw[b_ (fun q=>b q.1),b_ (fun q=>d q.1)]
 funext o r
 rw[show(eF m').ask o r=gN m o r from l o r];show gN m o r=(gN m o r || ((decide (v.kind=3) || decide (v.kind=4))&&_));rw[g_ b,g_ d];exact je rfl
theorem QO(c:m.T.ok)(d:bM v=true)(a:v.kind=2)(b:jr m v=0):eF (tY m v)=(eF m).qV v :=
 Lr rfl rfl rfl rfl (fun _ _=>rfl) rfl (fun _ _=>rfl) (by rw[a]; decide) (by rw[a]; decide) (by rw[a]; decide) (by rw[a]; decide) (by rw[a]; decide) (Yu c d a b)
theorem VN(c:m.T.ok)(d:bM v=true)(a:v.kind=5)(b:jX m v=0):eF (CP m v)=(eF m).qV v :=
 Lr rfl rfl rfl rfl (fun _ _=>rfl) rfl (fun _ _=>rfl) (by rw[a]; decide) (by rw[a]; decide) (by rw[a]; decide) (by rw[a]; decide) (by rw[a]; decide) (adb c d a b)
theorem Js{d f:Nat->Int}{a b:Int} : ∀ {n:Nat},Bf d f n a b=true->vZ d f n a b<n
 | 0,h=>by cases h
 | n+1,h=>by
   unfold vZ;by_cases c:d n=a/\f n=b
   ·rw[d_ c]; omega
   ·rw[b_ c];obtain⟨j,k,g,i⟩:=kV.1 h;by_cases e:j=n
    ·subst e; exact L_ ⟨g,i⟩ c
    ·have:=Js (rG (show j<n by omega) g i); omega
theorem Yv(h1:v.kind≠1)(a:v.kind≠2)(b:v.kind≠3)(c:v.kind≠4)(d:v.kind≠5)(A:Ab)(y:Int)(p:Nat):A.dl v y p=0:=by
 unfold Ab.dl;rw[b_ h1,b_ a,b_ b,b_ c,b_ d]
theorem H8{A B:Ab}(h1:v.kind≠1)(n:v.kind≠2)(a:v.kind≠3)(b:v.kind≠4)(s:v.kind≠5)(c : ∀ j,B.inn j=(A.inn j || (decide (v.kind=6)&&decide (j=dV v))))(d : ∀ j,B.left j=(A.left j || (decide (v.kind=7)&&decide (j=aV v))))(e:B.own=A.own)(f:B.has=A.has)(h:B.par=A.par)(i:B.R=A.R)(k:B.gh=A.gh)(l:B.g=A.g)(m:B.ask=A.ask):B=A.qV v:=by
 apply Ab.QL
 ·funext j; exact c j
 ·funext j; exact d j
 ·funext j; rw[e]; show A.own j=A.own j+if v.kind=1/\j=aV v then 1 else 0; rw[b_ (fun q=>h1 q.1),C_]
 ·funext y; rw[f]; exact je (JA h1)
 ·funext y; rw[h]; show _=if v.kind=1/\y=rH v then v.node else A.par y; rw[b_ (fun q=>h1 q.1)]
 ·funext y p; rw[i]; show _=A.R y p+A.dl v y p; rw[Yv h1 n a b s,C_]
 ·funext o r; rw[k]; exact je (JA a)
 ·funext o r j
  rw[l];show A.g o r j=if v.kind=3/\_ then _ else if v.kind=4/\_ then _ else _;rw[b_ (fun q=>a q.1),b_ (fun q=>b q.1)]
 funext o r
 rw[m];show A.ask o r=(A.ask o r || ((decide (v.kind=3) || decide (v.kind=4))&&_));rw[g_ a,g_ b];exact je rfl
theorem Ls{f:Nat->Bool}{k j:Nat}{c:Bool}(a:c=true):aI f k true j=(f j || (c&&decide (j=k))):=by
 rw[a,Bool.true_and];unfold aI;by_cases e:j=k
 ·rw[d_ e,f_ e,Bool.or_true]
 rw[b_ e,g_ e,G_]
theorem VO(a:v.kind=6):eF (Hf m v)=(eF m).qV v :=
 H8 (by rw[a]; decide) (by rw[a]; decide) (by rw[a]; decide) (by rw[a]; decide) (by rw[a]; decide) (fun j=>Ls (f_ a)) (fun j=>je (JA (by rw[a]; decide))) rfl rfl rfl rfl rfl rfl rfl
theorem QS(a:v.kind=7):eF (BU m v)=(eF m).qV v :=
 H8 (by rw[a]; decide) (by rw[a]; decide) (by rw[a]; decide) (by rw[a]; decide) (by rw[a]; decide) (fun j=>je (JA (by rw[a]; decide))) (fun j=>Ls (k:=aK v) (f_ a)) rfl rfl rfl rfl rfl rfl rfl
theorem VP(z:m.T.ok)(A:QD m)(u:bM v=true)(b:v.kind=3)(k:jL m v=0):eF (jY m v)=(eF m).qV v:=by
 have G:rH v=mY v:=qJ u;have n:v.kind≠1:=by rw[b]; decide
 have C:v.kind≠4:=by rw[b]; decide
 have D:v.kind≠6:=by rw[b]; decide
 have E:v.kind≠7:=by rw[b]; decide
 have B:gN m v.o v.req=false:=by
  unfold jL at k
  cases c:gN m v.o v.req with
  | false=>rfl
  | true=>rw[d_ c]at k; cases k
 have F:iA m v.o v.req=false:=oQ fun i t e=>by
  have:=A i t;rw[e.1,e.2,B]at this; cases this
 have s : ∀ o r,iA (jY m v) o r=(iA m o r || (decide (o=v.o)&&decide (r=v.req))):=fun o r=>by
  have d:=yQ m.g m.gn (pW v) 0;have f:=yQ m.g m.gn (pW v) 1;have:iA (jY m v) o r=true<->(iA m o r=true\/(v.o=o/\v.req=r)):=by
   show Bf (fun i=>aN m.g m.gn (pW v) i 0) (fun i=>aN m.g m.gn (pW v) i 1) (m.gn+1) o r=true<->_;rw[d,f]; exact Fy
  rw[Bool.eq_iff_iff,this,Bool.or_eq_true,R_,O_,O_];exact⟨fun h=>h.imp id fun q=>⟨q.1.symm,q.2.symm⟩,fun h=>h.imp id fun q=>⟨q.1.symm,q.2.symm⟩⟩
 have x : ∀ o r,eX (jY m v) o r=vZ (aN (fun i=>m.g i 0) m.gn v.o) (aN (fun i=>m.g i 1) m.gn v.req) (m.gn+1) o r:=fun o r=>by
  have d:=yQ m.g m.gn (pW v) 0;have f:=yQ m.g m.gn (pW v) 1;show vZ (fun i=>aN m.g m.gn (pW v) i 0) (fun i=>aN m.g m.gn (pW v) i 1) (m.gn+1) o r=_;rw[d,f]; rfl
 apply Ab.QL
 ·funext j; exact je (JA D)
 ·funext j; exact je (JA E)
 ·funext j
  show m.own j=m.own j+if v.kind=1/\j=aV v then 1 else 0;rw[b_ (fun q=>n q.1),C_]
 ·funext y; exact je (JA n)
 ·funext y
  show m.T.par y=if v.kind=1/\y=rH v then v.node else m.T.par y;rw[b_ (fun q=>n q.1)]
 ·funext y p; exact ade z u b k y p
 ·funext o r
  show iA (jY m v) o r=(iA m o r || (decide (v.kind=3)&&(decide (o=v.o)&&decide (r=v.req))));rw[s,f_ b,Bool.true_and]
 ·funext o r j
  show(if iA (jY m v) o r=true/\2<=j/\j<=4 then(jY m v).g (eX (jY m v) o r) j else 0)=if v.kind=3/\o=v.o/\r=v.req then(if j=2 then v.node else if j=3 then v.aT else 0)else if v.kind=4/\_ then _ else(if iA m o r=true/\2<=j/\j<=4 then m.g (eX m o r) j else 0);rw[s,x];by_cases c:o=v.o/\r=v.req
  ·rw[d_ (show v.kind=3/\o=v.o/\r=v.req from⟨b,c⟩),c.1,c.2,VK,f_ (rfl:v.o=v.o),f_ (rfl:v.req=v.req),Bool.and_self,Bool.or_true];show(if true=true/\2<=j/\j<=4 then aN m.g m.gn (pW v) m.gn j else 0)=_;rw[show aN m.g m.gn (pW v) m.gn=pW v from d_ rfl];by_cases a:j=2
   ·rw[d_ a,a,d_ ⟨rfl,by decide,by decide⟩]; rfl
   rw[b_ a];by_cases l:j=3
   ·rw[d_ l,l,d_ ⟨rfl,by decide,by decide⟩]; rfl
   rw[b_ l];by_cases w:j=4
   ·rw[w,d_ ⟨rfl,by decide,by decide⟩]; rfl
   rw[b_ (by omega)]
  rw[b_ (show ¬ (v.kind=3/\o=v.o/\r=v.req)from fun q=>c q.2),b_ (show ¬ (v.kind=4/\o=v.o/\r=v.of/\j=4)from fun q=>C q.1),VJ (fun q=>c ⟨q.1.symm,q.2.symm⟩)];have:(decide (o=v.o)&&decide (r=v.req))=false:=by
   cases e:(decide (o=v.o)&&decide (r=v.req))with
   | false=>rfl
   | true=>rw[R_,O_,O_]at e; exact L_ e c
  rw[this,G_];by_cases a:iA m o r=true/\2<=j/\j<=4
  ·rw[d_ a,d_ a];obtain⟨i,t,d,f⟩:=kV.1 a.1;have:vZ (fun i=>m.g i 0) (fun i=>m.g i 1) m.gn o r<m.gn:=Js a.1;show aN m.g m.gn (pW v) _ j=_;unfold aN;rw[b_ (by omega)];rfl
  rw[b_ a,b_ a]
 funext o r
 show gN (jY m v) o r=(gN m o r || ((decide (v.kind=3) || decide (v.kind=4))&&(decide (o=v.o)&&decide (r=v.req))));rw[f_ b,Bool.true_or,Bool.true_and];exact Lp rfl rfl rfl o r
theorem FL{d f:Nat->Int}{a b:Int} : ∀ {n:Nat},Bf d f n a b=true->d (vZ d f n a b)=a/\f (vZ d f n a b)=b
 | 0,h=>by cases h
 | n+1,h=>by
   unfold vZ;by_cases c:d n=a/\f n=b
   ·rw[d_ c]; exact c
   ·rw[b_ c];obtain⟨j,k,g,i⟩:=kV.1 h;by_cases e:j=n
    ·subst e; exact L_ ⟨g,i⟩ c
    ·exact FL (rG (show j<n by omega) g i)
theorem VQ(G:m.T.ok)(J:bM v=true)(a:v.kind=4)(b:jd m v=0):eF (iq m v)=(eF m).qV v:=by
 have k:v.kind≠1:=by rw[a]; decide
 have x:v.kind≠3:=by rw[a]; decide
 have K:v.kind≠6:=by rw[a]; decide
 have L:v.kind≠7:=by rw[a]; decide
 have f:iA m v.o v.of=true:=by
  unfold jd at b;split at b
  ·cases b
  split at b
  ·cases b
  rename_i c
  cases e:iA m v.o v.of with
  | true=>rfl
  | false=>exact L_ (.inl e) c
 have M:eX m v.o v.of<m.gn:=Js f;have h : ∀ i j,j≠4->aN m.g (eX m v.o v.of) (upd (m.g (eX m v.o v.of)) 4 v.req) i j=m.g i j:=fun i j H=>by
  unfold aN;by_cases c:i=eX m v.o v.of
  ·rw[d_ c,c]; unfold upd; rw[b_ H]
  ·rw[b_ c]
 have n:(fun i=>(iq m v).g i 0)=fun i=>m.g i 0:=by funext i; exact h i 0 (by decide)
 have s:(fun i=>(iq m v).g i 1)=fun i=>m.g i 1:=by funext i; exact h i 1 (by decide)
 have w : ∀ o r,iA (iq m v) o r=iA m o r:=fun o r=>by
  show Bf (fun i=>(iq m v).g i 0) (fun i=>(iq m v).g i 1) m.gn o r=_;rw[n,s]; rfl
 have F : ∀ o r,eX (iq m v) o r=eX m o r:=fun o r=>by
  show vZ (fun i=>(iq m v).g i 0) (fun i=>(iq m v).g i 1) m.gn o r=_;rw[n,s]; rfl
 apply Ab.QL
 ·funext j; exact je (JA K)
 ·funext j; exact je (JA L)
 ·funext j
  show m.own j=m.own j+if v.kind=1/\j=aV v then 1 else 0;rw[b_ (fun q=>k q.1),C_]
 ·funext y; exact je (JA k)
 ·funext y
  show m.T.par y=if v.kind=1/\y=rH v then v.node else m.T.par y;rw[b_ (fun q=>k q.1)]
 ·funext y p; exact adf G J a b y p
 ·funext o r
  show iA (iq m v) o r=(iA m o r || (decide (v.kind=3)&&_));rw[w]; exact je (JA x)
 ·funext o r j
  show(if iA (iq m v) o r=true/\2<=j/\j<=4 then(iq m v).g (eX (iq m v) o r) j else 0)=if v.kind=3/\o=v.o/\r=v.req then _ else if v.kind=4/\o=v.o/\r=v.of/\j=4 then v.req else(if iA m o r=true/\2<=j/\j<=4 then m.g (eX m o r) j else 0);rw[w,F,b_ (show ¬ (v.kind=3/\o=v.o/\r=v.req)from fun q=>x q.1)];show(if iA m o r=true/\2<=j/\j<=4 then aN m.g (eX m v.o v.of) (upd (m.g (eX m v.o v.of)) 4 v.req) (eX m o r) j else 0)=_;by_cases c:v.kind=4/\o=v.o/\r=v.of/\j=4
  ·rw[d_ c,c.2.1,c.2.2.1,c.2.2.2,d_ ⟨f,by decide,by decide⟩];unfold aN upd; rw[d_ rfl,d_ rfl]
  rw[b_ c];by_cases d:iA m o r=true/\2<=j/\j<=4
  ·rw[d_ d,d_ d];by_cases l:j=4
   ·have I:eX m o r≠eX m v.o v.of:=fun e=>c ⟨a,by
     obtain⟨z,A⟩:=FL d.1;obtain⟨B,C⟩:=FL f;have t:m.g (eX m o r) 0=o:=z;have D:m.g (eX m v.o v.of) 0=v.o:=B;have u:m.g (eX m o r) 1=r:=A;have E:m.g (eX m v.o v.of) 1=v.of:=C;rw[e]at t u;exact⟨t.symm.trans D,u.symm.trans E,l⟩⟩
    unfold aN; rw[b_ I]
   exact h _ j l
  rw[b_ d,b_ d]
 funext o r
 show gN (iq m v) o r=(gN m o r || ((decide (v.kind=3) || decide (v.kind=4))&&(decide (o=v.o)&&decide (r=v.req))));rw[f_ a,Bool.or_true,Bool.true_and];exact Lp rfl rfl rfl o r
theorem VR(c:m.T.ok)(j:QD m)(b:bM v=true)(a:fC m v=0):eF (gV m v)=(eF m).qV v:=by
 have k:=iV b;unfold fC at a;unfold gV;by_cases d:v.kind=1
 ·rw[d_ d]at a ⊢; exact VL c b d a
 rw[b_ d]at a ⊢;by_cases e:v.kind=2
 ·rw[d_ e]at a ⊢; exact QO c b e a
 rw[b_ e]at a ⊢;by_cases f:v.kind=3
 ·rw[d_ f]at a ⊢; exact VP c j b f a
 rw[b_ f]at a ⊢;by_cases g:v.kind=4
 ·rw[d_ g]at a ⊢; exact VQ c b g a
 rw[b_ g]at a ⊢;by_cases h:v.kind=5
 ·rw[d_ h]at a ⊢; exact VN c b h a
 rw[b_ h]at a ⊢;by_cases i:v.kind=6
 ·rw[d_ i]; exact VO i
 rw[b_ i]; exact QS (by omega)
theorem QT(c:m.T.ok)(d:QD m)(a:bV m v=0):eF (gJ m v)=(eF m).qV v:=by
 have b:=VR c d (pI a) (pJ a).2.1;unfold gJ;rw[d_ a];exact b
end
end Rt
end
section
set_option linter.unusedVariables false
namespace Rt
structure Ab.Sm(A:Ab)(N:Nat):Prop where
 r : ∀ y p,A.R y p<=65536*N
 g : ∀ o r,A.gh o r=true->1<=A.g o r 3/\A.g o r 3<=65536
structure Rc(m:dM):Prop where
 n:(m.T.n:Int)=m.own 0+m.own 1+m.own 2+m.own 3+m.own 4+m.own 5
 o : ∀ a,a<6->m.own a<=5
section
variable {A:Ab} {m:dM} {L:fB} {N S:Nat} {x y:Int} {v:EvM}
theorem Ab.Sm.dl(m:A.Sm S)(l:A.Pre v)(k:nP v)(y:Int)(p:Nat):A.dl v y p<=65536:=by
 have b:=k.aT;have a : ∀ {c:Prop} [Decidable c] {n:Int},n<=65536->(if c then n else 0)<=65536:=fun {c} _ {n} h=>by split <;> omega
 unfold Ab.dl;by_cases e:v.kind=1
 ·rw[d_ e]; exact a b
 rw[b_ e];by_cases f:v.kind=2
 ·rw[d_ f]; exact a b
 rw[b_ f];by_cases i:v.kind=3
 ·rw[d_ i]; exact a b
 rw[b_ i];by_cases d:v.kind=4
 ·rw[d_ d]; exact a (m.g _ _ (l.n4 d)).2
 rw[b_ d];by_cases j:v.kind=5
 ·rw[d_ j]; exact a b
 rw[b_ j]; decide
theorem Ab.Sm.qV(b:A.Sm S)(f:A.Pre v)(h:bM v=true)(d:nP v):(A.qV v).Sm (S+1) where
 r:=fun y p=>by
  have i:=b.r y p;have j:=b.dl f d y p;show A.R y p+A.dl v y p<=_;omega
 g:=fun o r a=>by
  have a:(A.gh o r || (decide (v.kind=3)&&(decide (o=v.o)&&decide (r=v.req))))=true:=a;by_cases c:v.kind=3/\o=v.o/\r=v.req
  ·have:(A.qV v).g o r 3=v.aT:=(by show(if v.kind=3/\o=v.o/\r=v.req then _ else _)=v.aT; rw[d_ c]; rfl);rw[this]; exact⟨(kP h (.inr (.inl c.1))).1,d.aT⟩
  ·have e:A.gh o r=true:=by
    rcases Bool.or_eq_true_iff.1 a with q|q
    ·exact q
    ·rw[R_,R_]at q; exact L_ ⟨h_ q.1,h_ q.2.1,h_ q.2.2⟩ c
   rw[Ab.Lj f e 3 (by decide)];exact b.g o r e
theorem Rc.row{m':dM}(h:Rc m)(a:m'.T=m.T)(b:m'.own=m.own):Rc m':=by
 cases m'; cases m; cases a; cases b; exact⟨h.n,h.o⟩
theorem Rc.does(h:Rc m)(l:bM v=true)(b:fC m v=0):Rc (gV m v):=by
 unfold fC at b;unfold gV;by_cases c:v.kind=1
 ·rw[d_ c]at b ⊢;have q:m.own (aK v)<5:=by
   unfold iP at b;split at b
   ·cases b
   ·omega
  have r:=jZ l;have p:=h.n;refine⟨?_,fun a k => ?_⟩
  ·show((m.T.n+1:Nat):Int)=aI m.own (aK v) (m.own (aK v)+1) 0+aI m.own (aK v) (m.own (aK v)+1) 1+aI m.own (aK v) (m.own (aK v)+1) 2+aI m.own (aK v) (m.own (aK v)+1) 3+aI m.own (aK v) (m.own (aK v)+1) 4+aI m.own (aK v) (m.own (aK v)+1) 5;unfold aI
   rcases(show aK v=0\/aK v=1\/aK v=2\/aK v=3\/aK v=4\/aK v=5 by omega)with e|e|e|e|e|e <;> rw[e] <;> simp <;> omega
  show aI m.own (aK v) (m.own (aK v)+1) a<=5;have:=h.o a k;unfold aI; split <;> omega
 rw[b_ c];by_cases d:v.kind=2
 ·rw[d_ d]; exact h.row rfl rfl
 rw[b_ d];by_cases f:v.kind=3
 ·rw[d_ f]; exact h.row rfl rfl
 rw[b_ f];by_cases g:v.kind=4
 ·rw[d_ g]; exact h.row rfl rfl
 rw[b_ g];by_cases i:v.kind=5
 ·rw[d_ i]; exact h.row rfl rfl
 rw[b_ i];by_cases j:v.kind=6
 ·rw[d_ j]; exact h.row rfl rfl
 rw[b_ j]; exact h.row rfl rfl
theorem Rc.apply(h:Rc m):Rc (gJ m v):=by
 unfold gJ;by_cases c:bV m v=0
 ·rw[d_ c]; exact(h.does (pI c) (pJ c).2.1).row rfl rfl
 rw[b_ c]; exact h
theorem Zw(x:Nat->Int)(a:Nat):Rt.L x a=Cm x a:=by
 have e : ∀ i,R x a i=x (18+(6*a+i)):=fun i=>by unfold R; congr 1; omega
 have b:R x 0 a=x (18+(6*0+a)):=by unfold R; congr 1; omega
 have c:R x 1 a=x (18+(6*1+a)):=by unfold R; congr 1; omega
 have d:R x 2 a=x (18+(6*2+a)):=by unfold R; congr 1; omega
 have f:R x 3 a=x (18+(6*3+a)):=by unfold R; congr 1; omega
 have g:R x 4 a=x (18+(6*4+a)):=by unfold R; congr 1; omega
 have h:R x 5 a=x (18+(6*5+a)):=by unfold R; congr 1; omega
 unfold Rt.L Cm;rw[e,e,e,e,e,e,b,c,d,f,g,h];unfold G C F;omega
theorem Cq{x:Nat->Int}(h:may x=true)(b:bM v=true):fF x v.o=Cm x (aV v):=by
 obtain⟨e,a,_⟩:=FK b;rw[e,nI h _ a,Zw]
theorem xU{x:Nat->Int}{n:Int}{b:Bool}{a:Int}{off:Nat}(h1:may x=true)(c:1<=n)(d:n<=1125899906842624)(e:b=true)(f:a=0)(g:x off+n<=1125899906842624):(bQ x n b a off).2=0:=by
 rcases nN x n b a off with ⟨_,_,h⟩|⟨_,h⟩
 ·exact L_ ⟨h1,c,d,e,f,g⟩ h
 rw[h]
theorem Da{f:(Nat->Int)->(Nat->Int) × Int}{r:Nat->Nat->Int} : ∀ {n:Nat},(∀ i,i<n->(f (r i)).2=0)->jA f r n=0
 | 0,_=>rfl
 | n+1,h=>Cg (Da fun i a=>h i (by omega)) (h n (by omega))
theorem FM(c:m.T.ok){f:(Nat->Int)->(Nat->Int) × Int}{x:Int}(h : ∀ y,y∈m.T.path x->(f (bf m y)).2=0):dn m f (m.T.path x)=0 :=
 Da fun i a=>by
  have b:(m.T.path x).getD i 0∈m.T.path x:=by
   rw[r_,o_ a]; exact P_ a
  have:=h _ b;unfold bf at this;rw[d_ (dK.nR c rfl _ b)]at this;exact this
theorem Ac(h:bM v=true)(b:v.kind=5):1<=v.dst/\v.dst<=6/\v.dst≠v.o:=by
 unfold bM at h;simp only[R_]at h;have a:=h.2;unfold dI at a;rw[b_ (by omega),b_ (by omega),b_ (by omega),b_ (by omega),d_ b,R_]at a;have:=a.2;unfold lM jI at this;simp at this;omega
theorem Yw(a:bM v=true):gD v.o=true:=by have:=nO a; unfold gD; simp; omega
end
structure Tw(m:dM)(L:fB)(N S:Nat):Prop where
 t:FZ m L N
 w:Rc m
 s:(eF m).Sm S
 b:S<=1000000
section
variable {m:dM} {L:fB} {N S:Nat} {x y:Int} {v:EvM}
theorem FZ.may(h:FZ m L N)(hy:m.T.has y=true):may (bf m y)=true:=by
 obtain⟨i,a,e⟩:=(h.s.T.has y).1 hy;unfold bf;rw[d_ hy,<- e,h.s.row i a];exact h.i.may i a
theorem Tw.cell(h:Tw m L N S)(y:Int)(p:Nat):bf m y p<=65536000000:=by
 have:=h.s.r y p;have a:=h.b;show(eF m).R y p<=_;omega
theorem Tw.make(h:Tw m L N S)(s:bM v=true)(k:v.kind=1)(j:(eF m).QM v):iP m v=0:=by
 obtain⟨a,b,c⟩:=j.pre.n1 k;obtain⟨d,e,f⟩:=j.k1 k;have r:rH v=mY v:=qJ s;rw[r]at a b;unfold iP;have d:m.own (aK v)<5:=d;rw[b_ (show ¬ (5<=m.own (aK v)\/140737488355328<v.aT) by omega)];show qF m.T.x m.T.p m.T.n (mY v) v.node=0;unfold qF;have a:dO m.T.x m.T.n (mY v)=false:=a;rw[b_ b,b_ (by rw[a]; decide)];rw[b_ (show ¬ (¬ v.node=0/\dO m.T.x m.T.n v.node=false)from fun q=>by
  rcases c with c|c
  ·exact q.1 c
  ·have c:dO m.T.x m.T.n v.node=true:=c;rw[q.2]at c; cases c)]
 rw[b_];rintro (q|q)
 ·have y:=h.w.n;have g:=h.w.o;have:=g 0 (by decide); have:=g 1 (by decide); have:=g 2 (by decide); have:=g 3 (by decide); have:=g 4 (by decide); have:=g 5 (by decide);omega
 obtain⟨u,_⟩:=Ec h.t.t _ v.node (z_ _);exact f fun i l=>by
  rw[FI];exact(u i (n_ l q)).2
theorem Tw.make'(h:Tw m L N S)(k:bM v=true)(o:v.kind=1)(a:iP m v=0):(rH v≠0/\(eF m).has (rH v)=false/\(v.node=0\/(eF m).has v.node=true))/\(eF m).own (aV v)<5/\v.aT<=140737488355328 /\ ¬ ∀ i,i<4->(eF m).has ((eF m).up v.node i)=true:=by
 have j:rH v=mY v:=qJ k;unfold iP at a;by_cases c:5<=m.own (aK v)\/140737488355328<v.aT
 ·rw[d_ c]at a; cases a
 rw[b_ c]at a;obtain⟨d,e,f,n,g⟩:=Eu a;rw[j];refine⟨⟨d,e,f⟩,?_,by omega,fun q => ?_⟩
 ·show m.own (aK v)<5;omega
 obtain⟨_,l⟩:=Ec h.t.t _ v.node (z_ _);have:=q _ (show(m.T.path v.node).length<4 from g);rw[FI]at this;have b:m.T.has (Ll m.T v.node (m.T.path v.node).length)=true:=this;rw[l]at b; cases b
theorem Tw.does(h:Tw m L N S)(c:bM v=true)(I:nP v)(j:(eF m).QM v):fC m v=0:=by
 have k:=h.t.t;have P:=j.pre;have D:=Yw c;have G : ∀ y p n,n<=65536->bf m y p+n<=1125899906842624:=fun y p n U=>by have:=h.cell y p; omega
 unfold fC;by_cases E:v.kind=1
 ·rw[d_ E]; exact h.make c E j
 rw[b_ E];by_cases A:v.kind=2
 ·rw[d_ A];have a:m.T.has v.node=true:=P.n2 A;have:=j.k2 A;have e:(eF m).R v.node (aV v)=m.R (m.idx v.node) (aK v):=by
   show bf m v.node (aV v)=_;unfold bf; rw[d_ a]; rfl
  rw[e]at this;unfold jr;rw[b_ (by rw[a]; decide),b_ (by omega)]
 rw[b_ A];by_cases w:v.kind=3
 ·rw[d_ w];have a:m.T.has v.node=true:=(P.n3 w).1;obtain⟨b,i⟩:=j.k3 w;have b:gN m v.o v.req=false:=b;have r:=kP c (.inr (.inl w));unfold jL;rw[b_ (by rw[b]; decide),b_ (by rw[a]; decide)];refine FM (f:=fun x=>bC x v.o v.aT) k fun y u => ?_;have d:=h.t.may (dK.nR k rfl y u);have:=i y ((Co k _ y).2 u);have this:v.aT<=Cm (bf m y) (aV v):=this;refine xU d r.1 r.2 D ?_ (G y _ _ I.aT);unfold qx;rw[Cq d c,g_ (by omega)]; rfl
 rw[b_ w];by_cases z:v.kind=4
 ·rw[d_ z];have a:iA m v.o v.of=true:=P.n4 z;obtain⟨b,i,J⟩:=j.k4 z;have b:gN m v.o v.req=false:=b;have K:(eF m).g v.o v.of 2=m.g (eX m v.o v.of) 2:=d_ ⟨a,by decide,by decide⟩;have H:(eF m).g v.o v.of 3=m.g (eX m v.o v.of) 3:=d_ ⟨a,by decide,by decide⟩;have M:(eF m).g v.o v.of 4=m.g (eX m v.o v.of) 4:=d_ ⟨a,by decide,by decide⟩;have B:=h.s.g _ _ (P.n4 z);rw[K,H]at J;rw[H]at B;rw[M]at i;unfold jd;rw[b_ (by rw[b]; decide),b_ (show ¬ (iA m v.o v.of=false\/m.g (eX m v.o v.of) 4≠0)from fun q=>q.elim (fun q=>by rw[a]at q; cases q) (fun q=>q i))]
  refine FM (f:=fun x=>bD x v.o (m.g (eX m v.o v.of) 3)) k fun y u => ?_;have d:=h.t.may (dK.nR k rfl y u);have:=J y ((Co k _ y).2 u);have this:m.g (eX m v.o v.of) 3<=bf m y (6+aV v)-bf m y (12+aV v):=this;refine xU d B.1 (by omega) D ?_ (G y _ _ B.2);unfold qy C F;rw[(FK c).2.2,g_ (by omega)]; rfl
 rw[b_ z];by_cases l:v.kind=5
 ·rw[d_ l];have a:m.T.has v.node=true:=P.n5 l;obtain⟨b,i⟩:=j.k5 l;have b:m.inn (v.dst-1).toNat=true:=b;have i:v.aT<=Cm (bf m v.node) (aV v):=i;have r:=kP c (.inr (.inr l));have d:=h.t.may a;have O:bf m v.node=m.R (m.idx v.node):=by unfold bf; rw[d_ a]; rfl
  have Q:=Ac c l;unfold jX;rw[b_ (by rw[a]; decide),b_ (by rw[b]; decide)];show(cB (m.R (m.idx v.node)) v.o v.dst v.aT).2=0;rw[<- O];refine xU d r.1 r.2 (by rw[D,show gD v.dst=true by unfold gD; simp; omega]; rfl) ?_ (G _ _ _ I.aT);unfold nH;rw[b_ (fun e=>Q.2.2 e.symm),Cq d c,g_ (by omega)]; rfl
 rw[b_ l];split <;> rfl
theorem Tw.okE(h:Tw m L N S)(D:bM v=true)(h1:m.inn (aK v)=true)(p:m.left (aK v)=false)(d:fC m v=0):(eF m).QM v:=by
 have B:=h.t.t;unfold fC at d;have no : ∀ {k:Int} {P:Prop},v.kind≠k->v.kind=k->P:=fun a b=>L_ b a;by_cases r:v.kind=1
 ·rw[d_ r]at d;obtain⟨⟨H,I,J⟩,b⟩:=h.make' D r d;have n : ∀ {k:Int} {P:Prop},k≠1->v.kind=k->P:=fun a b=>L_ (b.symm.trans r) a;exact⟨h1,p,⟨fun _=>⟨I,H,J⟩,n (by decide),n (by decide),n (by decide),n (by decide)⟩,fun _=>b,n (by decide),n (by decide),n (by decide),n (by decide)⟩
 rw[b_ r]at d;by_cases w:v.kind=2
 ·rw[d_ w]at d;have n : ∀ {k:Int} {P:Prop},k≠2->v.kind=k->P:=fun a b=>L_ (b.symm.trans w) a;unfold jr at d
  cases f:m.T.has v.node with
  | false=>rw[d_ f]at d; cases d
  | true =>
    rw[b_ (by rw[f]; decide)]at d;have e:(eF m).R v.node (aV v)=m.R (m.idx v.node) (aK v):=by
     show bf m v.node (aV v)=_;unfold bf; rw[d_ f]; rfl
    refine⟨h1,p,⟨n (by decide),fun _=>f,n (by decide),n (by decide),n (by decide)⟩,n (by decide),fun _ => ?_,n (by decide),n (by decide),n (by decide)⟩;rw[e];by_cases c:140737488355328<m.R (m.idx v.node) (aK v)+v.aT
    ·rw[d_ c]at d; cases d
    ·omega
 rw[b_ w]at d;by_cases x:v.kind=3
 ·rw[d_ x]at d;have n : ∀ {k:Int} {P:Prop},k≠3->v.kind=k->P:=fun a b=>L_ (b.symm.trans x) a;unfold jL at d
  cases c1:gN m v.o v.req with
  | true=>rw[d_ c1]at d; cases d
  | false =>
    rw[b_ (by rw[c1]; decide)]at d
    cases f:m.T.has v.node with
    | false=>rw[d_ f]at d; cases d
    | true =>
      rw[b_ (by rw[f]; decide)]at d;have W:iA m v.o v.req=false:=oQ fun i u e=>by
       have:=h.t.s.ga i u;rw[e.1,e.2,c1]at this; cases this
      refine⟨h1,p,⟨n (by decide),n (by decide),fun _=>⟨f,W⟩,n (by decide),n (by decide)⟩,n (by decide),n (by decide),fun _=>⟨c1,fun y l => ?_⟩,n (by decide),n (by decide)⟩;have l:=(Co B _ y).1 l;have q:(bC (bf m y) v.o v.aT).2=0:=yP B d l;unfold bC at q;have G:=yO q;have j:=G.2.2.2.2.1;unfold qx at j;rw[Cq G.1 D]at j;show v.aT<=Cm (bf m y) (aV v);by_cases c:Cm (bf m y) (aV v)<v.aT
      ·rw[f_ c]at j; cases j
      ·omega
 rw[b_ x]at d;by_cases z:v.kind=4
 ·rw[d_ z]at d;have n : ∀ {k:Int} {P:Prop},k≠4->v.kind=k->P:=fun a b=>L_ (b.symm.trans z) a;unfold jd at d
  cases c1:gN m v.o v.req with
  | true=>rw[d_ c1]at d; cases d
  | false =>
    rw[b_ (by rw[c1]; decide)]at d;by_cases A:iA m v.o v.of=false\/m.g (eX m v.o v.of) 4≠0
    ·rw[d_ A]at d; cases d
    ·rw[b_ A]at d;have f:iA m v.o v.of=true:=by
      cases e:iA m v.o v.of with
      | true=>rfl
      | false=>exact L_ (.inl e) A
     have U:m.g (eX m v.o v.of) 4=0:=Classical.byContradiction fun q=>A (.inr q);have K:(eF m).g v.o v.of 2=m.g (eX m v.o v.of) 2:=d_ ⟨f,by decide,by decide⟩;have M:(eF m).g v.o v.of 3=m.g (eX m v.o v.of) 3:=d_ ⟨f,by decide,by decide⟩;have O:(eF m).g v.o v.of 4=m.g (eX m v.o v.of) 4:=d_ ⟨f,by decide,by decide⟩;refine⟨h1,p,⟨n (by decide),n (by decide),n (by decide),fun _=>f,n (by decide)⟩,n (by decide),n (by decide),n (by decide),fun _=>⟨c1,O.trans U,fun y l => ?_⟩,n (by decide)⟩;rw[K]at l;rw[M];have l:=(Co B _ y).1 l;have q:(bD (bf m y) v.o (m.g (eX m v.o v.of) 3)).2=0:=yP B d l;unfold bD at q;have G:=yO q;have j:=G.2.2.2.2.1;unfold qy C F at j;rw[(FK D).2.2]at j;show m.g (eX m v.o v.of) 3<=bf m y (6+aV v)-bf m y (12+aV v);by_cases c:bf m y (6+aV v)-bf m y (12+aV v)<m.g (eX m v.o v.of) 3
     ·rw[f_ c]at j; cases j
     ·omega
 rw[b_ z]at d;by_cases E:v.kind=5
 ·rw[d_ E]at d;have n : ∀ {k:Int} {P:Prop},k≠5->v.kind=k->P:=fun a b=>L_ (b.symm.trans E) a;unfold jX at d
  cases f:m.T.has v.node with
  | false=>rw[d_ f]at d; cases d
  | true =>
    rw[b_ (by rw[f]; decide)]at d
    cases u:m.inn (v.dst-1).toNat with
    | false=>rw[d_ u]at d; cases d
    | true =>
      rw[b_ (by rw[u]; decide)]at d;have hm:=h.t.may f;have Q:bf m v.node=m.R (m.idx v.node):=(by unfold bf; rw[d_ f]; rfl);obtain⟨a,b,ha,hb,hne,ho,hd,X,Y,V,hM,heq⟩:=AY d;refine⟨h1,p,⟨n (by decide),n (by decide),n (by decide),n (by decide),fun _=>f⟩,n (by decide),n (by decide),n (by decide),n (by decide),fun _=>⟨u,?_⟩⟩;show v.aT<=Cm (bf m v.node) (aV v);rw[Q,<- Zw,show aV v=a by unfold aV; omega];exact V
 have Z:=iV D;exact⟨h1,p,⟨no r,no w,no x,no z,no E⟩,no r,no w,no x,no z,no E⟩
theorem Yx{K:Nat->Int}(h:dw K v=true):lX K v=false:=by
 obtain⟨a,b,c⟩:=Dz h;unfold lX;rw[g_ (show ¬ v.seq<=K (v.o-1).toNat by have b:v.seq=K (v.o-1).toNat+1:=b; omega),H_]
theorem Tw.check(h:Tw m L N S)(i:nP v)(hr:dw m.known v=true):bV m v=0<->(eF m).QM v:=by
 have f:=(Dz hr).1;constructor
 ·intro g;obtain⟨a,b,c,d⟩:=pJ g;exact h.okE f c d b
 intro e;unfold bV;rw[b_ (by rw[f]; decide),b_ (by rw[Yx hr]; decide),b_ (by rw[hr]; decide),b_,h.does f i e];rintro (q|q)
 ·have:=e.inn; rw[show(eF m).inn (aV v)=m.inn (aK v)from rfl,q]at this; cases this
 have:=e.left; rw[show(eF m).left (aV v)=m.left (aK v)from rfl,q]at this; cases this
end
end Rt
end
section
set_option linter.unusedVariables false
namespace Rt
def Zx(k:Nat):Ab:=eF (xQ k 0 0 0 0 0 0)
structure Ws(k:Nat)(ev:Nat->EvM)(an:Nat):Prop extends Evs (Zx k) ev an where
 sm : ∀ i,i<an->nP (ev i)
 an:an<=1000
structure tZ(k:Nat)(ev:Nat->EvM)(an:Nat)(L:fB):Prop where
 ex : ∃ m N,FZ m L N/\Rc m/\eF m=fO ev L.known (Zx k) an
 kc:FV ev an L.known
section
variable {ev ev':Nat->EvM} {an n k i j:Nat} {K:Nat->Int} {L L':fB} {v:EvM} {m:dM} {N S:Nat} {A:Ab}
theorem adg(h:bM v=true):O4 v:=by
 have a:=nO h;refine⟨⟨a.1,a.2.1⟩,a.2.2,?_,fun d=>⟨(Ac h d).1,(Ac h d).2.1⟩⟩;have i:=iV h;by_cases g:v.kind=2\/v.kind=3\/v.kind=5
 ·have:=(kP h g).1; omega
 have c:rz v=true:=by unfold bM at h; simp only[R_]at h; exact h.1.2
 have b:dI v=true:=by unfold bM at h; simp only[R_]at h; exact h.2
 by_cases f:v.kind=1
 ·unfold dI at b;rw[d_ f]at b;simp at b;omega
 have e:v.aT=(kH v).aT:=by unfold rz at c; simp only[R_,decide_eq_true_eq]at c; exact c.1.1.2
 rw[e];unfold kH;rw[b_ f,b_ (by omega),b_ (by omega)];split
 ·exact M_ _
 rw[b_ (by omega)];split <;> exact M_ _
theorem adh(k:Nat):(Zx k).Ok:=⟨rfl,fun _ h=>(nomatch h),fun _ _=>rfl,fun _ _ h=>(nomatch h),fun _ _ _=>rfl⟩
theorem adi(k:Nat):(Zx k).Sm 0:=⟨fun _ _=>M_ _,fun _ _ h=>(nomatch h)⟩
theorem ow0(k:Nat):Rc (xQ k 0 0 0 0 0 0):=⟨rfl,fun _ _=>by show(0:Int)<=5; decide⟩
theorem Ab.Sm.mono{S':Nat}(h:A.Sm S)(a:S<=S'):A.Sm S':=⟨fun y p=>by have:=h.r y p; omega,h.g⟩
theorem Evs.cz(h:Evs A ev an):Cz 6 an ev (fun _=>eO ev an) where
 rd:=h.rd
 reg:=fun k a=>(h.g k a).reg.2
 own:=fun _ _=>rfl
 kc:=fun _ _=>⟨fun _ _=>M_ _,fun k a _ i b=>Q_ ((Dz (h.rd k a)).2.2 i b) (cnt_mono (by omega))⟩
theorem Ws.fsm(W:Ws k ev an)(a:FV ev an K) : ∀ n,n<=an->(fO ev K (Zx k) n).Sm n
 | 0,_=>adi k
 | n+1,hn=>by
   have b:=W.fsm a n (by omega)
   cases c:wH K (ev n)with
   | true =>
     rw[lZ c];exact b.qV ((uS W.toEvs (n+1) hn K a).2 n (by omega) c).pre (Dz (W.rd n (by omega))).1 (W.sm n (by omega))
   | false=>rw[mF c]; exact b.mono (by omega)
theorem tZ.tw(h:tZ k ev an L)(W:Ws k ev an) : ∃ m N,Tw m L N an/\eF m=fO ev L.known (Zx k) an:=by
 obtain⟨m,N,b,c,a⟩:=h.ex;exact⟨m,N,⟨b,c,by rw[a]; exact W.fsm h.kc an (z_ _),by have:=W.an; omega⟩,a⟩
theorem tZ.ready(h:tZ k ev an L)(W:Ws k ev an)(c:j<an)(hr:dw L.known (ev j)=true):bG L (ev j)=0:=by
 obtain⟨m,N,a,d⟩:=h.tw W;have b:=HZ W.toEvs h.kc c hr (show j<=an by omega) (z_ _);rw[<- d]at b;rw[<- (a.t.s.apply a.t.t a.t.i (ev j)).1];exact(a.check (W.sm j c) (by rw[a.t.s.known]; exact hr)).2 b
theorem tZ.apply(h:tZ k ev an L)(W:Ws k ev an)(b:j<an):tZ k ev an (dz L (ev j)):=by
 rcases qK L (ev j)with ⟨c,e⟩|⟨c,e⟩
 ·have d:=iW c;obtain⟨m,N,a,f,g⟩:=h.ex;have l:bV m (ev j)=0:=(a.s.apply a.t a.i (ev j)).1.trans c;refine⟨⟨gJ m (ev j),N+1,a.apply (ev j),f.apply,?_⟩,by rw[e]; exact W.toEvs.cz.step h.kc b d⟩;rw[QT a.t a.s.ga l,g,e];exact(Yt W.toEvs h.kc b d).symm
 rw[e]; exact h
theorem tZ.pass(W:Ws k ev an){a:Nat->Int}(h:tZ k ev an L) : ∀ j,j<=an->tZ k ev an (oo ev a L j)
 | 0,_=>h
 | j+1,hj=>by
   unfold oo;split
   ·exact(h.pass W j (by omega)).apply W (by omega)
   ·exact h.pass W j (by omega)
theorem tZ.iO(W:Ws k ev an){a:Nat->Int} : ∀ f L,tZ k ev an L->tZ k ev an (iO ev an a f L)
 | 0,L,hL=>by unfold Rt.iO; exact hL
 | f+1,L,hL=>by
   unfold Rt.iO;split
   ·exact hL.pass W an (z_ _)
   ·exact tZ.iO W f _ (hL.pass W an (z_ _))
theorem tZ.new(k:Nat)(ev:Nat->EvM)(an:Nat)(a : ∀ i,i<an->1<=(ev i).seq)(f:Nat):tZ k ev an (kN k f).core:=by
 have d : ∀ n,n<=an->fO ev (fun _=>0) (Zx k) n=Zx k:=fun n=>by
  induction n with
  | zero=>intro _; rfl
  | succ n ih =>
    intro h;have c:wH (fun _=>0) (ev n)=false:=g_ (show ¬ (ev n).seq<=0 by have:=a n (by omega); omega);rw[mF c]; exact ih (by omega)
 exact⟨⟨xQ k 0 0 0 0 0 0,0,FZ.new k,ow0 k,(d an (z_ _)).symm⟩,fun i b=>zV an i,fun i b e j g=>L_ (show(ev i).seq<=0 from e) (by have:=a i b; omega)⟩
theorem Cr(h : ∀ i,i<n->ev' i=ev i):fO ev' K A n=fO ev K A n:=by
 induction n with
 | zero=>rfl
 | succ n ih =>
   show(if wH K (ev' n)=true then(fO ev' K A n).qV (ev' n)else fO ev' K A n)=_;rw[ih fun i a=>h i (by omega),h n (by omega)]; rfl
theorem wo{v:EvM} : ∀ i,i<an->aI ev an v i=ev i:=fun i a=>b_ (by omega)
theorem rJ{v:EvM}:aI ev an v an=v:=d_ rfl
theorem FV.more(h:FV ev an K)(g:bM v=true)(l:v.seq=eO ev an (aK v)+1):FV (aI ev an v) (an+1) K/\wH K v=false:=by
 have c : ¬ v.seq<=K (aK v):=by have:=h.le _ (jZ g); omega
 refine⟨⟨fun i b => ?_,fun i b a j f => ?_⟩,g_ c⟩
 ·have:=h.le i b;have d:=cnt_mono (ev:=aI ev an v) (j:=an) (k:=an+1) (i:=i) (by omega);rw[Bb an (z_ _)]at d;omega
 by_cases e:i=an
 ·rw[e,rJ]at a; exact L_ a c
 rw[wo i (by omega)]at a ⊢;exact h.cl i (by omega) a j f
theorem tZ.more(h:tZ k ev an L)(g:bM v=true)(f:v.seq=eO ev an (aK v)+1):tZ k (aI ev an v) (an+1) L:=by
 obtain⟨m,N,c,d,e⟩:=h.ex;obtain⟨a,b⟩:=h.kc.more g f;refine⟨⟨m,N,c,d,?_⟩,a⟩;rw[mF (by rw[rJ]; exact b),Cr wo];exact e
theorem Ws.more(W:Ws k ev an)(h:tZ k ev an L)(u:an<1000)(p:nP v)(n:bG L v=0)(d:v.deps=L.known)(f:v.seq=eO ev an (aK v)+1):Ws k (aI ev an v) (an+1):=by
 have o:=iW n;have c:=(Dz o).1;have q : ∀ j,j<=an -> ∀ i,eO (aI ev an v) j i=eO ev j i:=fun j a i=>Bb j a i;have l : ∀ j,j<=an->eO (aI ev an v) j=eO ev j:=fun j a=>funext (q j a);refine { ok0:=W.ok0,rd:=fun j a => ?_,g:=fun j a => ?_,dc:=fun j a => ?_,tk:=fun j a => ?_,sm:=fun j a => ?_,an:=by omega }
 ·by_cases e:j=an
  ·rw[e,rJ,l an (z_ _)];exact BR c f (by rw[d]; exact h.kc.le)
  rw[wo j (by omega),l j (by omega)]; exact W.rd j (by omega)
 ·by_cases e:j=an
  ·rw[e,rJ]; exact adg c
  rw[wo j (by omega)]; exact W.g j (by omega)
 ·by_cases e:j=an
  ·rw[e,rJ,d]; exact(h.kc.more c f).1
  rw[wo j (by omega)]; exact((W.dc j (by omega)).more c f).1
 ·by_cases e:j=an
  ·rw[e,rJ,d,Cr wo];obtain⟨m,N,b,r⟩:=h.tw W;rw[<- r];exact(b.check p (by rw[b.t.s.known]; exact o)).1 ((b.t.s.apply b.t.t b.t.i v).1.trans n)
  rw[wo j (by omega),Cr fun i w=>wo i (by omega)]; exact W.tk j (by omega)
 by_cases e:j=an
 ·rw[e,rJ]; exact p
 rw[wo j (by omega)]; exact W.sm j (by omega)
theorem Ws.zero(k:Nat)(ev:Nat->EvM):Ws k ev 0 where
 ok0:=adh k
 rd:=fun _ h=>L_ h (u_ _)
 g:=fun _ h=>L_ h (u_ _)
 dc:=fun _ h=>L_ h (u_ _)
 tk:=fun _ h=>L_ h (u_ _)
 sm:=fun _ h=>L_ h (u_ _)
 an:=by decide
end
structure WC(M:WM):Prop where
 w:Ws M.n M.ev M.an
 f : ∀ o,o<M.n->tZ M.n M.ev M.an (M.ml o).core
theorem WC.new{M:WM}(a:M.an=0)(h : ∀ i,(M.ml i).core=(kN M.n 0).core):WC M:=by
 refine⟨by rw[a]; exact .zero _ _,fun o c=>by rw[h,a]; exact .new _ _ _ (fun i b=>L_ b (u_ _)) 0⟩
theorem WC.do{w':World}{M k:WM}{B p T o:Nat}{x:Aa}{v:EvM}(h:WC M)(y:nW w' B p k T)(j:o<M.n)(a:DoR o x M k v)(z:M.an<1000)(A:(M.ml o).s.known o=eO M.ev M.an o):WC k:=by
 rcases a.c with ⟨u,g,d,b⟩|⟨u,g,d,b,h5,h6,h7,h8⟩
 ·refine⟨by rw[a.n,g,d]; exact h.w,fun q i => ?_⟩;rw[a.n]at i;rw[a.n,g,d];by_cases e:q=o
  ·rw[e]
   rcases b with b|⟨_,b⟩
   ·rw[b]; exact h.f o j
   rw[b]; exact tZ.iO h.w _ _ (h.f o j)
  rw[a.oth q e]; exact h.f q i
 have C:=iW b;have r:=(Dz C).1;have t:aK v=o:=by unfold aK; omega
 have l:v.seq=eO M.ev M.an (aK v)+1:=by rw[t,<- A]; exact h7
 have D:nP v:=by
  have:=y.sm M.an (by omega);rw[d,rJ]at this; exact this
 have m:Ws M.n (aI M.ev M.an v) (M.an+1):=h.w.more (h.f o j) z D b h8 l;refine⟨by rw[a.n,g,d]; exact m,fun q i => ?_⟩;rw[a.n]at i;rw[a.n,g,d];by_cases e:q=o
 ·rw[e,h5];have:=((h.f o j).more r l).apply m (show M.an<M.an+1 by omega);rw[rJ]at this;exact this
 rw[a.oth q e]; exact(h.f q i).more r l
end Rt
end
section
set_option linter.unusedVariables false
namespace Rt
structure Lu(L L':fB):Prop where
 inn:L'.inn=L.inn
 left:L'.left=L.left
 kn : ∀ i,i<6->L'.known i=L.known i
 nn:L'.nn=L.nn
 gn:L'.gn=L.gn
 n : ∀ k,k<L.nn->L'.id k=L.id k/\L'.par k=L.par k/\L'.R k=L.R k
 g : ∀ k,k<L.gn -> ∀ p,p<5->L'.g k p=L.g k p
section
variable {ev:Nat->EvM} {an k:Nat} {L L':fB} {m m':dM} {N N':Nat}
theorem fM.adj(h:fM m L){q:Nat}(i:q<L.gn):iA m (L.g q 0) (L.g q 1)=true /\ ∀ p,2<=p->p<=4->(eF m).g (L.g q 0) (L.g q 1) p=L.g q p:=by
 obtain⟨j,d,e⟩:=h.g1 q i;have c:iA m (L.g q 0) (L.g q 1)=true:=rG d (by rw[<- e]) (by rw[<- e]);have f:eX m (L.g q 0) (L.g q 1)=j:=yJ h.gi d (by rw[<- e]) (by rw[<- e]);refine⟨c,fun p a b => ?_⟩;rw[show(eF m).g (L.g q 0) (L.g q 1) p=m.g (eX m (L.g q 0) (L.g q 1)) p from d_ ⟨c,a,b⟩,f,e]
theorem H9{f:Nat->Int}{n i:Nat}(hi:i<n):((List.range n).map f).getD i 0=f i:=by
 rw[r_,o_ (by rw[List.length_map,List.length_range]; exact hi)]; simp
theorem Ia{f g:Nat->Int}{n n':Nat}(m : ∀ i j,i<j->j<n->f i<f j)(o : ∀ i j,i<j->j<n'->g i<g j)(h1 : ∀ i,i<n -> ∃ j,j<n'/\g j=f i)(l : ∀ j,j<n' -> ∃ i,i<n/\f i=g j):n'=n /\ ∀ i,i<n->g i=f i:=by
 have e:(List.range n).map f=(List.range n').map g:=um (by
  rw[List.pairwise_map];exact(List.pairwise_lt_range (n:=n)).imp_of_mem fun {a b} _ hb hab=>m a b hab (N_.1 hb)) (by
  rw[List.pairwise_map];exact(List.pairwise_lt_range (n:=n')).imp_of_mem fun {a b} _ hb hab=>o a b hab (N_.1 hb)) fun x=>by
  rw[List.mem_map,List.mem_map];constructor
  ·rintro ⟨i,c,rfl⟩;obtain⟨j,d,k⟩:=h1 i (N_.1 c);exact⟨j,N_.2 d,k⟩
  ·rintro ⟨j,d,rfl⟩;obtain⟨i,c,h⟩:=l j (N_.1 d);exact⟨i,N_.2 c,h⟩
 have p:n'=n:=by have:=K_ List.length e; rw[List.length_map,List.length_map,List.length_range,List.length_range]at this; exact this.symm
 refine⟨p,fun i c => ?_⟩;have:=K_ (fun z:List Int=>z.getD i 0) e;have:((List.range n).map f).getD i 0=((List.range n').map g).getD i 0:=this;rw[H9 c,H9 (by omega)]at this;exact this.symm
theorem FZ.same(h:FZ m L N)(d:FZ m' L' N')(C:zi L)(D:zi L')(e:eF m'=eF m)(I : ∀ i,i<6->L'.known i=L.known i):Lu L L':=by
 have B : ∀ y,m'.T.has y=m.T.has y:=fun y=>congrFun (K_ Ab.has e) y;have J : ∀ y,m'.T.par y=m.T.par y:=fun y=>congrFun (K_ Ab.par e) y;have H : ∀ y,bf m' y=bf m y:=fun y=>congrFun (K_ Ab.R e) y;have u : ∀ o r,iA m' o r=iA m o r:=fun o r=>congrFun (congrFun (K_ Ab.gh e) o) r;have w : ∀ {m:dM} {L:fB} {N:Nat},FZ m L N -> ∀ i,i<L.nn->m.T.has (L.id i)=true/\bf m (L.id i)=L.R i:=fun {m L N} h i k=>by
  have a:m.T.has (L.id i)=true:=(h.s.T.has _).2 ⟨i,k,rfl⟩;refine⟨a,?_⟩;unfold bf;rw[d_ a,h.s.row i k]
 obtain⟨Q,z⟩:=Ia (f:=L.id) (g:=L'.id) (n:=L.nn) (n':=L'.nn) h.i.rise d.i.rise (fun i k=>(d.s.T.has _).1 (by rw[B]; exact(w h i k).1)) (fun i k=>(h.s.T.has _).1 (by rw[<- B]; exact(w d i k).1));have F : ∀ {m m':dM} {L L':fB} {N N':Nat},FZ m L N->FZ m' L' N'->(∀ o r,iA m' o r=iA m o r) -> ∀ q,q<L.gn -> ∃ j,j<L'.gn/\nS (L'.g j)=nS (L.g q):=fun {m m' L L' N N'} h d u q t=>by
  have a:=(h.s.adj t).1;rw[<- u]at a;obtain⟨j,O,l,x⟩:=kV.1 a;obtain⟨S,v,G⟩:=d.s.g2 j O;have l:m'.g j 0=L.g q 0:=l;have x:m'.g j 1=L.g q 1:=x;exact⟨S,v,by unfold nS; rw[G,l,x]⟩
 obtain⟨K,M⟩:=Ia (f:=fun q=>nS (L.g q)) (g:=fun q=>nS (L'.g q)) (n:=L.gn) (n':=L'.gn) C.up D.up (F h d u) (F d h fun o r=>(u o r).symm);refine⟨by rw[<- h.s.inn,<- d.s.inn]; exact K_ Ab.inn e,by rw[<- h.s.left,<- d.s.left]; exact K_ Ab.left e,I,Q,K,fun i k => ?_,fun q t p W => ?_⟩
 ·have E:i<L'.nn:=by omega
  refine⟨z i k,?_,?_⟩
  ·rw[<- h.s.T.par i k,<- d.s.T.par i E,J,z i k]
  rw[<- (w h i k).2,<- (w d i E).2,H,z i k]
 have v:q<L'.gn:=by omega
 have P:nS (L'.g q)=nS (L.g q):=M q t;have U:=(C.wf q t).1;have V:=(D.wf q v).1;unfold nS at P;unfold jU at U V;have A:L'.g q 0=L.g q 0:=by omega
 have l:L'.g q 1=L.g q 1:=by omega
 by_cases c:2<=p
 ·have a:=(h.s.adj t).2 p c (by omega);have b:=(d.s.adj v).2 p c (by omega);rw[<- a,<- b,A,l,K_ Ab.g e]
 rcases(show p=0\/p=1 by omega)with rfl|rfl
 ·exact A
 exact l
theorem O5{K K':Nat->Int}{A:Ab}(h : ∀ i,i<6->K' i=K i)(a : ∀ i,i<an->aK (ev i)<6) : ∀ n,n<=an->fO ev K' A n=fO ev K A n
 | 0,_=>rfl
 | n+1,hn=>by
   have c:wH K' (ev n)=wH K (ev n):=(by unfold wH; rw[h _ (a n (by omega))]);show(if wH K' (ev n)=true then(fO ev K' A n).qV (ev n)else fO ev K' A n)=_;rw[O5 h a n (by omega),c]; rfl
theorem tZ.same(h:tZ k ev an L)(f:tZ k ev an L')(W:Ws k ev an)(j:zi L)(l:zi L')(a : ∀ i,i<6->L'.known i=L.known i):Lu L L':=by
 obtain⟨m,N,b,o,c⟩:=h.ex;obtain⟨m',N',d,p,e⟩:=f.ex;refine b.same d j l ?_ a;rw[c,e];exact O5 a (fun i n=>(W.g i n).reg.2) an (z_ _)
theorem tZ.next(h:tZ k ev an L)(W:Ws k ev an){i:Nat}(hi:i<an)(b:L.known=eO ev i):bG L (ev i)=0/\(dz L (ev i)).known=eO ev (i+1):=by
 have a:=h.ready W hi (by rw[b]; exact W.rd i hi);refine⟨a,?_⟩;rw[yN a,b]
 funext q
 unfold aI;show _=eO ev i q+if aK (ev i)=q then 1 else 0;by_cases e:q=aK (ev i)
 ·rw[d_ e,d_ e.symm,e]
 rw[b_ e,b_ (fun q=>e q.symm),C_]
theorem O6(W:Ws k ev an) : ∀ i,i<an->1<=(ev i).seq:=fun i a=>(W.g i a).seq.1
theorem tZ.some(h:tZ k ev an L)(W:Ws k ev an){i:Nat}(hi:i<an):bG L (ev i)=0\/bG L (ev i)=14\/bG L (ev i)=13:=by
 by_cases c:dw L.known (ev i)=true
 ·exact .inl (h.ready W hi c)
 right;have b:=(Dz (W.rd i hi)).1;unfold bG;rw[b_ (by rw[b]; decide)];by_cases a:lX L.known (ev i)=true
 ·rw[d_ a]; exact .inl rfl
 rw[b_ a,d_ (by simpa using c)]; exact .inr rfl
end
end Rt
end
section
set_option linter.unusedVariables false
namespace Rt
def Ad(K c:Nat->Int):Nat->Int:=fun q=>if K q<=c q then K q else c q
section
variable {ev:Nat->EvM} {an k i r:Nat} {K K':Nat->Int} {L:fB} {v:EvM}
theorem kW(ev:Nat->EvM)(i q:Nat):eO ev (i+1) q=eO ev i q+if aK (ev i)=q then 1 else 0:=rfl
theorem tZ.nextK(h:tZ k ev an L)(W:Ws k ev an)(hi:i<an)(m:FV ev an K)(f : ∀ q,q<6->L.known q=Ad K (eO ev i) q)(n:(ev i).seq<=K (aK (ev i))) :
 bG L (ev i)=0 /\ ∀ q,q<6->(dz L (ev i)).known q=Ad K (eO ev (i+1)) q:=by
 obtain⟨a,b,c⟩:=Dz (W.rd i hi);have l:=jZ a;have g:L.known (aK (ev i))=eO ev i (aK (ev i)):=by rw[f _ l]; unfold Ad; rw[b_ (by omega)]
 have o:dw L.known (ev i)=true:=BR a (by rw[g]; exact b) fun q d=>by
  rw[f q d]; unfold Ad;split
  ·exact m.cl i hi n q d
  ·exact c q d
 have j:=h.ready W hi o;refine⟨j,fun q d => ?_⟩;rw[yN j];unfold aI;by_cases e:q=aK (ev i)
 ·rw[d_ e,g,e];unfold Ad;rw[kW,d_ rfl,QU (by omega)]
 rw[b_ e,f q d];unfold Ad;rw[kW,b_ (show ¬ aK (ev i)=q from fun z=>e z.symm),C_]
where QU {a b:Int} (h:b<=a):(if a<=b then a else b)=b:=by split <;> omega
theorem agV(W:Ws k ev an)(hi:i<an)(c : ∀ q,q<6->L.known q=Ad K (eO ev i) q)(a : ¬ (ev i).seq<=K (aK (ev i))) : ∀ q,q<6->L.known q=Ad K (eO ev (i+1)) q:=fun q d=>by
 have b:=(Dz (W.rd i hi)).2.1;rw[c q d];unfold Ad;rw[kW];by_cases e:aK (ev i)=q
 ·rw[d_ e]; rw[e]at b a;rw[d_ (by omega),d_ (by omega)]
 ·rw[b_ e,C_]
theorem agW(c:FV ev an K)(a : ∀ q,q<6->0<=K q) : ∀ q,q<6->(0:Int)=Ad K (eO ev 0) q:=fun q b=>by
 unfold Ad; show(0:Int)=if K q<=0 then K q else 0;have:=a q b;split <;> omega
theorem aoX(a:FV ev an K) : ∀ q,q<6->Ad K (eO ev an) q=K q:=fun q b=>by unfold Ad; rw[d_ (a.le q b)]
theorem Lx(L:fB)(v:EvM)(q:Nat):L.known q<=(dz L v).known q:=by
 rcases qK L v with ⟨_,e⟩|⟨_,e⟩
 ·rw[e]; unfold aI; split
  ·subst_vars; omega
  exact M_ _
 rw[e]; exact M_ _
theorem tZ.reach(h:tZ k ev an L)(W:Ws k ev an)(hr:r<an)(d : ∀ q,q<6->eO ev r q<=L.known q) : ∀ q,q<6->eO ev (r+1) q<=(dz L (ev r)).known q:=fun q l=>by
 obtain⟨a,b,c⟩:=Dz (W.rd r hr);have i:=jZ a;have o:=d q l;have s:=Lx L (ev r) q;rw[kW];by_cases e:aK (ev r)=q
 ·rw[d_ e];by_cases n:(ev r).seq<=L.known q
  ·rw[e]at b; omega
  ·have j:=d _ i;have m:(ev r).seq=L.known (aK (ev r))+1:=(by rw[e]at b j ⊢; omega);have g:=h.ready W hr (BR a m fun p f=>Q_ (c p f) (d p f));rw[yN g,e];unfold aI; rw[d_ rfl,e]at *; omega
 ·rw[b_ e]; omega
theorem tZ.full(h:tZ k ev an L)(b : ∀ q,q<6->eO ev an q<=L.known q) : ∀ q,q<6->L.known q=eO ev an q:=fun q a=>by
 have:=h.kc.le q a; have:=b q a; omega
theorem FN(W:Ws k ev an)(f : ∀ q,q<6->0<=K q)(g : ∀ i,i<an->dw K (ev i)=false) : ∀ r,r<=an -> ∀ q,q<6->eO ev r q<=K q
 | 0,_,q,hq=>f q hq
 | r+1,hr,q,hq=>by
   have d:=FN W f g r (by omega);rw[kW];by_cases e:aK (ev r)=q
   ·rw[d_ e];obtain⟨a,b,c⟩:=Dz (W.rd r (by omega));have l:=d q hq;rw[e]at b;by_cases j:eO ev r q+1<=K q
    ·exact j
    ·exfalso;have:dw K (ev r)=true:=BR a (by rw[e]; omega) fun p h=>Q_ (c p h) (d p h);rw[g r (by omega)]at this; cases this
   ·rw[b_ e,C_]; exact d q hq
end
end Rt
end
section
set_option linter.unusedVariables false
namespace Rt
section
variable {x:EvM} {k an i:Nat} {ev:Nat->EvM} {L:fB} {s:Int} {d:Nat->Int}
theorem O7(ev:Nat->EvM) : ∀(i j:Nat),eO ev i j<=i
 | 0,_=>M_ _
 | i+1,j=>by have:=O7 ev i j; show eO ev i j+(if aK (ev i)=j then 1 else 0)<=_; split <;> omega
end
end Rt
end
set_option maxRecDepth 20000
set_option linter.unusedVariables false
theorem LC(n:Nat)(m:Int)(w:World)(j:m=(n:Int))(k:1<=n)(l:n<=6) :
 Calls Tryd.prog 10 #[au m] w fun e c => ∃ p M,e = .returned (pt p)/\M.n=n/\M.an=0/\WC M/\nW c w.heap.size p M 0/\Below w.heap.size w c:=by
 subst j; exact(Nj n w k l).mono fun _ _ ⟨p,M,d,a,b,h,f,g⟩=>⟨p,M,d,a,b,.new b fun i=>by rw[h i,a],f,g⟩
namespace Rt
theorem Lu.st{L L':fB}(h:Lu L L')(d:Option Addr)(e:Nat)(a:Option Addr)(b:Nat) : ∀ p,p<20->Dq (stL L' d e a b) p=Dq (stL L d e a b) p:=fun p f=>by
 unfold Dq stL;simp only[h.inn,h.left,h.nn,h.gn];by_cases c:12<=p/\p<18
 ·rw[h.kn (p-12) (by omega)]
 ·repeat' split
  all_goals first|rfl|omega
end Rt
theorem QG.same{w:World}{s:IU}{L L':fB}(h:QG w s L')(d:Lu L L'):QG w (stL L s.na s.nc s.ga s.gc) L:=by
 refine⟨rfl,?_,?_⟩
 ·have e:=h.n;rw[d.nn]at e;exact e.congr fun j k=>by
   unfold flat ndL;obtain⟨a,b,c⟩:=d.n (j / 56) (by omega);rw[a,b,c]
 have e:=h.g;rw[d.gn]at e;exact e.congr fun j k=>by
  unfold flat grL ng;have g:=d.g (j / 5) (by omega) (j % 5) (I_ _ (by decide));have f:=d.g (j / 5) (by omega) 0 (by decide);have i:=d.g (j / 5) (by omega) 3 (by decide);rw[g,f,i]
section
set_option linter.unusedVariables false
namespace Rt
def QV(K:Nat->Int):Int:=K 0+K 1+K 2+K 3+K 4+K 5
section
variable {ev:Nat->EvM} {an k i n:Nat} {K:Nat->Int} {L:fB} {v:EvM}
theorem Yy(a : ∀ i,i<n->aK (ev i)<6):QV (eO ev n)=n:=by
 induction n with
 | zero=>rfl
 | succ n b =>
   have b:=b fun i d=>a i (by omega);have c:=a n (by omega);unfold QV at *;rw[kW,kW,kW,kW,kW,kW]
   rcases(show aK (ev n)=0\/aK (ev n)=1\/aK (ev n)=2\/aK (ev n)=3\/aK (ev n)=4\/aK (ev n)=5 by omega)with q|q|q|q|q|q <;> rw[q] <;> simp <;> omega
theorem adk{K K':Nat->Int}(h : ∀ q,q<6->K q=K' q):QV K=QV K':=by
 unfold QV;rw[h 0 (by decide),h 1 (by decide),h 2 (by decide),h 3 (by decide),h 4 (by decide),h 5 (by decide)]
theorem Ws.regs(W:Ws k ev an) : ∀ i,i<an->aK (ev i)<6:=fun i a=>(W.g i a).reg.2
theorem Ws.done(W:Ws k ev an)(c:FV ev an K)(b : ∀ q,q<6->0<=K q)(d : ∀ i,i<an->dw K (ev i)=false):QV K=an:=by
 rw[<- Yy (n:=an) W.regs];exact adk fun q a=>Int.le_antisymm (c.le q a) (FN W b d an (z_ _) q a)
theorem FV.zero(W:Ws k ev an):FV ev an fun _=>0:=⟨fun i _=>zV an i,fun i a b=>L_ (show(ev i).seq<=0 from b) (by have:=O6 W i a; omega)⟩
theorem FV.ok(W:Ws k ev an)(c:FV ev an K)(b : ∀ q,q<6->0<=K q):AO K:=fun q a=>⟨b q a,by
 have d:=c.le q a;have e:=O7 ev an q;have f:=W.an;omega⟩
theorem tZ.up(h:tZ k ev an L)(W:Ws k ev an)(hi:i<an)(q:Nat)(b : ∀ p,p<6->eO ev q p<=L.known p) : ∀ p,p<6->eO ev q p<=(dz L (ev i)).known p:=fun p a=>Q_ (b p a) (Lx L (ev i) p)
end
end Rt
end
set_option maxRecDepth 20000
set_option linter.unusedVariables false
theorem kQ.ltT{w:World}{B b:Nat}{m:dM}(h:kQ w B b m){k:Nat}(a:k=m.tp\/Bp m b k):B<=k/\k<w.heap.size:=by
 rcases a with rfl|a
 ·exact⟨h.t.gt,h.t.blk.lt⟩
 exact h.ltS a
def Rt.LtC(m:dM)(a C:Nat):Prop := ∀ k,(k=m.tp\/Bp m a k)->k<C
theorem Rt.LtC.apply{m:dM}{b C:Nat}(h:LtC m b C)(v:EvM):LtC (gJ m v) b C:=fun k a=>by
 have e:=Nn m v;refine h k ?_;unfold Bp at *;rw[e.et,e.em,e.ep,e.er,e.eg,e.ea]at a;exact a
theorem wm.apart{w w':World}{C b c N':Nat}{m p:dM}{R:fB}(h:wm w C c p R N')(d:LtC m b C)(f:jM (MR m b w.heap.size) w w'):wm w' C c p R N':=by
 have g : ∀ k,(k=p.tp\/Bp p c k) -> ¬ MR m b w.heap.size k:=fun k e a=>by
  have:=h.q.ltT e
  rcases a with a|a
  ·have:=d k (.inr a); omega
  ·omega
 exact { h with q:=h.q.chg f g }
theorem wm.Ns{w w':World}{B C d e N N':Nat}{m p:dM}{L R:fB}(h:wm w B d m L N)(g:LtC m d C)(i:wm w C e p R N')(j:jM (MR p e w.heap.size) w w'):wm w' B d m L N:=by
 have l : ∀ k,(k=m.tp\/Bp m d k) -> ¬ MR p e w.heap.size k:=fun k f c=>by
  have a:=h.q.ltT f;have b:=g k f
  rcases c with c|c
  ·have:=(i.q.ltS c).1; omega
  ·omega
 exact { h with q:=h.q.chg j l }
section
set_option linter.unusedVariables false
namespace Rt
section
variable {ev:Nat->EvM} {an k:Nat} {LA LB:fB} {v:EvM}
theorem later(W:Ws k ev an)(c:tZ k ev an LA)(i:tZ k ev an LB)(l:an<1000)(o:nP v)(d:bG LA v=0)(e:v.deps=LA.known)(m:LA.known (aK v)=eO ev an (aK v))(f : ∀ q,q<6->LB.known q=eO ev an q):bG LB v=0:=by
 obtain⟨b,n,_⟩:=Dz (iW d);have a:v.seq=eO ev an (aK v)+1:=by rw[<- m]; exact n
 have h:=W.more c l o d e a;have j:=i.more b a;have:=j.ready h (show an<an+1 by omega) (by
  rw[rJ];exact BR b (by rw[f _ (jZ b)]; exact a) fun q g=>by rw[e,f q g]; exact c.kc.le q g)
 rw[rJ]at this;exact this
end
end Rt
end
namespace Rt
structure Ae where
 kind:Int
 node:Int
 dst:Int
 aT:Int
 req:Int
 of:Int
def VT(x:Ae):Nat->Value:=fun p=>if p=0 then .int .u8 x.kind else if p=1 then .int .u64 x.node else if p=2 then .int .i64 x.dst else if p=3 then .int .i64 x.aT else if p=4 then .int .u64 x.req else .int .u64 x.of
structure Ib(x:Ae):Prop where
 kind:0<=x.kind/\x.kind<=255
 node:jU x.node
 dst:uF x.dst
 aT:uF x.aT
 req:jU x.req
 of:jU x.of
end Rt
set_option maxRecDepth 20000
set_option linter.unusedVariables false
namespace Rt
def lI(K:Nat->Int)(i:Int)(x:Ae):EvM:=⟨i,K (i-1).toNat+1,K,x.kind,x.node,x.dst,x.aT,x.req,x.of⟩
end Rt
theorem Yz(K:Nat->Int)(i:Int)(hr:jI i=false)(w:World) :
 Calls Tryd.prog 22 #[.agg (aA 6 (rv .u64 K)),au i] w fun e f=>e = .returned (.tuple #[aC 0,au 10])/\Below w.heap.size w f:=by
 refine Kent Tryd.func22 21 ?_;refine ay<|pQ fun g k b c d l => ?_;have a:=bE d.old (Below.refl w.heap.size w);have h:=gL b;have j:=c.lt;refine av (aC 0)<|av (au 0)<|aD<|Ws<|Wb<|ay<|av (au i)<|oC (Jk i _) aF (by rw[hr])<|av aG<|av aG<|aD<|aO<|ay<|av (aC 0)<|av (au 10)<|aD<|Wr<|bI<|sR<|aJ (.tuple #[aC 0,au 10]) ?_;exact⟨rfl,a⟩
theorem YA(K:Nat->Int)(i:Int)(a:Nat)(ha:a<6)(h:i=(a:Int)+1)(g:AO K)(w:World) :
 Calls Tryd.prog 22 #[.agg (aA 6 (rv .u64 K)),au i] w fun e l=>e = .returned (.tuple #[aC (K a+1),au 0])/\Below w.heap.size w l:=by
 have j:jI i=true:=by rw[h]; unfold jI; simp; omega
 have m:=g a ha;refine Kent Tryd.func22 21 ?_;refine ay<|pQ fun c p f b k q => ?_;have d:=bE k.old (Below.refl w.heap.size w);have n:=gL f;have o:=b.lt;refine av (aC 0)<|av (au 0)<|aD<|Ws<|Wb<|ay<|av (au i)<|oC (Jk i _) aG (by rw[j])<|av aF<|av aF<|aD<|aL<|ay<|av (au i)<|Lv (au a) fQ<|Lv (pf c a) (jm 6 1)<|Lv (aC (K a)) (aM b.aH a)<|Lv aF Gp<|av aF<|aD<|aL<|Wk<|bT<|sN<|ay<|av (au i)<|Lv (au a) fQ<|Lv (pf c a) (jm 6 1)<|Lv (aC (K a)) (aM b.aH a)<|Lv (aC ((K a)+1)) fE<|av (aC ((K a)+1))<|av (au 0)<|aD<|Wr<|aJ (.tuple #[aC ((K a)+1),au 0]) ?_;exact⟨rfl,d⟩
theorem agX(v:EvM)(i c:Int)(K:Nat->Int)(a:Nat)(w:World)(b:aQ w a 14 (bH v) 28)(d:Nat)(g:Nat)(f:Nat)(hi:aQ w d 1 (fun _=>au i) 3)(k:aQ w g 1 (fun _=>aC c) 22)(h:aQ w f 6 (rv .u64 (K)) 26) :
 Calls Tryd.prog 24 #[(pt a),(pt d),(pt g),(pt f)] w fun e t=>e = .returned (.tuple #[])/\aQ t a 14 (bH ⟨i,c,K,v.kind,v.node,v.dst,v.aT,v.req,v.of⟩) 28/\Stp a w t:=by
 have M:=b.lt;have N:=hi.lt;have P:=k.lt;have O:=h.lt;have Q:d≠a:=fun e=>L_ (Fx.Ty.only (e ▸ hi.ty) b.ty) (by decide);have R:g≠a:=fun e=>L_ (Fx.Ty.only (e ▸ k.ty) b.ty) (by decide);have S:f≠a:=fun e=>L_ (Fx.Ty.only (e ▸ h.ty) b.ty) (by decide);refine Kent Tryd.func24 17 ?_;refine Au [0,1,2,3,6,7,4,5,8,9,10,11,12,13,14] [0,0,0,4,1,1,0,0,2,0,0,2,0,0,2] (Fx.yU [28]) Fx.yU.refl Fx.yU.trans (fT := [(8,3,[3]),(11,3,[3]),(14,3,[3]),(9,8,[8]),(10,8,[8]),(11,8,[8]),(12,8,[8]),(13,8,[8]),(14,8,[8]),(12,11,[11]),(13,11,[11]),(14,11,[11])]) (by kernel_rfl) (by kernel_rfl) (by kernel_rfl) (by kernel_rfl) (by kernel_rfl) fun I m L => ?_;have G:Stp w.heap.size w I:=Sb m;have⟨n,D,E,F⟩:=mJ m b hi k h;have u:=(mV a w).then G (.inr (mV a w).size);refine aZ (pt a)<|aZ (pt a)<|aZ (pt a)<|Rs (au i) (aM D.aH 0) ?_;refine aZ (pt a)<|aZ (pt a)<|Rd (v:=aC c) (by rfl) (by rfl) (Fx.yU.refl _) (fun H l=>bF (x:=fun _=>aC c) rfl rfl (by kernel_rfl) (E.uj l (by decide)).aH (i:=0) (by omega) (by omega) rfl) ?_;refine Rd (v := .agg (aA 6 (rv .u64 (K)))) (by rfl) (by rfl) (Fx.yU.refl _) (fun H l=>eZ (x:=rv .u64 (K)) (y:=rv .u64 (K)) rfl rfl (by kernel_rfl) (by kernel_rfl) (F.uj l (by decide)).aH (i:=0) (by omega) (by omega) (fun j _=>by rw[E_])) ?_;refine Dc<|iX n 0 (au i) fun T o q W => ?_;have z:=u.then q (by omega);refine Ln ⟨Fx.yU.IB ((gK q n.ty).wide (by decide)),?_⟩;refine aZ (pt a)<|aZ (pf a 1)<|Dc<|iX o 1 (aC c) fun U p r X => ?_;have A:=z.then r (by omega);refine Ln ⟨Fx.yU.IB ((gK r o.ty).wide (by decide)),?_⟩;refine aZ (pt a)<|aZ (pf a 2)<|Dc<|dZ p 2 fun V C s Y => ?_;have B:=A.then s (by omega);refine Ln ⟨Fx.yU.IB ((gK s p.ty).wide (by decide)),?_⟩;refine Rn (⟨.tuple #[],iI Tryd.results24,?_⟩);exact⟨rfl,C.congr (fun j J=>by rcases j with _|_|_|_|_|_|_|_|_|_|_|_|_|_|j <;> first|rfl|omega),B⟩
theorem adn(x:Ae)(i d:Int)(K:Nat->Int)(w:World)(g:Nat)(k:Nat)(h:Nat)(hi:aQ w g 1 (fun _=>au i) 3)(m:aQ w k 1 (fun _=>aC d) 22)(l:aQ w h 6 (rv .u64 (K)) 26) :
 Calls Tryd.prog 23 #[.agg (aA 6 (VT x)),.func (.func 24) #[] #[(pt g),(pt k),(pt h)]] w fun e w'=>e = .returned (.agg (aA 14 (bH ⟨i,d,K,x.kind,x.node,x.dst,x.aT,x.req,x.of⟩)))/\Below w.heap.size w w':=by
 have lgi:=hi.lt;have lgs:=m.lt;have lgk:=l.lt;refine Kent Tryd.func23 22 ?_;refine ay<|pQ fun c w1 y n s1 z1 => ?_;have⟨C,E,F,r⟩:=mJ s1.old hi m l (Below.refl w.heap.size w);have sO:=gL y;have⟨nC,TH,zB⟩:=Dh y hi.lt m.lt l.lt;have uo:=n.lt;refine qC 14 (fun a=>if a<1 then au 0 else if a<8 then aC 0 else if a<9 then .int .u8 (0)else if a<10 then aC 0 else if a<12 then au 0 else aC 0) fun O w2 z p s2 z2 => ?_;have⟨G,H,I,b,s⟩:=qD s2.old C E F n r;have qN:=jc z r.size;have⟨Ze,Oh,Zj,KU⟩:=Iy z C.lt E.lt F.lt n.lt;have zL:=p.lt;refine aD<|ay<|av (pt c)<|Lv (.int .u8 (x.kind)) (aM b.aH 0)<|av (pf c 1)<|Lv (aC x.node) (aM b.aH 1)<|av (pf c 2)<|Lv (au x.dst) (aM b.aH 2)<|av (pf c 3)<|Lv (au x.aT) (aM b.aH 3)<|av (pf c 4)<|Lv (aC x.req) (aM b.aH 4)<|av (pf c 5)<|Lv (aC x.of) (aM b.aH 5)<|av (.agg (aA 14 (bR (bR (bR (bR (bR (bR (fun a=>if a<1 then au 0 else if a<8 then aC 0 else if a<9 then .int .u8 (0)else if a<10 then aC 0 else if a<12 then au 0 else aC 0) 8 1 (fun _ => .int .u8 (x.kind))) 9 1 (fun _=>aC x.node)) 10 1 (fun _=>au x.dst)) 11 1 (fun _=>au x.aT)) 12 1 (fun _=>aC x.req)) 13 1 (fun _=>aC x.of))))<|qC 14 (fun a=>if a<1 then au 0 else if a<8 then aC 0 else if a<9 then .int .u8 (0)else if a<10 then aC 0 else if a<12 then au 0 else aC 0) fun f w3 A o s3 z3 => ?_;have⟨R,S,T,U,t⟩:=qD s3.old G H I p s;have Bz:=jc A s.size;have⟨Vk,Vl,acG,Vm,acH⟩:=Aw A G.lt H.lt I.lt b.lt p.lt;have IK:=o.lt;refine dZ o 0 (h1:=(bS (bS (bS (bS (bS (bS (fun Q _=>by show((fun a=>if a<1 then au 0 else if a<8 then aC 0 else if a<9 then .int .u8 (0)else if a<10 then aC 0 else if a<12 then au 0 else aC 0:Nat->Value) Q).oneCell'=true; simp only[]; repeat (first|rfl|split)) (fun _ _=>rfl)) (fun _ _=>rfl)) (fun _ _=>rfl)) (fun _ _=>rfl)) (fun _ _=>rfl)) (fun _ _=>rfl))) fun M V q z4 => ?_
 have W:aQ M f 14 (bR (bR (bR (bR (bR (bR (fun a=>if a<1 then au 0 else if a<8 then aC 0 else if a<9 then .int .u8 (0)else if a<10 then aC 0 else if a<12 then au 0 else aC 0) 8 1 (fun _ => .int .u8 (x.kind))) 9 1 (fun _=>aC x.node)) 10 1 (fun _=>au x.dst)) 11 1 (fun _=>au x.aT)) 12 1 (fun _=>aC x.req)) 13 1 (fun _=>aC x.of)) 28:=aR V;have X:aQ M f 14 (bH ⟨0,0,fun _=>0,x.kind,x.node,x.dst,x.aT,x.req,x.of⟩) 28:=W.congr (fun j hj=>by rcases j with _|_|_|_|_|_|_|_|_|_|_|_|_|_|j <;> first|rfl|omega)
 have P:=gK q o.ty;have⟨Y,Z,aa⟩:=Df P R S T;have ab:=U.bY q (by omega);have u:=q.below t t.size (by omega);refine aD<|ay<|av (.func (.func 24) #[] #[(pt g),(pt k),(pt h)])<|Bl (by rfl) (Fx.Ej (args := [(pt f)]) rfl rfl rfl (all := #[(pt f),(pt g),(pt k),(pt h)]) rfl Tryd.func24 rfl rfl) rfl<|(agX ⟨0,0,fun _=>0,x.kind,x.node,x.dst,x.aT,x.req,x.of⟩ i d K f _ X g k h Y Z aa).mono ?_;rintro e9 w5 ⟨B,D,J⟩;refine⟨_,B,?_⟩;clear B;have ac:=ab.bY J (by omega);have v:=J.below u u.size (by omega);refine aD<|ay<|Lv (.agg (aA 14 (bH ⟨i,d,K,x.kind,x.node,x.dst,x.aT,x.req,x.of⟩))) (fJ D.aH 0)<|dZ ac 0 (h1:=(fD _)) fun w6 ad L z5 => ?_;have ae:aQ w6 O 14 (bH ⟨i,d,K,x.kind,x.node,x.dst,x.aT,x.req,x.of⟩) 28:=aR ad;have pV:=D.bY L (by omega);have N:=L.below v v.size (by omega);refine aD (Wr (⟨.agg (aA 14 (bH ⟨i,d,K,x.kind,x.node,x.dst,x.aT,x.req,x.of⟩)),rV Tryd.results23 ⟨_,rfl,aU ae.aH (by kernel_rfl) (by kernel_rfl)⟩,?_⟩));exact⟨rfl,N⟩
namespace Rt
theorem Nt{z y:Nat->Value}{a b:Int}(d : ∀ j,j<14->z j=y j)(c:a=b):Ending.returned (.tuple #[.agg (aA 14 z),au a])=Ending.returned (.tuple #[.agg (aA 14 y),au b]):=by rw[Fx.dW d,c]
noncomputable def oq(L:fB)(i:Int)(x:Ae):Int:=if jI i=false then 10 else bG L (lI L.known i x)
open Classical in
noncomputable def kX(L:fB)(i:Int)(x:Ae):EvM:=if oq L i x=0 then lI L.known i x else zeroE
theorem LD{L:fB}{i:Int}{x:Ae}(h:jI i=false):oq L i x=10/\kX L i x=zeroE:=by
 have:oq L i x=10:=by unfold oq; rw[d_ h]
 refine⟨this,?_⟩;unfold kX;rw[b_ (by rw[this]; decide)]
theorem oJ{L:fB}{i:Int}{x:Ae}(h:jI i=true):oq L i x=bG L (lI L.known i x):=by unfold oq; rw[b_ (by rw[h]; decide)]
theorem Nu{K:Nat->Int}{i:Int}{x:Ae}(b:AO K)(hx:Ib x)(hi:jI i=true):fV (lI K i x):=by
 obtain⟨a,c,f⟩:=eG hi;have g:=b a c;have e:(i-1).toNat=a:=by omega
 refine⟨⟨?_,?_⟩,⟨?_,?_⟩,fun j d => ?_,hx.kind,hx.node,hx.dst,hx.aT,hx.req,hx.of⟩
 ·show -9223372036854775808<=i; omega
 ·show i<=9223372036854775807; omega
 ·show 0<=K (i-1).toNat+1; rw[e]; omega
 ·show K (i-1).toNat+1<=18446744073709551615; rw[e]; omega
 have:=b j d; exact⟨by show 0<=K j; omega,by show K j<=_; omega⟩
end Rt
theorem YB(b B N:Nat)(m:dM)(L:fB)(w:World)(h:wm w B b m L N)(hB:1<=B)(T:iQ w 0 0 8 Ch)(i:Int)(x:Ae)(hr:jI i=false) :
 Calls Tryd.prog 6 #[(pt b),au i,.agg (aA 6 (VT x))] w fun e w'=>e = .returned (.tuple #[.agg (aA 14 (bH (kX L i x))),au (oq L i x)])/\Below w.heap.size w w':=by
 have l0:=T.lt (by omega);have lq:=h.q.lt;refine Kent Tryd.func6 39 ?_;refine ay<|xg (au i) fun g1 w1 P c s1 z1 => ?_;have⟨m2,k⟩:=eU s1.old h (Below.refl w.heap.size w);have sO:=gL P;have uo:=c.lt;refine pQ fun g2 w2 t f s2 z2 => ?_;have⟨m4,G,l⟩:=jh s2.old m2 c k;have qN:=jc t k.size;have Og:=cu t c.lt;have zL:=f.lt;refine qC 14 (fun a=>if a<1 then au 0 else if a<8 then aC 0 else if a<9 then .int .u8 (0)else if a<10 then aC 0 else if a<12 then au 0 else aC 0) fun Q w3 u H s3 z3 => ?_;have⟨m7,m8,m9,M⟩:=mJ s3.old m4 G f l;have Bz:=jc u l.size;have⟨UD,UE⟩:=yT u G.lt f.lt;have IK:=H.lt;refine av (au 0)<|aD<|Ws<|ay<|av (pt b)<|Lv aF (Fx.mh rfl rfl rfl (by kernel_rfl))<|aD<|aL<|Wk<|sN<|ay<|av (pt b)<|dL (OX m7) _ rfl ?_;intro w4 U;have⟨z,A,C,n⟩:=mJ U m8 m9 H M;refine qC 6 (rv .u64 (fun _=>0)) fun R w5 v d s5 z4 => ?_;have⟨Z,aa,ab,o⟩:=mJ s5.old z A C n;have Q7:=jc v n.size;have⟨Vo,ado,adp⟩:=Dh v z.lt A.lt C.lt;have Qi:=d.lt;refine dZ d 0 fun w6 ac I z5 => ?_;have D:aQ w6 R 6 (rv .u64 ((L).known)) 26:=aR ac;have W:=gK I d.ty;have⟨E,m23,m24⟩:=Df W Z aa ab;have O:=I.below o o.size (by omega);refine aD<|ay<|Lv (.agg (aA 6 (rv .u64 ((L).known)))) (fJ D.aH 0)<|Lv (au i) (aM E.aH 0)<|dL (Yz L.known i hr _) _ rfl ?_;intro w7 V;have⟨nT,oM,F,oZ,p⟩:=qD V E m23 m24 D O;refine av (.tuple #[aC 0,au 10])<|av (aC 0)<|av (au 10)<|qC 1 (rv .u64 (fun _=>0)) fun S w8 y g s8 z6 => ?_;have⟨og,r⟩:=eU s8.old F p;have lg5:=jc y p.size;have⟨adq,adr,ads,adt⟩:=Iy y nT.lt oM.lt F.lt oZ.lt;have tg5:=g.lt;refine iX g 0 (aC 0) fun w9 pV J z7 => ?_;have uf:aQ w9 S 1 (fun _=>aC 0) 22:=dH pV;have X:=gK J g.ty;have nU:=jO X og;have s:=J.below r r.size (by omega);refine av (au 10)<|aD<|Ws<|ay<|av (au 10)<|Lv aG (eY rfl)<|aD<|aO<|ay<|av (.agg (aA 14 (fun a=>if a<1 then au 0 else if a<8 then aC 0 else if a<9 then .int .u8 (0)else if a<10 then aC 0 else if a<12 then au 0 else aC 0)))<|av (au 10)<|dZ nU 0 (h1:=(fun Y _=>by show((fun a=>if a<1 then au 0 else if a<8 then aC 0 else if a<9 then .int .u8 (0)else if a<10 then aC 0 else if a<12 then au 0 else aC 0:Nat->Value) Y).oneCell'=true; simp only[]; repeat (first|rfl|split))) fun rO nE s10 z8 => ?_
 have rY:aQ rO Q 14 (fun a=>if a<1 then au 0 else if a<8 then aC 0 else if a<9 then .int .u8 (0)else if a<10 then aC 0 else if a<12 then au 0 else aC 0) 28:=aR nE;have K:=s10.below s s.size (by omega);refine av (au 10) (aD (Wr (sR (⟨.tuple #[.agg (aA 14 (fun a=>if a<1 then au 0 else if a<8 then aC 0 else if a<9 then .int .u8 (0)else if a<10 then aC 0 else if a<12 then au 0 else aC 0)),au 10],gu Tryd.results6 ⟨_,rfl,aU rY.aH (by kernel_rfl) (by kernel_rfl)⟩ (by exact rfl),?_⟩))));exact⟨by rw[(LD hr).1,(LD hr).2]; exact Nt (fun j hj=>by rcases j with _|_|_|_|_|_|_|_|_|_|_|_|_|_|j <;> first|rfl|omega) rfl,K⟩
theorem YC(f B N:Nat)(m:dM)(L:fB)(w:World)(h:wm w B f m L N)(hB:1<=B)(R:iQ w 0 0 8 Ch)(i:Int)(x:Ae)(hx:Ib x)(a:Nat)(ha:a<6)(T:i=(a:Int)+1) :
 Calls Tryd.prog 6 #[(pt f),au i,.agg (aA 6 (VT x))] w fun e w'=>e = .returned (.tuple #[.agg (aA 14 (bH (kX L i x))),au (oq L i x)])/\Below w.heap.size w w':=by
 have l0:=R.lt (by omega);have lq:=h.q.lt;have d:jI i=true:=by rw[T]; unfold jI; simp; omega
 have eia:(i-1).toNat=a:=by omega
 have hka:=h.i.kn a ha;refine Kent Tryd.func6 39 ?_;refine ay<|xg (au i) fun n w1 mR o s1 z1 => ?_;have⟨m2,z⟩:=eU s1.old h (Below.refl w.heap.size w);have sO:=gL mR;have uo:=o.lt;refine pQ fun g2 w2 J r s2 z2 => ?_;have⟨m4,m5,E⟩:=jh s2.old m2 o z;have qN:=jc J z.size;have Og:=cu J o.lt;have zL:=r.lt;refine qC 14 (fun b=>if b<1 then au 0 else if b<8 then aC 0 else if b<9 then .int .u8 (0)else if b<10 then aC 0 else if b<12 then au 0 else aC 0) fun Q w3 K m6 s3 z3 => ?_;have⟨m7,m8,m9,b3⟩:=mJ s3.old m4 m5 r E;have Bz:=jc K E.size;have⟨UD,UE⟩:=yT K m5.lt r.lt;have IK:=m6.lt;refine av (au 0)<|aD<|Ws<|ay<|av (pt f)<|Lv aF (Fx.mh rfl rfl rfl (by kernel_rfl))<|aD<|aL<|Wk<|sN<|ay<|av (pt f)<|dL (OX m7) _ rfl ?_;intro w4 hb1;have⟨m10,U,V,W,F⟩:=qD hb1 m7 m8 m9 m6 b3;refine qC 6 (rv .u64 (fun _=>0)) fun k w5 M p s5 z4 => ?_;have⟨m15,m16,m17,m18,G⟩:=qD s5.old m10 U V W F;have Q7:=jc M F.size;have⟨Vo,ado,adp⟩:=Dh M U.lt V.lt W.lt;have Qi:=p.lt;refine dZ p 0 fun w6 m19 s6 z5 => ?_;have X:aQ w6 k 6 (rv .u64 ((L).known)) 26:=aR m19;have gM:=gK s6 p.ty;have⟨m21,Y,m23,m24⟩:=JN gM m15 m16 m17 m18;have b6:=s6.below G G.size (by omega);refine aD<|ay<|Lv (.agg (aA 6 (rv .u64 ((L).known)))) (fJ X.aH 0)<|Lv (au i) (aM Y.aH 0)<|dL (YA L.known i a ha T h.i.kn _) _ rfl ?_;intro w7 hb2;have⟨mZ,Z,aa,ab,ac,H⟩:=rX hb2 m21 Y m23 m24 X b6;refine av (.tuple #[aC (L.known a+1),au 0])<|av (aC (L.known a+1))<|av (au 0)<|qC 1 (rv .u64 (fun _=>0)) fun l w8 O s s8 z6 => ?_;have⟨lU,m32,qw,og,qG,I⟩:=rX s8.old mZ Z aa ab ac H;have lg5:=jc O H.size;have⟨adq,adr,ads,adt⟩:=Iy O Z.lt aa.lt ab.lt ac.lt;have tg5:=s.lt;refine iX s 0 (aC (L.known a+1)) fun w9 pV s9 z7 => ?_;have ad:aQ w9 l 1 (fun _=>aC (L.known a+1)) 22:=dH pV;have kr:=gK s9 s.ty;have⟨rP,ae,af,nU,ag⟩:=qb kr lU m32 qw og qG;have b9:=s9.below I I.size (by omega);refine av (au 0)<|aD<|Ws<|ay<|av (au 0)<|Lv aF (jv rfl rfl rfl (by decide))<|aD<|aL<|Wk<|sN<|ay<|Lv (.agg (aA 6 (VT x))) (fJ af.aH 0)<|Lv (.func (.func 24) #[] #[(pt n),(pt l),(pt k)]) (Fx.mG (us := []) (vs := [(pt n),(pt l),(pt k)]) rfl rfl rfl)<|lS (adn x i (L.known a+1) L.known _ n l k ae ad ag) ?_;rintro e9 rO ⟨S,hb3⟩;refine⟨.agg (aA 14 (bH (lI L.known i x))),by rw[S]; unfold lI; rw[eia],?_⟩;clear S;have⟨nE,rY,rQ,ah,rZ,xB,A⟩:=jw hb3 rP ae af nU ag ad b9;refine qC 14 (fun b=>if b<1 then au 0 else if b<8 then aC 0 else if b<9 then .int .u8 (0)else if b<10 then aC 0 else if b<12 then au 0 else aC 0) fun g6 F7 P t s11 z8 => ?_;have⟨sQ,uV,C⟩:=jh s11.old nE ah A;have lg6:=jc P A.size;have⟨aoZ,apa,apb,apc,apd⟩:=Aw P rY.lt rQ.lt ah.lt rZ.lt xB.lt;have tg6:=t.lt;refine dZ t 0 (h1:=(fD _)) fun Cx sS y z9 => ?_;have sj:aQ Cx g6 14 (bH (lI L.known i x)) 28:=aR sS;have qZ:=gK y t.ty;have sU:=jO qZ sQ;have uW:=uV.bY y (by omega);have D:=y.below C C.size (by omega);refine aD<|Ws<|ay<|av (pt f)<|Lv (.agg (aA 14 (bH (lI L.known i x)))) (fJ sj.aH 0)<|dL (OW (v:=(lI L.known i x)) sU (Nu h.i.kn hx d) hB (R.below D l0) (fun _ _=>rfl)) _ rfl ?_;intro F8 hb4;have⟨wR,u,g⟩:=jh hb4 uW sj D;refine av (au (bG L (lI L.known i x)))<|aD<|ay<|av (au (bG L (lI L.known i x))) ?_;by_cases c:(bG L (lI L.known i x))=0
 ·refine Lv aF (jH c)<|aD<|aL<|Wk<|sN<|ay<|Lv (.agg (aA 14 (bH (lI L.known i x)))) (fJ u.aH 0)<|dZ wR 0 (h1:=(fD _)) fun NY uz Dm z10 => ?_;have vI:aQ NY Q 14 (bH (lI L.known i x)) 28:=aR uz;have wS:=u.bY Dm (by omega);have b14:=Dm.below g g.size (by omega);refine av (au 0) (aD (Wr (⟨.tuple #[.agg (aA 14 (bH (lI L.known i x))),au 0],gu Tryd.results6 ⟨_,rfl,aU vI.aH (by kernel_rfl) (by kernel_rfl)⟩ (by exact rfl),?_⟩)));exact⟨by rw[oJ d,show kX L i x=lI L.known i x by unfold kX; rw[d_ (by rw[oJ d]; exact c),]]; exact Nt (fun _ _=>rfl) c.symm,b14⟩
 refine Lv aG (mX c)<|aD<|aO<|ay<|av (.agg (aA 14 (fun b=>if b<1 then au 0 else if b<8 then aC 0 else if b<9 then .int .u8 (0)else if b<10 then aC 0 else if b<12 then au 0 else aC 0)))<|av (au (bG L (lI L.known i x)))<|dZ wR 0 (h1:=(fun jq _=>by show((fun b=>if b<1 then au 0 else if b<8 then aC 0 else if b<9 then .int .u8 (0)else if b<10 then aC 0 else if b<12 then au 0 else aC 0:Nat->Value) jq).oneCell'=true; simp only[]; repeat (first|rfl|split))) fun LK wT s15 z11 => ?_
 have sZ:aQ LK Q 14 (fun b=>if b<1 then au 0 else if b<8 then aC 0 else if b<9 then .int .u8 (0)else if b<10 then aC 0 else if b<12 then au 0 else aC 0) 28:=aR wT;have yx:=u.bY s15 (by omega);have b15:=s15.below g g.size (by omega);refine av (au (bG L (lI L.known i x))) (aD (Wr (sR (⟨.tuple #[.agg (aA 14 (fun b=>if b<1 then au 0 else if b<8 then aC 0 else if b<9 then .int .u8 (0)else if b<10 then aC 0 else if b<12 then au 0 else aC 0)),au (bG L (lI L.known i x))],gu Tryd.results6 ⟨_,rfl,aU sZ.aH (by kernel_rfl) (by kernel_rfl)⟩ (by exact rfl),?_⟩))));exact⟨by rw[oJ d,show kX L i x=zeroE by unfold kX; rw[b_ (by rw[oJ d]; exact c)]]; exact Nt (fun j hj=>by rcases j with _|_|_|_|_|_|_|_|_|_|_|_|_|_|j <;> first|rfl|omega) rfl,b15⟩
theorem Nv{b B N:Nat}{m:dM}{L:fB}{w:World}(h:wm w B b m L N)(c:1<=B)(d:iQ w 0 0 8 Ch)(i:Int){x:Ae}(hx:Ib x){y:Nat->Value}(hy : ∀ j,j<6->y j=VT x j) :
 Calls Tryd.prog 6 #[(pt b),au i,.agg (aA 6 y)] w fun e k=>e = .returned (.tuple #[.agg (aA 14 (bH (kX L i x))),au (oq L i x)])/\Below w.heap.size w k:=by
 rw[Fx.dW hy]
 cases hr:jI i with
 | false=>exact YB b B N m L w h c d i x hr
 | true =>
   obtain⟨a,g,f⟩:=eG hr;exact YC b B N m L w h c d i x hx a g f
namespace Rt
def Ic(L:fB)(i x q:Int):Int:=gI (fun j=>decide (gT L (aW L.t L.tn j x) i<q)) (dR L.t L.tn x)
def Ie(L:fB)(i x q:Int):Int:=if Ic L i x q<0 then 0 else aW L.t L.tn (Ic L i x q).toNat x
def Ig(L:fB)(i x q:Int):Int:=if Ic L i x q<0 then 0 else q-gT L (aW L.t L.tn (Ic L i x q).toNat x) i
theorem VU(L:fB)(x i:Int):0<=gT L x i:=by
 unfold gT fF;split
 ·exact M_ 0
 split
 ·rename_i c;rw[R_]at c;obtain⟨a,b,e,d⟩:=oP c.1;rw[d,uH (lu c.2) a b];exact(((jK _).1 c.2).2.1 a b).1
 exact M_ 0
theorem O8{L:fB}{i x q:Int}{k:Nat}(h : ∀ j,j<k -> ¬ gT L (aW L.t L.tn j x) i<q)(b:k=dR L.t L.tn x):Ie L i x q=0/\Ig L i x q=0:=by
 have:Ic L i x q = -1:=kL fun j a=>g_ (h j (by omega));unfold Ie Ig;rw[this];exact⟨rfl,rfl⟩
theorem FP{L:fB}{i x q:Int}{k:Nat}(h : ∀ j,j<k -> ¬ gT L (aW L.t L.tn j x) i<q)(b:k<dR L.t L.tn x)(c:gT L (aW L.t L.tn k x) i<q):Ie L i x q=aW L.t L.tn k x/\Ig L i x q=q-gT L (aW L.t L.tn k x) i:=by
 have:Ic L i x q=(k:Int):=oD (fun j a=>g_ (h j a)) (f_ c) b;unfold Ie Ig;rw[this,b_ (by omega),b_ (by omega)];exact⟨rfl,rfl⟩
theorem QW{L:fB}{i x q:Int}{k:Nat}(h : ∀ j,j<k -> ¬ gT L (aW L.t L.tn j x) i<q)(a : ¬ gT L (aW L.t L.tn k x) i<q) : ∀ j,j<k+1 -> ¬ gT L (aW L.t L.tn j x) i<q:=fun j b=>by
 by_cases e:j=k
 ·rw[e]; exact a
 ·exact h j (by omega)
end Rt
theorem adu(n B N:Nat)(m:dM)(L:fB)(w:World)(h:wm w B n m L N)(i a x:Int)(hi : -9223372036854775808<=i/\i<=9223372036854775807)(ab : -9223372036854775808<=x/\x<=9223372036854775807) :
 Calls Tryd.prog 7 #[(pt n),au i,aC a,au x] w fun e U=>e = .returned (.tuple #[aC (Ie L i a x),au (Ig L i a x)])/\Below w.heap.size w U:=by
 have lq:=h.q.lt;refine Kent Tryd.func7 33 ?_;refine ay<|av (aC 0)<|av (au 0)<|aD<|Ws<|ay<|av (pt n)<|av (aC a)<|lS (acU h a) ?_;rintro X w1 ⟨s,c,G,H,O⟩;refine⟨_,G,?_⟩;clear G;have⟨Q,M⟩:=eU O h (Below.refl w.heap.size w);obtain⟨b,A⟩ : ∃ q,q=(dR L.t L.tn a):=⟨_,rfl⟩;rw[<- A]at H ⊢;have ac:b<=4:=by rw[A]; exact h.i.Zi _
 refine av (au b)<|av (au 0)<|aD<|Wb<|Wo (fun f u => ∃ k:Nat,k<=b/\(∀ j,j<k -> ¬ gT L (aW L.t L.tn j a) i<x)/\f 0=(pt n)/\f 1=au i/\f 3=au x/\f 15 = .slice s (b) (c)/\f 16=au (b:Int)/\f 17=au (k:Int)/\wm u B n m L N/\Fx.Own u w.heap.size 22 1 (.slice s (b) (c)) b (lsP L a)/\Below w.heap.size w u) (fun f _=>((b:Int)-intOf (f 17)).toNat) ⟨0,(by omega),(fun _ h=>L_ h (u_ _)),(by rfl),Fx.ic,Fx.ic,(by rfl),Fx.ic,Fx.ic,Q,H,M⟩ ?_;rintro Y V ⟨k,Z,l,D,E,p,F,r,g,I,J,v⟩;refine ay ?_;by_cases z:(k:Int)<(b:Int)
 ·refine Lv aG (iL z (hx:=g) (hy:=r))<|aD<|Ws<|aO<|Wk<|sN<|Ws<|Wb<|ay ?_;obtain⟨C,o⟩:=J.addr (by omega);have K:Fx.Own V w.heap.size 22 1 (bK C b c) b (lsP L a):=J.fH (K_ (fun q=>Value.slice q b c) o);refine Lv (pf C k) (dh 1 (hx:=(F.trans (K_ (fun q=>Value.slice q (b) (c)) o))) (hi:=g))<|Lv (aC (aW L.t L.tn k a)) (aM K.aH k)<|av (aC (aW L.t L.tn k a))<|aD<|ay<|aY D<|aY E<|av (aC (aW L.t L.tn k a))<|dL (Yj I i (aW L.t L.tn k a) (by omega)) _ rfl ?_;intro W P;have⟨R,S,y⟩:=jh P I K v;refine av (au (gT L (aW L.t L.tn k a) i))<|aD<|ay<|av (au (gT L (aW L.t L.tn k a) i))<|aY p ?_;by_cases d:(gT L (aW L.t L.tn k a) i)<x
  ·have aa:=VU L (aW L.t L.tn k a) i;refine Lv aG (iL d)<|aD<|aO<|ay<|av (aC (aW L.t L.tn k a))<|aY p<|av (au (gT L (aW L.t L.tn k a) i))<|Lv (au (x-(gT L (aW L.t L.tn k a) i))) fQ<|av (aC (aW L.t L.tn k a))<|av (au (x-(gT L (aW L.t L.tn k a) i)))<|aD<|Wr<|bI<|sR<|qo<|bI<|sR<|aJ (.tuple #[aC (aW L.t L.tn k a),au (x-(gT L (aW L.t L.tn k a) i))]) ?_;exact⟨by rw[(FP l (by omega) d).1,(FP l (by omega) d).2],y⟩
  refine Lv aF (iM d)<|aD<|aL<|Wk<|bT<|sN<|Wl<|Lv (au ((k:Int)+1)) (fE (hx:=g))<|av (au ((k:Int)+1))<|Ln ?_;have T:Fx.Own W w.heap.size 22 1 (.slice s (b) (c)) b (lsP L a):=S.fH (K_ (fun q=>Value.slice q b c) o.symm);refine iB ⟨k+1,(by omega),(QW l d),D,(E.trans Fx.ic),(p.trans Fx.ic),F,(r.trans Fx.ic),Fx.ic,R,T,y⟩ ?_;show((b:Int)-intOf (au ((k:Int)+1))).toNat<_;simp only[g,intOf]; omega
 refine Lv aF (iM z (hx:=g) (hy:=r))<|aD<|Ws<|aL<|Wx<|cK<|gU<|cO<|sN<|ay<|av (aC 0)<|av (au 0)<|aD<|Wr<|aJ (.tuple #[aC 0,au 0]) ?_;exact⟨by rw[(O8 l (by omega)).1,(O8 l (by omega)).2],v⟩
set_option maxRecDepth 20000
set_option linter.unusedVariables false
namespace Rt
def VW:Ae:=⟨1,0,0,10,0,0⟩
def Nw:Ae:=⟨3,Jz,0,4,1,0⟩
theorem O9:Ib VW:=⟨⟨by decide,by decide⟩,⟨by decide,by decide⟩,⟨by decide,by decide⟩,⟨by decide,by decide⟩,⟨by decide,by decide⟩,⟨by decide,by decide⟩⟩
theorem YD:Ib Nw:=⟨⟨by decide,by decide⟩,⟨by decide,by decide⟩,⟨by decide,by decide⟩,⟨by decide,by decide⟩,⟨by decide,by decide⟩,⟨by decide,by decide⟩⟩
def wA:EvM:=lI (kN 2 0).core.known 1 VW
theorem agY:fV wA:=Nu (fun i _=>⟨M_ 0,(by decide:(0:Int)<1099511627776)⟩) O9 (by decide)
noncomputable def wL:fB:=dz (kN 2 0).core wA
noncomputable def wqA:dM:=gJ wq0 wA
theorem twA:FZ wqA wL 1:=tw0.apply wA
theorem agZ:oq (kN 2 0).core 1 VW=0:=by rw[oJ (by decide)]; exact tw0.err wA (by kernel_rfl)
theorem apf:kX (kN 2 0).core 1 VW=wA:=by unfold kX; rw[d_ agZ]; rfl
theorem ap1:bG (kN 2 0).core wA=0:=tw0.err wA (by kernel_rfl)
theorem aha:oq wL 2 Nw=11:=by
 rw[oJ (by decide),<- twA.s.known];exact twA.err (lI wqA.known 2 Nw) (by kernel_rfl)
theorem apg:kX wL 2 Nw=zeroE:=by unfold kX; rw[b_ (by rw[aha]; decide)]
theorem ahb:0<dR wL.t wL.tn Jz:=by
 rw[<- (twA.s.T.path twA.t twA.i Jz).1,show wqA.T.path Jz = [Jz] by kernel_rfl];decide
theorem ahc:gT wL (aW wL.t wL.tn 0 Jz) 2=0:=twA.loc _ _ (by kernel_rfl)
theorem lkA:Ie wL 2 Jz 4=Jz/\Ig wL 2 Jz 4=4:=by
 obtain⟨a,b⟩:=FP (k:=0) (fun _ h=>L_ h (u_ _)) ahb (show gT wL (aW wL.t wL.tn 0 Jz) 2<4 by rw[ahc]; decide);exact⟨a,by rw[b,ahc]; rfl⟩
end Rt
theorem xV(w:World)(c:iQ w 0 0 8 Ch) :
 Calls Tryd.prog 8 #[] w fun e w'=>e = .returned (.bool true)/\Below w.heap.size w w':=by
 have g:=c.lt (by omega);have f:1<=w.heap.size:=by omega
 refine Kent Tryd.func8 63 ?_;refine ay<|av aF<|aD<|ay<|lS (Vs 2 (by omega) _) ?_;rintro e9 w1 ⟨b,m0,z,T,K⟩;refine⟨_,z,?_⟩;clear z;have A:=T.weak (Below.refl w.heap.size w).size;have m:=bE K (Below.refl w.heap.size w);refine av (.tuple #[(pt b),au 0])<|av (pt b)<|av (au 0)<|av (pt b)<|av (au 0)<|aD<|Ws<|ay<|av (au 0)<|Lv aF (jH rfl)<|av aF<|av (pt b)<|Lv aF (Fx.mh rfl rfl rfl (by kernel_rfl))<|av aF<|aD<|aL<|Wk<|sN<|ay<|av (pt b)<|av (.agg (aA 6 (bR (bR (fun a=>if a<1 then .int .u8 (0)else if a<2 then aC 0 else if a<4 then au 0 else aC 0) 0 1 (fun _ => .int .u8 (1))) 3 1 (fun _=>au 10))))<|dL (Nv A f (c.below m g) 1 (x:=VW) O9 (fun j S=>by rcases j with _|_|_|_|_|_|j <;> first|rfl|omega)) (.tuple #[.agg (aA 14 (bH wA)),au 0]) (by rw[apf,agZ]) ?_
 intro w2 L;have⟨U,n⟩:=eU L A m;refine av (.tuple #[.agg (aA 14 (bH wA)),au 0])<|av (.agg (aA 14 (bH wA)))<|av (au 0)<|qC 14 (fun a=>if a<1 then au 0 else if a<8 then aC 0 else if a<9 then .int .u8 (0)else if a<10 then aC 0 else if a<12 then au 0 else aC 0) fun u w3 I i s3 z1 => ?_;have⟨m3,o⟩:=eU s3.old U n;have sO:=jc I n.size;have uo:=i.lt;refine dZ i 0 (h1:=(fD _)) fun w4 m4 F z2 => ?_;have C:aQ w4 u 14 (bH wA) 28:=aR m4;have P:=gK F i.ty;have k:=jO P m3;have d:=F.below o o.size (by omega);refine av (au 0)<|aD<|ay<|av (pt b)<|Lv (.agg (aA 14 (bH wA))) (fJ C.aH 0)<|dL (yM (v:=wA) k agY f (c.below d g) (fun _ _=>rfl)) (au 0) (by rw[ap1]) ?_;rintro w5 ⟨B,y⟩;have R:=k.q.typed y;have O:=k.q.xR y d.size;have p:=QI d O (z_ _);have D:=C.uj R (by decide);have lm7:=D.lt;refine av (au 0)<|aD<|ay<|av (pt b)<|av (.agg (aA 6 (bR (bR (bR (bR (fun a=>if a<1 then .int .u8 (0)else if a<2 then aC 0 else if a<4 then au 0 else aC 0) 0 1 (fun _ => .int .u8 (3))) 1 1 (fun _=>aC 1099511627777)) 3 1 (fun _=>au 4)) 4 1 (fun _=>aC 1))))<|dL (Nv B f (c.below p g) 2 (x:=Nw) YD (fun j S=>by rcases j with _|_|_|_|_|_|j <;> first|rfl|omega)) (.tuple #[.agg (aA 14 (bH zeroE)),au 11]) (by rw[(show kX (dz (kN 2 0).core wA) 2 Nw=zeroE from apg),(show oq (dz (kN 2 0).core wA) 2 Nw=11 from aha)]) ?_
 intro w6 M;have⟨E,m9,r⟩:=jh M D B p;refine av (.tuple #[.agg (aA 14 (bH zeroE)),au 11])<|av (.agg (aA 14 (bH zeroE)))<|av (au 11)<|qC 14 (fun a=>if a<1 then au 0 else if a<8 then aC 0 else if a<9 then .int .u8 (0)else if a<10 then aC 0 else if a<12 then au 0 else aC 0) fun J w7 t h s6 z3 => ?_;have⟨V,W,s⟩:=jh s6.old E m9 r;have qN:=jc t r.size;have BX:=cu t E.lt;have zL:=h.lt;refine dZ h 0 (h1:=(fD _)) fun w8 X l z4 => ?_;have m14:aQ w8 J 14 (bH zeroE) 28:=aR X;have Y:=V.bY l (by omega);have Q:=gK l h.ty;have Z:=jO Q W;have G:=l.below s s.size (by omega);refine av (au 11)<|aD<|ay<|av (pt b)<|dL (adu b w.heap.size 1 _ wL _ Z 2 Jz 4 (by omega) (by omega)) (ax := #[(pt b),au 2,aC 1099511627777,au 4]) (.tuple #[aC Jz,au 4]) (by rw[lkA.1,lkA.2]) ?_;intro w9 N;have⟨aa,H⟩:=eU N Y G;refine av (.tuple #[aC Jz,au 4])<|av (aC Jz)<|av (au 4)<|av (aC Jz)<|av (au 4)<|aD<|ay<|av (au 0)<|Lv aG (eY rfl)<|av aG<|av (pf u 1)<|Lv (aC ((wA:EvM).seq)) (aM aa.aH 1)<|Lv aG (eY rfl)<|av aG<|av aG<|av (au 0)<|Lv aG (eY rfl)<|av aG<|av aG<|av (au 11)<|Lv aG (eY rfl)<|av aG<|av aG<|av (aC Jz)<|Lv aG (eY rfl)<|av aG<|av aG ?_;refine av (au 4)<|Lv aG (eY rfl)<|av aG<|av aG<|aD<|Wr<|aJ aG ?_;exact⟨rfl,H⟩
set_option maxRecDepth 20000
set_option linter.unusedVariables false
namespace Rt
def nX(V:EvM):Ae:=⟨V.kind,V.node,V.dst,V.aT,V.req,V.of⟩
theorem Pb{V:EvM}(h:fV V):Ib (nX V):=⟨h.kind,h.node,h.dst,h.aT,h.req,h.of⟩
theorem VX(x:Aa)(k:Nat) : ∀ j,j<9->dD (uR x) 0 (.int .u8 (k:Int)) j=uR { x with who:=k } j:=fun j a=>by
 rcases j with _|_|_|_|_|_|_|_|_|j <;> first|rfl|omega
theorem adv{x:Aa}(h:xS x){k:Nat}(a:k<=255):xS { x with who:=k } := { h with who:=a }
end Rt
set_option maxRecDepth 20000 in
set_option maxHeartbeats 2000000 in
theorem Ny(rb:Nat)(W:Option Addr)(C Z:Nat)(xa:Nat->Aa)(pb:Nat)(K:Aa)(w:World)(hrb:rb<=255)(hpb:pb<=255)(hxq:xS K)(hxa : ∀ k,k<C->xS (xa k))(ahd:nY w W C 9 (flat 9 fun k=>uR (xa k)))(hK:iQ w 0 0 8 Ch) :
 Calls Tryd.prog 4 #[.int .u8 (rb:Int),.slice W (C) (Z),.int .u8 (pb:Int),.agg (aA 9 (uR K))] w fun e w'=>e = .returned (.bool true)/\Below w.heap.size w w':=by
 have l0:=hK.lt (by omega);refine Kent Tryd.func4 191 ?_;refine ay<|pQ fun L P mR m1 s1 z1 => ?_;have b1:=bE s1.old (Below.refl w.heap.size w);have sO:=gL mR;have uo:=m1.lt;refine av aF<|aD<|Ws<|ay<|av (.slice W (C) (Z)) ?_;by_cases c24:(decide ((C:Int)<=60))=true
 ·refine oC (Zd _ _ _ _) (ax := #[.slice W (C) (Z)]) aG (by rw[c24])<|av aF<|aD<|aL<|Wk<|sN<|Ws ?_;have hna:=h_ c24;obtain⟨t,ern⟩ : ∃ r,r=rb % 6:=⟨_,rfl⟩;have hrn:t<6:=by rw[ern]; exact I_ _ (by omega)
  refine Wl<|av (.int .u8 (rb:Int))<|Lv (au rb) (dA rfl rfl (by kernel_rfl) Tryd.underlying3 (iT (by omega) rfl))<|Lv (au t) (Fx.zl rfl rfl rfl (by omega) (Gf ern))<|Lv (au ((t:Int)+1)) fE<|av (au ((t:Int)+1))<|aD<|ay<|av (au ((t:Int)+1))<|lS (LC (t+1) _ _ (by omega) (by omega) (by omega)) (ax := #[au ((t:Int)+1)]) ?_;rintro e9 w2 ⟨y,M0,B,hMn,hMa,aph,hW0,hbw⟩;refine⟨(pt y),B,?_⟩;clear B;have sB:=b1.size;have apj:L<P.heap.size:=m1.lt;have⟨m2,b2⟩:=eU hbw m1 b1;have sW:P.heap.size<=w2.heap.size:=hbw.size;refine av (pt y)<|aD<|Ws<|ay<|av (au 0)<|aD<|Wb<|Wo (fun f E => ∃ k:Nat,∃ b:WM,∃ U:Nat,k<=C/\U<=3660*k/\b.n=M0.n/\b.an<=k/\P.heap.size<=E.heap.size/\WC b/\f 1 = .slice W (C) (Z)/\f 2 = .int .u8 (pb:Int)/\f 7=(pt L)/\f 8 = .bool false/\f 9=au ((t:Int)+1)/\f 10=(pt y)/\f 11=au (k:Int)/\aQ E L 9 (uR K) 39/\nW E P.heap.size y b U/\Below w.heap.size w E) (fun f _=>(C-(intOf (f 11)).toNat)) ⟨0,M0,0,by omega,by omega,rfl,by omega,sW,aph,(by rfl),Fx.ic,(by rfl),(by rfl),Fx.ic,(by rfl),Fx.ic,m2,hW0,b2⟩ ?_;rintro f1 w3 ⟨k,b,U,hk,hTk,adw,avv,sWk,hWC,h1,h2,h3,h4,h5,h6,h7,m3,m4,b3⟩;refine Ws<|ay<|aY h7<|aY h1<|av (au C) ?_;by_cases c36:(k:Int)<(C:Int)
  ·refine Lv aG (iL c36)<|aD<|aO<|Wk<|sN<|Ws<|Wb<|Wl<|aY h6<|aY h1<|aY h7 ?_;obtain⟨bq1,oq1,eq1,m5⟩:=(ahd.up b3 rfl) (by omega);have amx:bq1<w3.heap.size:=m5.lt (by omega);refine Lv (pf bq1 (9*k+oq1)) (dh 9 (hx:=(rfl.trans (K_ (fun q=>Value.slice q (C) (Z)) eq1))))<|Lv (.agg (aA 9 (uR (xa k)))) (fJ m5 (9*k) (fun jq hjq=>Fx.mo (k:=k) (by omega) hjq))<|lS (agS b P.heap.size y U (xa k) _ m4 sWk (hxa k (by omega)) (by omega) (by omega)) ?_;rintro e9 w4 ⟨v9,B,hv9,M2,hW1,hM2,avy,avz,hb1⟩;refine⟨_,B,?_⟩;clear B;have apl:=hM2.n;have m6:aQ w4 L 9 (uR K) 39:=m3.RI hb1 apj;have b4:Below w.heap.size w w4:=acW b3 hb1 sB;have sW1:P.heap.size<=w4.heap.size:=(by have:=hb1.size; omega);have sWn:P.heap.size<=w4.heap.size:=(by have:=hb1.size; omega);have apm:WC M2:=hWC.do hW1 (I_ _ (by have:=m4.n1; omega)) hM2 (by omega) (m4.cz.own _ (I_ _ (by have:=m4.n1; omega)));refine Ln<|bT<|sN<|Wl<|aY h7<|Lv (au ((k:Int)+1)) fE<|av (au ((k:Int)+1))<|Ln<|iB ⟨k+1,M2,(U+3660),by omega,by omega,(apl.trans adw),by omega,sWn,apm,h1,(h2.trans Fx.ic),h3,h4,(h5.trans Fx.ic),h6,Fx.ic,m6,hW1,b4⟩ ?_;show(C-(intOf (au ((k:Int)+1))).toNat)<_;simp only[h7,intOf]; omega
  refine Lv aF (iM c36)<|aD<|aL<|Wx<|cK<|gU<|cO<|sN<|Ws ?_;have hWn:b.n=t+1:=adw.trans hMn;obtain⟨d,ewo⟩ : ∃ r,r=pb % (t+1):=⟨_,rfl⟩;have hwo:d<(t+1):=by rw[ewo]; exact I_ _ (by omega)
  refine Wl<|aY h2<|Lv (au pb) (dA rfl rfl (by kernel_rfl) Tryd.underlying3 (iT (by omega) rfl))<|aY h5<|Lv (au d) (Fx.zl rfl rfl rfl (by omega) (Gf ewo))<|av (au d)<|aD<|ay<|av (au d)<|Lv (.int .u8 (d:Int)) (dA rfl rfl (by kernel_rfl) Tryd.underlying5 (Fx.u8e (by omega) rfl))<|Lv (pt L) (jB h3 0)<|iX m3 0 (.int .u8 (d:Int)) fun p m7 s3 z2 => ?_;have m8:aQ p L 9 (uR { K with who:=d }) 39:=m7.congr (VX K d);have gM:=gK s3 m3.ty;have m9:=jO gM m4;have b5:=s3.below b3 b3.size (by omega);refine aD<|Ws ?_;have hWc:=m9.c;have hWa:=m9.a;have YE:=m9.wf;have avB:=m9.may;have hcz:=m9.cz;have hWw:=m9;have haA:nY p b.aa b.an 14 (evX b.ev):=hWa.arr;have lpw:y<p.heap.size:=hWc.lt;have avD:L<p.heap.size:=m8.lt;have I:0<p.heap.size:=by omega
  have H:iQ p 0 0 8 Ch:=hK.below b5 l0;have hB:1<=p.heap.size:=by omega
  have avE:b.an<=60:=by omega
  have A:=hWC.w;have hWn:b.n=t+1:=adw.trans hMn;have YF:d<b.n:=by omega
  have apn:=hWw.l;have haL:nY p b.la b.n 1 (Gd b.pl):=apn.arr;have ahf:=(hWw.g d YF).c;have avG:b.pl d<p.heap.size:=ahf.lt;have hKc:=(hWC.f d YF).kc;have hKk:AO (b.ml d).s.known:=(hWw.inv d YF).kn;have ahh:tZ b.n b.ev b.an (kN (t+1) 0).core:=by have q9:=tZ.new b.n b.ev b.an (O6 A) 0; rw[hWn]at q9 ⊢; exact q9
  have apo : ∀ q,q<6->(kN (t+1) 0).core.known q=Ad (b.ml d).s.known (eO b.ev 0) q:=agW hKc (fun q hq=>(hKk q hq).1);refine Wl<|aY h6<|Lv (.agg (aA 9 (uR { K with who:=d }))) (fJ m8.aH 0 (ha:=h3))<|lS (OY b P.heap.size y U { K with who:=d } _ (hWw.up (Below.refl p.heap.size p)) (adv hxq (by omega))) ?_;rintro e9 w6 ⟨V,hVw,hVs,hVk,B,hb2⟩;refine⟨_,B,?_⟩;clear B;have s4:=Sb hb2;have⟨m10,m11,m12⟩:=jh hb2 hWc m8 ahf;have b6:=s4.below (Below.refl p.heap.size p) (Below.refl p.heap.size p).size (Below.refl p.heap.size p).size;refine qC 14 (fun m=>if m<1 then au 0 else if m<8 then aC 0 else if m<9 then .int .u8 (0)else if m<10 then aC 0 else if m<12 then au 0 else aC 0) fun F w7 yZ m13 s5 z3 => ?_;have⟨m14,m15,m16,b7⟩:=mJ s5.old m10 m11 m12 b6;have qN:p.heap.size<=F:=by rw[yZ]; exact b6.size
  have⟨BZ,zK,Mq⟩:=Dh yZ m10.lt m11.lt m12.lt;have zL:=m13.lt;refine dZ m13 0 (h1:=(fD _)) fun w8 m17 s6 z4 => ?_;have m18:aQ w8 F 14 (bH V) 28:=aR m17;have kr:=gK s6 m13.ty;have⟨m19,m20,m21⟩:=Df kr m14 m15 m16;have b8:=s6.below b7 b7.size (by omega);refine aD<|ay<|aY h5<|lS (yL (Vs (t+1) (by omega) _) (K_ (fun z => #[Value.int .i64 z]) (by omega))) (ax := #[au ((t:Int)+1)]) ?_;rintro e9 w9 ⟨O,mA0,B,hl1,hb3⟩;refine⟨_,B,?_⟩;clear B;have hl2:=hl1.weak b8.size;have⟨m22,m23,m24,mZ,b9⟩:=qD hb3 m19 m20 m21 m18 b8;refine av (.tuple #[(pt O),au 0])<|av (pt O)<|av (au 0)<|av (pt O)<|av (au 0)<|aD<|ay<|aY h5<|lS (yL (Vs (t+1) (by omega) _) (K_ (fun z => #[Value.int .i64 z]) (by omega))) (ax := #[au ((t:Int)+1)]) ?_;have apq:LtC mA0 O w9.heap.size:=fun k hk=>(hl2.q.ltT hk).2;have hXC:=b9.size;have hBC:1<=w9.heap.size:=m_ hB hXC;rintro e9 rO ⟨lpB,mB0,B,hl3,hb4⟩;refine⟨_,B,?_⟩;clear B;have⟨nT,oM,oN,oZ,qc,b10⟩:=rX hb4 m22 m23 m24 mZ hl2 b9;refine av (.tuple #[(pt lpB),au 0])<|av (pt lpB)<|av (au 0)<|av (pt lpB)<|av (au 0)<|aD<|Ws<|ay<|av (au 0)<|Lv aF (jH rfl)<|av aF<|av (au 0)<|Lv aF (jH rfl)<|av aF<|av aF<|av (pt O)<|Lv aF (Fx.mh rfl rfl rfl (by kernel_rfl))<|av aF<|av aF<|av (pt lpB)<|Lv aF (Fx.mh rfl rfl rfl (by kernel_rfl))<|av aF<|aD<|aL<|Wk<|sN<|ay<|aY h6<|av (pt y)<|av (pt y)<|Lv (.slice b.la (b.n) (b.lc)) (aM nT.aH 0)<|av (au d) ?_;obtain⟨bq2,oq2,Ja,ahi⟩:=haL (by omega);have ahj:bq2<p.heap.size:=ahi.lt (by omega);have lU:=ahi.below b10 ahj;have avJ:bq2<rO.heap.size:=lU.lt (by omega);refine Lv (pf bq2 (oq2+d)) (dh 1 (hx:=(rfl.trans (K_ (fun q=>Value.slice q (b.n) (b.lc)) Ja))))<|Lv (pt (b.pl d)) (aM lU d)<|av (pt (b.pl d))<|av (pt (b.pl d))<|av (pf (b.pl d) 12)<|Lv (.agg (aA 6 (rv .u64 ((b.ml d).s.known)))) (fJ oN.aH 12 (fun j N=>kJ _ (by omega) (lD _ N (by omega))))<|qC 6 (rv .u64 (fun _=>0)) fun Q F7 xE m32 s9 z5 => ?_;have⟨qw,og,pV,uf,rP,qM,b11⟩:=jw s9.old nT oM oZ qc hl3 lU b10;have Bz:p.heap.size<=Q:=by rw[xE]; exact b10.size
  have⟨aaP,aaQ,aps,apt⟩:=Iy xE nT.lt oM.lt oN.lt oZ.lt;have apu:bq2≠Q:=by rw[xE]; exact t_ (lU.lt (by omega))
  have IK:=m32.lt;refine dZ m32 0 fun Cx uq s10 z6 => ?_;have nU:aQ Cx Q 6 (rv .u64 ((b.ml d).s.known)) 26:=aR uq;have qZ:=gK s10 m32.ty;have⟨nD,nE,rQ,pz,rZ⟩:=qb qZ qw og pV uf rP;have xB:=qM.bY s10 (by omega);have b12:=s10.below b11 b11.size (by omega);refine aD<|Ws<|ay<|av (au 0)<|aD<|Wb<|Wo (fun f E => ∃ h:Nat,∃ mA:dM,∃ LA:fB,∃ NA:Nat,∃ mB:dM,∃ LB:fB,∃ NB:Nat,h<=b.an/\NA<=h/\NB=h/\tZ b.n b.ev b.an LA/\(∀ q,q<6->LA.known q=Ad (b.ml d).s.known (eO b.ev h) q)/\tZ b.n b.ev b.an LB/\LB.known=eO b.ev h/\LtC mA O w9.heap.size/\f 8 = .bool false/\f 10=(pt y)/\f 12=au (d:Int)/\f 13=(pt F)/\f 14=(pt O)/\f 16=(pt lpB)/\f 18=(pt Q)/\f 19=au (h:Int)/\wm E p.heap.size O mA LA NA/\wm E w9.heap.size lpB mB LB NB/\aQ E y 2 (Ni (.slice b.la (b.n) (b.lc)) (.slice b.aa (b.an) (b.ac))) 61/\aQ E L 9 (uR { K with who:=d }) 39/\aQ E F 14 (bH V) 28/\aQ E Q 6 (rv .u64 ((b.ml d).s.known)) 26/\Below p.heap.size p E) (fun f _=>(b.an-(intOf (f 19)).toNat)) ⟨0,mA0,(kN (t+1) 0).core,0,mB0,(kN (t+1) 0).core,0,by omega,by omega,rfl,ahh,apo,ahh,rfl,apq,h4,h6,Fx.ic,(by rfl),(by rfl),(by rfl),(by rfl),Fx.ic,pz,rZ,nD,nE,rQ,nU,b12⟩ ?_;rintro f2 F8 ⟨h,mA,LA,NA,mB,LB,NB,hix,hNA,hNB,hFA,hKA,S,hKB,R,h8,h9,h10,M,h12,Pz,Ml,NW,tK,sQ,uw,uU,J,uy,b13⟩;refine Ws<|ay<|aY NW<|aY h9<|av (pt y)<|av (pf y 1)<|Lv (.slice b.aa (b.an) (b.ac)) (aM uw.aH 1)<|av (au b.an) ?_;by_cases c96:(h:Int)<(b.an:Int)
  ·refine Lv aG (iL c96)<|aD<|aO<|Wk<|sN<|Ws<|Wb<|ay<|aY h9<|av (pt y)<|av (pf y 1)<|Lv (.slice b.aa (b.an) (b.ac)) (aM uw.aH 1)<|aY NW ?_;obtain⟨bq3,oq3,eq3,ahm⟩:=haA (by omega);have ahn:bq3<p.heap.size:=ahm.lt (by omega);have wD:=ahm.below b13 ahn;have avL:bq3<F8.heap.size:=wD.lt (by omega);refine Lv (pf bq3 (14*h+oq3)) (dh 14 (hx:=(rfl.trans (K_ (fun q=>Value.slice q (b.an) (b.ac)) eq3))))<|Lv (.agg (aA 14 (bH (b.ev h)))) (fJ wD (14*h) (fun jq hjq=>Fx.mo (k:=h) (by omega) hjq))<|qC 14 (fun m=>if m<1 then au 0 else if m<8 then aC 0 else if m<9 then .int .u8 (0)else if m<10 then aC 0 else if m<12 then au 0 else aC 0) fun g4 NY JZ sS s11 z7 => ?_;have⟨sj,sU,xC,ru,uW,oh,tL,b14⟩:=lK s11.old tK sQ uw uU J uy wD b13;have Q7:p.heap.size<=g4:=(by rw[JZ]; exact b13.size);have⟨apv,apw,apx,apy⟩:=Iy JZ uw.lt uU.lt J.lt uy.lt;have abO:bq3≠g4:=(by rw[JZ]; exact t_ (wD.lt (by omega)));have Qi:=sS.lt;refine dZ sS 0 (h1:=(fD _)) fun LK m64 s12 z8 => ?_;have yY:aQ LK g4 14 (bH (b.ev h)) 28:=aR m64;have yX:=gK s12 sS.ty;have⟨wE,wR,wK,sV⟩:=JN yX sj sU xC ru;have uX:=uW.bY s12 (by omega);have uz:=jO yX oh;have vI:=tL.bY s12 (by omega);have b15:=s12.below b14 b14.size (by omega);refine aD<|Ws<|Ws ?_;have hi9:h<b.an:=(by omega);have hxw:=YE h hi9;obtain⟨G,aho,hrg,hro⟩ : ∃ G,aK (b.ev h)=G/\G<6/\(b.ev h).o=(G:Int)+1:=⟨_,rfl,(A.g h hi9).reg.2,(A.g h hi9).reg.1⟩;have hkk:=hKk G hrg;refine Au [0,2,1,3,4,5,6,7,8,9,10,11,12,13] [0,4,0,4,0,0,4,0,0,0,4,2,0,0] (Fx.yU [93]) Fx.yU.refl Fx.yU.trans (fT := [(11,1,[8,7,1]),(11,3,[8,7,6,5,4,3]),(11,6,[8,7,6]),(11,10,[10]),(12,11,[11]),(13,11,[12,11])]) (by kernel_rfl) (by kernel_rfl) (by kernel_rfl) (by kernel_rfl) (by kernel_rfl) fun qE dU iC => ?_;have⟨tN,T,vJ,yt,yu,wS,sZ,b16⟩:=lK dU wE wR wK sV uX uz yY b15;refine aZ (pf g4 1)<|aZ (pt g4)<|Rs (aC ((b.ev h).seq)) (aM sZ.aH 1) ?_;refine Rs (au ((b.ev h).o)) (aM sZ.aH 0) ?_;refine Rp (au G) (fun _=>fQ)<|Rp (pf Q G) (fun _=>jm 6 1 (hx:=Ml))<|Rs (aC (((b.ml d).s.known) G)) (aM wS.aH G) ?_;by_cases Ke:((b.ev h).seq)<=(((b.ml d).s.known) G)
   ·have YG:(b.ev h).seq<=(b.ml d).s.known (aK (b.ev h)):=(by rw[aho]; omega);refine Rp aG (fun _=>mW Ke)<|aZ aG<|bU h12<|Rs (.agg (aA 14 (bH (b.ev h)))) (fJ sZ.aH 0) ?_;refine Dc<|dL (yM (v:=(b.ev h)) tN (YE h (by omega)) hB (H.below b16 I) (fun _ _=>rfl)) (au 0) (by rw[(hFA.nextK A (show h<b.an by omega) hKc hKA YG).1]) ?_;rintro w16 ⟨hq1,hc1⟩;have QX:=tN.q.typed hc1;have apz:=tN.q.xR hc1 b16.size;have b17:=QI b16 apz (z_ _);have uY:=T.apart R hc1;have xD:=vJ.uj QX (by decide);have avM:=xD.lt;have yw:=yt.uj QX (by decide);have avN:=yw.lt;have wF:=yu.uj QX (by decide);have avO:=wF.lt;have zw:=wS.uj QX (by decide);have avP:=zw.lt;have yx:=sZ.uj QX (by decide);have avQ:=yx.lt;refine Ln ⟨QX,?_⟩;refine Rp aF (fun _=>jH rfl)<|aZ aF<|bO<|aL<|Wk<|sN<|ay<|aY Pz<|Lv (.agg (aA 14 (bH (b.ev h)))) (fJ yx.aH 0)<|dL (yM (v:=(b.ev h)) uY (YE h (by omega)) hBC (H.below b17 I) (fun _ _=>rfl)) (au 0) (by rw[(S.next A (show h<b.an by omega) hKB).1]) ?_
    rintro WV ⟨hq2,hc2⟩;have VY:=uY.q.typed hc2;have hbw2:=uY.q.xR hc2 (m_ uY.q.lB (Nat.le_of_lt uY.q.lt));have b18:=QI b17 hbw2 hXC;have zJ:=xD.uj VY (by decide);have avR:=zJ.lt;have yA:=yw.uj VY (by decide);have avS:=yA.lt;have yB:=wF.uj VY (by decide);have avT:=yB.lt;have Ai:=zw.uj VY (by decide);have avU:=Ai.lt;have Ez:=yx.uj VY (by decide);have avV:=Ez.lt;have Dt:=hq1.Ns (R.apply _) uY hc2;refine Lv aF (jH rfl)<|aD<|aL<|Wk<|bT<|sN<|Wl<|aY NW<|Lv (au ((h:Int)+1)) fE<|av (au ((h:Int)+1))<|Ln<|iB ⟨h+1,gJ mA (b.ev h),dz LA (b.ev h),NA+1,gJ mB (b.ev h),dz LB (b.ev h),NB+1,by omega,by omega,by omega,(hFA.apply A (show h<b.an by omega)),(hFA.nextK A (show h<b.an by omega) hKc hKA YG).2,(S.apply A (show h<b.an by omega)),(S.next A (show h<b.an by omega) hKB).2,(R.apply _),h8,h9,(h10.trans Fx.ic),M,h12,Pz,Ml,Fx.ic,Dt,hq2,zJ,yA,yB,Ai,b18⟩ ?_
    show(b.an-(intOf (au ((h:Int)+1))).toNat)<_;simp only[NW,intOf]; omega
   have YG : ¬ (b.ev h).seq<=(b.ml d).s.known (aK (b.ev h)):=(by rw[aho]; omega);refine Rp aF (fun _=>nk Ke)<|aZ aF<|Rk (by rfl)<|Rk (by rfl)<|Rk (by rfl)<|Rk (by rfl)<|aZ aF<|bO<|aL<|Wk<|sN<|ay<|aY Pz<|Lv (.agg (aA 14 (bH (b.ev h)))) (fJ sZ.aH 0)<|dL (yM (v:=(b.ev h)) T (YE h (by omega)) hBC (H.below b16 I) (fun _ _=>rfl)) (au 0) (by rw[(S.next A (show h<b.an by omega) hKB).1]) ?_
   rintro Sq ⟨hq3,hc3⟩;have VZ:=T.q.typed hc3;have apA:=T.q.xR hc3 (m_ T.q.lB (Nat.le_of_lt T.q.lt));have b19:=QI b16 apA hXC;have CF:=tN.Ns R T hc3;have CG:=vJ.uj VZ (by decide);have avW:=CG.lt;have Aj:=yt.uj VZ (by decide);have avX:=Aj.lt;have FT:=yu.uj VZ (by decide);have avY:=FT.lt;have EF:=wS.uj VZ (by decide);have avZ:=EF.lt;have FU:=sZ.uj VZ (by decide);have awc:=FU.lt;refine Lv aF (jH rfl)<|aD<|aL<|Wk<|bT<|sN<|Wl<|aY NW<|Lv (au ((h:Int)+1)) fE<|av (au ((h:Int)+1))<|Ln<|iB ⟨h+1,mA,LA,NA,gJ mB (b.ev h),dz LB (b.ev h),NB+1,by omega,by omega,by omega,hFA,(agV A (show h<b.an by omega) hKA YG),(S.apply A (show h<b.an by omega)),(S.next A (show h<b.an by omega) hKB).2,R,h8,h9,(h10.trans Fx.ic),M,h12,Pz,Ml,Fx.ic,CF,hq3,CG,Aj,FT,EF,b19⟩ ?_
   show(b.an-(intOf (au ((h:Int)+1))).toNat)<_;simp only[NW,intOf]; omega
  refine Lv aF (iM c96)<|aD<|aL<|Wx<|cK<|gU<|cO<|sN<|Ws ?_;have eix:h=b.an:=by omega
  have hkE : ∀ q,q<6->LA.known q=(b.ml d).s.known q:=fun q hq=>by rw[hKA q hq,eix]; exact aoX hKc q hq
  have adx:d<6:=by omega
  have Km:jI ((d:Int)+1)=true:=by unfold jI; simp; omega
  refine Wl<|aY h12<|aY h10<|Lv (au ((d:Int)+1)) fE<|Lv (pf F 8) (jB M 8)<|Lv (.int .u8 (V.kind)) (aM J.aH 8)<|Lv (pf F 9) (jB M 9)<|Lv (aC V.node) (aM J.aH 9)<|Lv (pf F 10) (jB M 10)<|Lv (au V.dst) (aM J.aH 10)<|Lv (pf F 11) (jB M 11)<|Lv (au V.aT) (aM J.aH 11)<|Lv (pf F 12) (jB M 12)<|Lv (aC V.req) (aM J.aH 12)<|Lv (pf F 13) (jB M 13)<|Lv (aC V.of) (aM J.aH 13)<|av (.agg (aA 6 (bR (bR (bR (bR (bR (bR (fun m=>if m<1 then .int .u8 (0)else if m<2 then aC 0 else if m<4 then au 0 else aC 0) 0 1 (fun _ => .int .u8 (V.kind))) 1 1 (fun _=>aC V.node)) 2 1 (fun _=>au V.dst)) 3 1 (fun _=>au V.aT)) 4 1 (fun _=>aC V.req)) 5 1 (fun _=>aC V.of))))<|dL (Nv tK hB (H.below b13 I) ((d:Int)+1) (x:=nX V) (Pb hVw) (fun j N=>by rcases j with _|_|_|_|_|_|j <;> first|rfl|omega)) _ rfl ?_
  intro Y4 hb5;have⟨F9,vR,zO,uK,sD,nL,b20⟩:=jw hb5 tK sQ uw uU J uy b13;refine av (.tuple #[.agg (aA 14 (bH (kX LA ((d:Int)+1) (nX V)))),au (oq LA ((d:Int)+1) (nX V))])<|av (.agg (aA 14 (bH (kX LA ((d:Int)+1) (nX V)))))<|av (au (oq LA ((d:Int)+1) (nX V)))<|qC 14 (fun m=>if m<1 then au 0 else if m<8 then aC 0 else if m<9 then .int .u8 (0)else if m<10 then aC 0 else if m<12 then au 0 else aC 0) fun g5 Sw eg5 nM s15 z9 => ?_;have⟨qh,qH,qI,sF,vS,sG,LJ⟩:=jw s15.old F9 vR zO uK sD nL b20;have lg5:p.heap.size<=g5:=by rw[eg5]; exact b20.size
  have⟨aiQ,aiR,aiS,aiT⟩:=Iy eg5 zO.lt uK.lt sD.lt nL.lt;have tg5:=nM.lt;refine dZ nM 0 (h1:=(fD _)) fun PD tO s16 z10 => ?_;have xJ:aQ PD g5 14 (bH (kX LA ((d:Int)+1) (nX V))) 28:=aR tO;have xA:=gK s16 nM.ty;have⟨tQ,za,zP,wM⟩:=JN xA qh qH qI sF;have tT:=vS.bY s16 (by omega);have qj:=jO xA sG;have Ju:=s16.below LJ LJ.size (by omega);refine av (au (oq LA ((d:Int)+1) (nX V)))<|aD<|Ws<|ay<|av (au (oq LA ((d:Int)+1) (nX V))) ?_;by_cases c145:(oq LA ((d:Int)+1) (nX V))=0
  ·refine Lv aF (jH c145)<|aD<|aL<|Wk<|sN<|Ws<|Ws ?_;have hmc:oq LA ((d:Int)+1) (nX V)=0:=(by omega);have hE:bG LA (lI LA.known ((d:Int)+1) (nX V))=0:=(oJ Km).symm.trans hmc;have hmv:(kX LA ((d:Int)+1) (nX V))=(lI LA.known ((d:Int)+1) (nX V)):=(by unfold kX; rw[d_ hmc]);have ewo:((d:Int)+1-1).toNat=d:=(by omega);have hsq:(lI LA.known ((d:Int)+1) (nX V)).seq=(b.ml d).s.known d+1:=(by show LA.known ((d:Int)+1-1).toNat+1=_; rw[ewo,hkE d adx]);have P8:bG LB (lI LA.known ((d:Int)+1) (nX V))=0:=later A hFA S (by omega) ⟨hVs.aT,hVs.req⟩ hE rfl (by show LA.known ((d:Int)+1-1).toNat=eO b.ev b.an ((d:Int)+1-1).toNat; rw[ewo,hkE d adx]; exact hcz.own d YF) (fun q _=>by rw[hKB,eix]);have ady:fV (lI LA.known ((d:Int)+1) (nX V)):=Nu tQ.i.kn (Pb hVw) Km;have hkk:=hKk d adx;have vT:aQ PD g5 14 (bH (lI LA.known ((d:Int)+1) (nX V))) 28:=(by have q9:=xJ; rw[hmv]at q9; exact q9);refine yS<|aX (pt g5)<|Qv (au ((d:Int)+1)) (fun D u=>aM (vT.aH.dr u) 0)<|eB h10<|Qv (au ((d:Int)+1)) (fun D u=>fE)<|Qv aF (fun D u=>jH rfl)<|aX aF<|aX (pf g5 1)<|Qv (aC ((lI LA.known ((d:Int)+1) (nX V)).seq)) (fun D u=>aM (vT.aH.dr u) 1)<|eB h10<|Qv (pf Q d) (fun D u=>jm 6 1 (hx:=Ml))<|Qv (aC (((b.ml d).s.known) d)) (fun D u=>aM (qj.aH.dr u) d)<|Qv (aC ((((b.ml d).s.known) d)+1)) (fun D u=>fE)<|Qv aF (fun D u=>jH hsq)<|aX aF<|aX aF<|aX (pf g5 2)<|Qv (.agg (aA 6 (rv .u64 LA.known))) (fun D u=>fJ (vT.aH.dr u) 2 (fun j N=>kF _ (by omega) N))<|Qv (.agg (aA 6 (rv .u64 ((b.ml d).s.known)))) (fun D u=>fJ (qj.aH.dr u) 0 (ha:=Ml))<|Qv aF (fun D u=>Fx.ZL (n:=6) (ks:=List.replicate 6 (some .u64)) (X:=rv .u64 LA.known) (Y:=rv .u64 ((b.ml d).s.known)) 12 true rfl rfl rfl (Fx.Pg (fun j N=>K_ (Value.int .u64) (hkE j N))) (Fx.JE fun i hi=>Fx.qU (by have:=hkE i hi; have:=hKk i hi; omega)) (Fx.JE fun i hi=>Fx.qU (by have:=hkE i hi; have:=hKk i hi; omega)) rfl (by kernel_rfl) (by kernel_rfl) (by kernel_rfl) (by kernel_rfl) (by kernel_rfl))<|aX aF<|Qn ?_;rintro _ ⟨qd,rfl⟩;obtain⟨Dn,oG⟩ : ∃ D,D=World.drewN PD qd:=⟨_,rfl⟩;rw[<- oG];have Gx:Stp PD.heap.size PD Dn:=(by rw[oG]; exact Sb (jD PD qd));have⟨wN,vU,Dv,EH,EI,BI,Dw,Q5⟩:=lK Gx.old tQ za zP wM tT qj vT Ju;clear oG;refine sN<|aL<|Wk<|sN<|ay<|aY h12<|Lv (.agg (aA 14 (bH (lI LA.known ((d:Int)+1) (nX V))))) (fJ Dw.aH 0)<|dL (OW (v:=(lI LA.known ((d:Int)+1) (nX V))) wN ady hB (H.below Q5 I) (fun _ _=>rfl)) (au 0) (by rw[hE]) ?_;intro w22 hb6;have⟨Ga,wO,BJ,Jb,Kz,EJ,Dx,Q6⟩:=lK hb6 wN vU Dv EH EI BI Dw Q5;refine Lv aG (eY rfl)<|av aG<|aY Pz<|Lv (.agg (aA 14 (bH (lI LA.known ((d:Int)+1) (nX V))))) (fJ Dx.aH 0)<|dL (yM (v:=(lI LA.known ((d:Int)+1) (nX V))) wO ady hBC (H.below Q6 I) (fun _ _=>rfl)) (au 0) (by rw[P8]) ?_;rintro w23 ⟨hq4,hc4⟩;have V4:=wO.q.typed hc4;have apB:=wO.q.xR hc4 (m_ wO.q.lB (Nat.le_of_lt wO.q.lt));have WS:=QI Q6 apB hXC;have Dy:=Ga.Ns R wO hc4;have Gb:=BJ.uj V4 (by decide);have arA:=Gb.lt;have AU:=Jb.uj V4 (by decide);have arB:=AU.lt;have AV:=Kz.uj V4 (by decide);have arC:=AV.lt;have AX:=EJ.uj V4 (by decide);have arD:=AX.lt;have BN:=Dx.uj V4 (by decide);have arE:=BN.lt;refine Lv aG (eY rfl)<|av aG<|av aG<|aY h12<|Lv (.agg (aA 14 (bH (lI LA.known ((d:Int)+1) (nX V))))) (fJ BN.aH 0)<|dL (yM (v:=(lI LA.known ((d:Int)+1) (nX V))) Dy ady hB (H.below WS I) (fun _ _=>rfl)) (au 0) (by rw[hE]) ?_;rintro w24 ⟨hq5,hc5⟩;have V6:=Dy.q.typed hc5;have apD:=Dy.q.xR hc5 WS.size;have WT:=QI WS apD (z_ _);have EK:=Gb.uj V6 (by decide);have arF:=EK.lt;have zQ:=AU.uj V6 (by decide);have arG:=zQ.lt;have BK:=AV.uj V6 (by decide);have arH:=BK.lt;have ze:=AX.uj V6 (by decide);have arI:=ze.lt;have I5:=BN.uj V6 (by decide);have arJ:=I5.lt;have P9:=hq4.apart R hc5;refine Lv aG (eY rfl)<|av aG<|av aG<|dL (xV _ (H.below WT I)) _ rfl ?_;intro w25 hb7;have WU:=bE hb7 WT;refine av aG<|av aG<|aD<|Wr<|aJ aG ?_;exact⟨rfl,(acW b5 WU b5.size)⟩
  refine Lv aG (mX c145)<|aD<|aO<|Ws ?_;have hz:(kX LA ((d:Int)+1) (nX V))=zeroE:=by unfold kX; rw[b_ c145]
  refine Wl<|Lv (.agg (aA 14 (bH (kX LA ((d:Int)+1) (nX V))))) (fJ xJ.aH 0)<|av (.agg (aA 14 (fun m=>if m<1 then au 0 else if m<8 then aC 0 else if m<9 then .int .u8 (0)else if m<10 then aC 0 else if m<12 then au 0 else aC 0)))<|Lv aG (Fx.vw (n:=14) (ks := [(some .i64),(some .u64),(some .u64),(some .u64),(some .u64),(some .u64),(some .u64),(some .u64),(some .u8),(some .u64),(some .i64),(some .i64),(some .u64),(some .u64)]) (X:=bH (kX LA ((d:Int)+1) (nX V))) (Y:=fun m=>if m<1 then au 0 else if m<8 then aC 0 else if m<9 then .int .u8 (0)else if m<10 then aC 0 else if m<12 then au 0 else aC 0) 12 true rfl rfl rfl (Fx.Pg (fun j N=>by rw[hz]; exact(show bH zeroE j=_ from by rcases j with _|_|_|_|_|_|_|_|_|_|_|_|_|_|j <;> first|rfl|omega))) (by rw[hz]; exact zx Bh) (Jj (zx Bh) (fun j N=>by rcases j with _|_|_|_|_|_|_|_|_|_|_|_|_|_|j <;> first|rfl|omega)) rfl (by kernel_rfl) (by kernel_rfl) (by kernel_rfl) (by kernel_rfl) (by kernel_rfl))<|av aG<|dL (xV _ (H.below Ju I)) _ rfl ?_
  intro w26 hb8;have Y2:=bE hb8 Ju;refine av aG<|av aG<|aD<|Wr<|sR<|aJ aG ?_;exact⟨rfl,(acW b5 Y2 b5.size)⟩
 rw[S_]at c24;refine oC (Zd _ _ _ _) (ax := #[.slice W (C) (Z)]) aF (by rw[c24])<|av aG<|aD<|aO<|ay<|dL (xV _ (hK.below b1 l0)) _ rfl ?_;intro w27 hb9;have b29:=bE hb9 b1;refine av aG<|aD<|Wr<|sR<|aJ aG ?_;exact⟨rfl,b29⟩
end Go.Proofs.YtahbiajdgealnaaDoor
namespace Go.Proofs.YtahbiajdgealnaaDoor
open Go.RowKit Go.WideShapes Go.ChangeShapes Go.Deep Rt
theorem QY{P:Program}{l:Array Field}{T:TypeId}{H:Type}{enc:TypeId × Value->H}{w W:World}{r:Reach}{base D:Nat}{v:Value}{d:DataW H}{s:List MemPlace}(p:P.underlying T=some (.struct l))(o:wh P D T=some Hy)(f:Value.okWide P W r base T v)(h:DataW.Trod enc P w 0 (fun _=>true) true T v d s) : ∃ V:Aa,v = .agg (Fx.aA 9 (uR V))/\xS V:=by
 unfold Value.okWide at f;rw[p]at f;obtain⟨a,rfl,_⟩:=f;obtain⟨t,n⟩:=h;have g:=yK _ _ _ o _ _ _ n;have u:a.size=9:=by have:=g.1; simpa [Value.cells,Hy] using this
 have q : ∀(j:Nat) (k:Option IntKind),Hy[j]? = some k->OU k ((fun j=>a[j]?.getD undef) j):=fun j k e=>by
  obtain⟨v,b,c⟩:=g.2 j k e;have m:a[j]? = some v:=by simpa [Value.cells] using b
  show OU k (a[j]?.getD undef);rw[m]; exact c
 obtain⟨c,b⟩:=FD q;refine⟨_,K_ Value.agg ?_,c⟩;apply Array.ext_getElem?;intro j;by_cases i:j<9
 ·rw[Fx.gF _ i,<- b j i];show a[j]? = some (a[j]?.getD undef);rw[Array.getElem?_eq_getElem (by omega)]; rfl
 rw[Array.getElem?_eq_none (by omega),Array.getElem?_eq_none (by rw[Fx.bW]; omega)]
set_option maxRecDepth 100000 in
theorem V7{H:Type}{enc:TypeId × Value->H}{w W:World}{r:Reach}{base:Nat}{v:Value}{d:DataW H}{b:List MemPlace}(a:Value.okWide Tryd.prog W r base 39 v)(h:DataW.Trod enc Tryd.prog w 0 (fun _=>true) true 39 v d b) : ∃ V:Aa,v = .agg (Fx.aA 9 (uR V))/\xS V :=
 QY (D:=8) Tryd.underlying39 (by kernel_rfl) a h
end Go.Proofs.YtahbiajdgealnaaDoor
namespace Go.Proofs.YtahbiajdgealnaaDoor
open Go Go.RowKit Rt
set_option linter.unusedVariables false
set_option maxRecDepth 100000
theorem kG : Tryd.prog.globalNamed "leat/ledger.kinds" = some 0 := by kernel_rfl
theorem kT:(Tryd.prog.globals[0]?).map (·.type)=some 118:=by kernel_rfl
theorem kC:Tryd.prog.cellsOf 117=1:=by kernel_rfl
theorem kC8:Tryd.prog.cellsOf 118=8:=by kernel_rfl
theorem LG{H:Type}{enc:TypeId × Value->H}{P:Program}{w:World}{base:Nat}{d:Nat->Bool}{a:Bool}{fuel:Nat}{t:TypeId}{c rs:Array TypeId}{e:Bool}{v:Value}{q:List MemPlace}(b:P.underlying t=some (.func c rs e))(h:DataW.trod enc P w base d a fuel t [v]=some (.nil,q)):v = .nilFunc:=by
 cases fuel with
 | zero=>simp[DataW.trod]at h
 | succ n=>cases v <;> simp[DataW.trod,b]at h <;> rfl
theorem LH {W : World} (h : laidMetH Tryd.prog [("leat/ledger.kinds", Rows.laid_leat_ledger_kinds)] W) : Fx.iQ W 0 0 8 Ch := by
 obtain⟨g,t,e,R,p,V,Z,hv,T⟩:=h.funcs (List.mem_singleton.2 rfl);obtain rfl:=B_ (kG.symm.trans V);obtain rfl:=B_ (kT.symm.trans Z);have U:DataW.trod (funcToken Tryd.prog) Tryd.prog W 0 (fun _=>true) true R 118 e.toList=some (.agg [.nil,.held [40,42,108,101,97,116,47,108,101,100,103,101,114,46,76,101,100,103,101,114,41,46,109,97,107,101,115],.held [40,42,108,101,97,116,47,108,101,100,103,101,114,46,76,101,100,103,101,114,41,46,114,97,105,115,101,115],.held [40,42,108,101,97,116,47,108,101,100,103,101,114,46,76,101,100,103,101,114,41,46,116,97,107,101,115],.held [40,42,108,101,97,116,47,108,101,100,103,101,114,46,76,101,100,103,101,114,41,46,102,114,101,101,115],.held [40,42,108,101,97,116,47,108,101,100,103,101,114,46,76,101,100,103,101,114,41,46,109,111,118,101,115],.held [40,42,108,101,97,116,47,108,101,100,103,101,114,46,76,101,100,103,101,114,41,46,106,111,105,110,115],.held [40,42,108,101,97,116,47,108,101,100,103,101,114,46,76,101,100,103,101,114,41,46,108,101,97,118,101,115]],p):=T;obtain⟨k,m,_,Q,Y,hl,l⟩:=DataW.trod_array Tryd.underlying118 U;have P:k.map (·.1) = [.nil,.held [40,42,108,101,97,116,47,108,101,100,103,101,114,46,76,101,100,103,101,114,41,46,109,97,107,101,115],.held [40,42,108,101,97,116,47,108,101,100,103,101,114,46,76,101,100,103,101,114,41,46,114,97,105,115,101,115],.held [40,42,108,101,97,116,47,108,101,100,103,101,114,46,76,101,100,103,101,114,41,46,116,97,107,101,115],.held [40,42,108,101,97,116,47,108,101,100,103,101,114,46,76,101,100,103,101,114,41,46,102,114,101,101,115],.held [40,42,108,101,97,116,47,108,101,100,103,101,114,46,76,101,100,103,101,114,41,46,109,111,118,101,115],.held [40,42,108,101,97,116,47,108,101,100,103,101,114,46,76,101,100,103,101,114,41,46,106,111,105,110,115],.held [40,42,108,101,97,116,47,108,101,100,103,101,114,46,76,101,100,103,101,114,41,46,108,101,97,118,101,115]]:=by
  have:=K_ Prod.fst Q;simp only[DataW.agg.injEq]at this;exact this.symm
 rw[kC8]at Y;rw[kC]at l;have a : ∀ i,i<8 -> ∀ d,(k.map (·.1))[i]? = some d -> ∃ c q,e[i]? = some c/\DataW.trod (funcToken Tryd.prog) Tryd.prog W 0 (fun _=>true) true m 117 [c]=some (d,q):=fun i X d b=>by
  have f:=l i X;rw[Nat.mul_one]at f;have S:(e.toList.drop i).take 1 = [e.toList[i]'(by omega)]:=by rw[List.drop_eq_getElem_cons (by omega)]; rfl
  rw[S]at f;rw[List.getElem?_map]at b
  cases hx:k[i]? with
  | none=>rw[hx]at b; cases b
  | some x =>
    rw[hx]at f b;simp only[Option.map_some,Option.some.injEq]at b;refine⟨e.toList[i]'(by omega),x.2,?_,by rw[f,<- b]⟩;rw[<- Array.getElem?_toList,o_ (by omega)]
 rw[P]at a;intro j hj;rw[E_,World.var?_cell kG hv j];obtain⟨c0,q0,n,z⟩:=a 0 (by decide) _ rfl;have H:=LG Tryd.underlying117 z;obtain⟨c1,q1,o,A⟩:=a 1 (by decide) _ rfl;have I:=func_of_trod (f0:=145) Tryd.underlying117 (by kernel_rfl) A;obtain⟨c2,q2,r,B⟩:=a 2 (by decide) _ rfl;have J:=func_of_trod (f0:=146) Tryd.underlying117 (by kernel_rfl) B;obtain⟨c3,q3,s,C⟩:=a 3 (by decide) _ rfl;have K:=func_of_trod (f0:=147) Tryd.underlying117 (by kernel_rfl) C;obtain⟨c4,q4,u,D⟩:=a 4 (by decide) _ rfl;have L:=func_of_trod (f0:=148) Tryd.underlying117 (by kernel_rfl) D;obtain⟨c5,q5,v,E⟩:=a 5 (by decide) _ rfl;have M:=func_of_trod (f0:=149) Tryd.underlying117 (by kernel_rfl) E;obtain⟨c6,q6,w,F⟩:=a 6 (by decide) _ rfl;have N:=func_of_trod (f0:=150) Tryd.underlying117 (by kernel_rfl) F;obtain⟨c7,q7,y,G⟩:=a 7 (by decide) _ rfl;have O:=func_of_trod (f0:=151) Tryd.underlying117 (by kernel_rfl) G
 rcases j with _|_|_|_|_|_|_|_|j
 ·rw[n,H]; rfl
 ·rw[o,I]; rfl
 ·rw[r,J]; rfl
 ·rw[s,K]; rfl
 ·rw[u,L]; rfl
 ·rw[v,M]; rfl
 ·rw[w,N]; rfl
 ·rw[y,O]; rfl
 omega
theorem V9 (os : Os) (args : Array Value) : laidMetH Tryd.prog [("leat/ledger.kinds", Rows.laid_leat_ledger_kinds)] ((World.doorLaid Tryd.prog 600 os).forCall (fun _ _ => 0) ⟨#[], args, []⟩).memory :=
 laidMetH_of_parts3 (fuel:=8) (laidMet_of_run' 8 (by kernel_rfl) (by kernel_rfl)) (by kernel_rfl) (by kernel_rfl)
end Go.Proofs.YtahbiajdgealnaaDoor
