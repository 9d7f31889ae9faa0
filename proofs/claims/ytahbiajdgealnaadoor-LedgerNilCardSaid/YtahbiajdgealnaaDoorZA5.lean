/-
  What the proof of the law rests on, part 5: walks of functions, and plain laws; each says its conditions itself.
-/
import Derived.OrdersIn
import Derived.Test.YtahbiajdgealnaaDoorZA4
namespace Go.Proofs.YtahbiajdgealnaaDoor
open Go.RowKit Rt
open Fx (ah aj au ak aJ aA aO eZ av bF dI aK x_len dw bX dn bG Lv sN Ln Ws Qv Wl Rp Wc Qs Wr Sb Lk Wk rC rV sR)
namespace Rt
def hasB(K:Nat->Int)(o seq:Int):Bool:=nR o&&decide (0<seq)&&decide (seq<=K (o-1).toNat)
theorem zK{a b:Nat->Int}:zo a b=true <-> ∀ i,i<6->Fx.rv .u64 (fun p=>jr (a p) (b p)) i=Fx.rv .u64 b i:=by
 unfold zo
 rw[List.all_eq_true]
 have e : ∀ i,Fx.rv .u64 (fun p=>jr (a p) (b p)) i=Fx.rv .u64 b i<->a i<=b i:=fun i=>by
  show Value.int .u64 (jr (a i) (b i)) = .int .u64 (b i)<->_
  simp only[Value.int.injEq,true_and]; unfold jr; split <;> omega
 constructor
 ·intro h i hi; have:=h i (List.mem_range.2 hi); rw[e]; exact of_decide_eq_true this
 intro h i hi; have:=h i (List.mem_range.1 hi); rw[e]at this; exact decide_eq_true this
def Kr(K:Nat->Int):Prop := ∀ i,i<6->gL (K i)
theorem Kr.kd{K:Nat->Int}(h:Kr K):Fx.Kd (List.replicate 6 (some .u64)) (Fx.rv .u64 K):=Fx.wR fun i hi=>Fx.kD (h i hi)
theorem Kr.mx{K L:Nat->Int}(h:Kr K)(h2:Kr L):Kr (fun p=>jr (K p) (L p)):=fun i hi=>by
 have q1:=h i hi; have q2:=h2 i hi; show gL (jr (K i) (L i)); unfold jr; split <;> assumption
end Rt
theorem M7{w:World}{g:Nat}{T:TypeId}{x:Nat->Value}(D K:Nat->Int)(h:Fx.aP w g (2*6) x T)(e:x=vx (V2 D K)) :
 Calls Tryd.prog 98 #[.slice (some ⟨g,0,none⟩) 2 2] w fun e w'=>e = .returned (.agg (Fx.ay 6 (Fx.rv .u64 fun p=>jr (D p) (K p))))/\Below w.heap.size w w' :=
 RL (some ⟨g,0,none⟩) 2 2 (V2 D K) w (by omega) (fun _=>⟨Nat.le_refl _,g,0,rfl,(h.to e).aL⟩)
theorem Kv(n:Int)(w:World) :
 Calls Tryd.prog 38 #[.int .i64 (n)] w fun e w'=>e = .returned (.bool (nR n))/\w'=w:=by
 refine Fx.enter Tryd.func38 rfl (n:=9) rfl (by rfl) ?_
 refine Ws (Wl (Lv (.bool false) (aj rfl rfl) (Ln (sN (Ws (Wl (Lv (.int .i64 (n)) (ah rfl rfl) ?_)))))))
 by_cases c4:1<=n
 ·refine Lv (.bool true) (Fx.gV rfl rfl rfl c4) (Lv (.bool true) (ah rfl rfl) (Lv (.int .i64 (n)) (ah rfl rfl) ?_))
  by_cases c7:n<=6
  ·refine Lv (.bool true) (Fx.gU rfl rfl rfl c7) (Lv (.bool true) (aA rfl rfl rfl) (Lv (.bool true) (aj rfl rfl) (Ln (sN (Wr (⟨.bool true,rV Tryd.results38 (by exact rfl),?_⟩))))))
   exact⟨congrArg (fun q=>Ending.returned (Value.bool q)) (by simp only[nR]; first|(symm; simp; omega)|(symm; simp; done)),rfl⟩
  refine Lv (.bool false) (dI rfl rfl rfl c7) (Lv (.bool false) (aA rfl rfl rfl) (Lv (.bool false) (aj rfl rfl) (Ln (sN (Wr (⟨.bool false,rV Tryd.results38 (by exact rfl),?_⟩))))))
  exact⟨congrArg (fun q=>Ending.returned (Value.bool q)) (by simp only[nR]; first|(symm; simp; omega)|(symm; simp; done)),rfl⟩
 refine Lv (.bool false) (Fx.eY rfl rfl rfl c4) (Lv (.bool false) (ah rfl rfl) (Lk (by rfl) rfl (Lk (by rfl) rfl (Lv (.bool false) (aJ rfl rfl rfl) (Lv (.bool false) (aj rfl rfl) (Ln (sN (Wr (⟨.bool false,rV Tryd.results38 (by exact rfl),?_⟩)))))))))
 exact⟨congrArg (fun q=>Ending.returned (Value.bool q)) (by simp only[nR]; first|(symm; simp; omega)|(symm; simp; done)),rfl⟩
theorem Pf(K:Nat->Int)(o q:Int)(w:World) :
 Calls Tryd.prog 68 #[.agg (Fx.ay 6 (Fx.rv .u64 K)),.int .i64 (o),.int .u64 (q)] w fun e w'=>e = .returned (.bool (hasB K o q))/\Below w.heap.size w w':=by
 refine Fx.enter Tryd.func68 rfl (n:=21) rfl (by rfl) ?_
 refine Ws (Wl (Fx.L.box (m:=6) (y:=Fx.rv .u64 K) (by rfl) rfl rfl (Fx.aN _ _) rfl fun g1 w1 aZ m1 s1 z1 => ?_))
 have b1:=s1.below (Below.refl w.heap.size w) (Below.refl w.heap.size w).size (Below.refl w.heap.size w).size
 have kM:w.heap.size<=g1:=by rw[aZ]; exact(Below.refl w.heap.size w).size
 have mO:g1<w1.heap.size:=m1.lt
 clear aZ
 refine Lv (.bool false) (aj rfl rfl) (Ln (sN (Ws (Wl (Lv (.int .i64 (o)) (ah rfl rfl) ?_)))))
 by_cases c8:(nR o)=true
 ·obtain⟨a,ha,ea⟩:=eF c8
  refine Fx.L.call (by rfl) (rC (args := [.int .i64 (o)]) rfl rfl Tryd.func38 rfl rfl) rfl ((Kv o _).mono ?_)
  rintro e v1 ⟨he,hv1⟩
  subst v1
  refine⟨.bool true,by rw[he,c8],?_⟩
  clear he
  refine Lv (.bool true) (ah rfl rfl) (Lv (.int .u64 (q)) (ah rfl rfl) ?_)
  by_cases c11:0<q
  ·refine Lv (.bool true) (Fx.iy rfl rfl rfl c11) (Lv (.bool true) (aA rfl rfl rfl) (Lv (.bool true) (ah rfl rfl) (Lv (.int .i64 (o)) (ah rfl rfl) (Lv (.int .i64 ((a:Int))) (Fx.bD rfl rfl rfl Fx.io) (Lv ((pf g1 a)) (bF rfl rfl rfl Tryd.underlying26 (s:=1) (by kernel_rfl) (by omega) (by omega) (by omega)) (Lv (.int .u64 (K a)) (ak (x:=Fx.rv .u64 K) rfl rfl (by kernel_rfl) m1.aL (i:=a) (by omega) (by omega) rfl) (Lv (.int .u64 (q)) (ah rfl rfl) ?_)))))))
   by_cases c19:q<=(K a)
   ·refine Lv (.bool true) (Fx.gV rfl rfl rfl c19) (Lv (.bool true) (aA rfl rfl rfl) (Lv (.bool true) (aj rfl rfl) (Ln (sN (Wr (⟨.bool true,rV Tryd.results68 (by exact rfl),?_⟩))))))
    have m2:decide (0<q)=true:=decide_eq_true c11
    have m3:decide (q<=K (o-1).toNat)=true:=decide_eq_true (by rw[show(o-1).toNat=a by omega]; exact c19)
    exact⟨congrArg (fun q=>Ending.returned (Value.bool q)) (Eq.symm (by unfold hasB; rw[c8,m2,m3]; try rfl)),b1⟩
   refine Lv (.bool false) (Fx.eY rfl rfl rfl c19) (Lv (.bool false) (aA rfl rfl rfl) (Lv (.bool false) (aj rfl rfl) (Ln (sN (Wr (⟨.bool false,rV Tryd.results68 (by exact rfl),?_⟩))))))
   have m2:decide (0<q)=true:=decide_eq_true c11
   have m3:decide (q<=K (o-1).toNat)=false:=decide_eq_false (by rw[show(o-1).toNat=a by omega]; exact c19)
   exact⟨congrArg (fun q=>Ending.returned (Value.bool q)) (Eq.symm (by unfold hasB; rw[c8,m2,m3]; try rfl)),b1⟩
  refine Lv (.bool false) (dw rfl rfl rfl c11) (Lv (.bool false) (aA rfl rfl rfl) (Lv (.bool false) (ah rfl rfl) (Lk (by rfl) rfl (Lk (by rfl) rfl (Lk (by rfl) rfl (Lk (by rfl) rfl (Lk (by rfl) rfl (Lk (by rfl) rfl (Lv (.bool false) (aJ rfl rfl rfl) (Lv (.bool false) (aj rfl rfl) (Ln (sN (Wr (⟨.bool false,rV Tryd.results68 (by exact rfl),?_⟩))))))))))))))
  have m2:decide (0<q)=false:=decide_eq_false c11
  exact⟨congrArg (fun q=>Ending.returned (Value.bool q)) (Eq.symm (by unfold hasB; rw[c8,m2]; try rfl)),b1⟩
 rw[Bool.not_eq_true]at c8
 refine Fx.L.call (by rfl) (rC (args := [.int .i64 (o)]) rfl rfl Tryd.func38 rfl rfl) rfl ((Kv o _).mono ?_)
 rintro e v1 ⟨he,hv1⟩
 subst v1
 refine⟨.bool false,by rw[he,c8],?_⟩
 clear he
 refine Lv (.bool false) (ah rfl rfl) (Lk (by rfl) rfl (Lk (by rfl) rfl (Lv (.bool false) (aJ rfl rfl rfl) (Lv (.bool false) (ah rfl rfl) (Lk (by rfl) rfl (Lk (by rfl) rfl (Lk (by rfl) rfl (Lk (by rfl) rfl (Lk (by rfl) rfl (Lk (by rfl) rfl (Lv (.bool false) (aJ rfl rfl rfl) (Lv (.bool false) (aj rfl rfl) (Ln (sN (Wr (⟨.bool false,rV Tryd.results68 (by exact rfl),?_⟩))))))))))))))))
 exact⟨congrArg (fun q=>Ending.returned (Value.bool q)) (Eq.symm (by unfold hasB; rw[c8]; try rfl)),b1⟩
theorem Kw(D K:Nat->Int)(w:World)(hD:Kr D)(hK:Kr K) :
 Calls Tryd.prog 69 #[.agg (Fx.ay 6 (Fx.rv .u64 D)),.agg (Fx.ay 6 (Fx.rv .u64 K))] w fun e w'=>e = .returned (.bool (zo D K))/\Below w.heap.size w w':=by
 refine Fx.enter Tryd.func69 rfl (n:=11) rfl (by rfl) ?_
 refine Ws (Wl (Fx.L.box (m:=6) (y:=Fx.rv .u64 D) (by rfl) rfl rfl (Fx.aN _ _) rfl fun g1 w1 aZ m1 s1 z1 => ?_))
 have b1:=s1.below (Below.refl w.heap.size w) (Below.refl w.heap.size w).size (Below.refl w.heap.size w).size
 have kM:w.heap.size<=g1:=by rw[aZ]; exact(Below.refl w.heap.size w).size
 have mO:g1<w1.heap.size:=m1.lt
 clear aZ
 refine Fx.L.box (m:=6) (y:=Fx.rv .u64 K) (by rfl) rfl rfl (Fx.aN _ _) rfl fun g2 w2 bS m2 s2 z2 => ?_
 have m3:=m1.aC s2 m1.ne
 have b2:=s2.below b1 b1.size b1.size
 have su:w.heap.size<=g2:=by rw[bS]; exact b1.size
 have xg:g1≠g2:=by rw[bS]; exact Nat.ne_of_lt (m1.lt)
 have vK:g2<w2.heap.size:=m2.lt
 clear bS
 refine Lv (.bool false) (aj rfl rfl) (Ln (sN (Ws ?_)))
 -- region 1 draws
 refine Fx.W.bH [0,1,4,2,3,5,6] [4,4,2,2,1,0,0] Fx.Mk Fx.Mk.refl Fx.Mk.trans (aQ := [(2,0,[0]),(3,0,[2,0]),(2,1,[1]),(3,1,[2,1]),(3,2,[2]),(5,2,[3,2]),(6,2,[2]),(5,3,[3]),(6,3,[3])]) (by kernel_rfl) (by kernel_rfl) (by kernel_rfl) (by kernel_rfl) (by kernel_rfl) fun jc bT fE => ?_
 have s3:Fx.Stp w2.heap.size w2 jc:=Sb bT
 have m4:=m3.aC s3 m3.ne
 have m5:=m2.aC s3 m2.ne
 have b3:=s3.below b2 b2.size b2.size
 refine Fx.R.s (.agg (Fx.ay 6 (Fx.rv .u64 D))) (aK (x:=Fx.rv .u64 D) (y:=Fx.rv .u64 D) rfl rfl (by kernel_rfl) (by kernel_rfl) m4.aL (i:=0) (by omega) (by omega) (fun j _=>by rw[Nat.zero_add])) ?_
 refine Fx.R.s (.agg (Fx.ay 6 (Fx.rv .u64 K))) (aK (x:=Fx.rv .u64 K) (y:=Fx.rv .u64 K) rfl rfl (by kernel_rfl) (by kernel_rfl) m5.aL (i:=0) (by omega) (by omega) (fun j _=>by rw[Nat.zero_add])) ?_
 refine Fx.R.read (v := .agg (Fx.ay 6 (Fx.rv .u64 K))) (by rfl) (by rfl) (Fx.Mk.refl _) (fun v1 hv1=>aK (x:=Fx.rv .u64 K) (y:=Fx.rv .u64 K) rfl rfl (by kernel_rfl) (by kernel_rfl) (m5.aL.below hv1 (by have:=m5.lt; omega)) (i:=0) (by omega) (by omega) (fun j _=>by rw[Nat.zero_add])) ?_
 refine Fx.R.make (by rfl) ?_
 refine Fx.L.wV (vs := [(0,.agg (Fx.ay 6 (Fx.rv .u64 D))),(1,.agg (Fx.ay 6 (Fx.rv .u64 K)))]) (s:=6) (zc:=Fx.rv .u64 (fun _=>0)) (y:=Fx.aX (Fx.aX (fun j=>(Fx.rv .u64 (fun _=>0)) (j % 6)) (0*6) 6 (Fx.rv .u64 D)) (1*6) 6 (Fx.rv .u64 K)) (by rfl) rfl rfl Tryd.underlying173 (by kernel_rfl) (by rfl) (by rfl) (by kernel_rfl) (by rw[Fx.aG (off:=0*6) (s:=6) (y:=Fx.rv .u64 D) rfl (Fx.aN _ _) (by rfl)]; rw[Fx.aG (off:=1*6) (s:=6) (y:=Fx.rv .u64 K) rfl (Fx.aN _ _) (by rfl)]; rfl) rfl fun g3 w3 iq m6 s4 z3 => ?_
 have b4:=s4.below b3 b3.size b3.size
 have uY:w.heap.size<=g3:=by rw[iq]; exact b3.size
 have Pb:g1≠g3:=by rw[iq]; exact Nat.ne_of_lt (m4.lt)
 have Ku:g2≠g3:=by rw[iq]; exact Nat.ne_of_lt (m5.lt)
 have LW:g3<w3.heap.size:=m6.lt
 clear iq
 refine Ln ⟨s4.old,?_⟩
 refine Fx.R.make (by rfl) ?_
 refine Fx.L.call (by rfl) (rC (args := [.slice (some ⟨g3,0,none⟩) (2) (2)]) rfl rfl Tryd.func98 rfl rfl) rfl ((M7 D K m6 (U6 D K)).mono ?_)
 rintro e w4 ⟨he,hb1⟩
 refine⟨.agg (Fx.ay 6 (Fx.rv .u64 (fun p=>jr (D p) (K p)))),by rw[he],?_⟩
 clear he
 have s5:=Sb hb1
 have b5:=s5.below b4 b4.size b4.size
 refine Ln ⟨s5.old,?_⟩
 by_cases c10 : ∀ i,i<6->(Fx.rv .u64 (fun p=>jr (D p) (K p))) i=(Fx.rv .u64 K) i
 ·refine Rp (.bool true) (fun v1=>Fx.wS (n:=6) (ks:=List.replicate 6 (some .u64)) (X:=Fx.rv .u64 (fun p=>jr (D p) (K p))) (Y:=Fx.rv .u64 K) 12 true rfl rfl rfl (Fx.Bp c10) (hD.mx hK).kd hK.kd rfl (by kernel_rfl) (by kernel_rfl) (by kernel_rfl) (by kernel_rfl) (by kernel_rfl)) (Rp (.bool true) (fun v1=>aj rfl rfl) (Fx.R.nil (sN (Wr (⟨.bool true,rV Tryd.results69 (by exact rfl),?_⟩)))))
  exact⟨congrArg (fun q=>Ending.returned (Value.bool q)) (Eq.symm (zK.2 c10)),b5⟩
 refine Rp (.bool false) (fun v1=>Fx.wS (n:=6) (ks:=List.replicate 6 (some .u64)) (X:=Fx.rv .u64 (fun p=>jr (D p) (K p))) (Y:=Fx.rv .u64 K) 12 false rfl rfl rfl (Fx.nob c10) (hD.mx hK).kd hK.kd rfl (by kernel_rfl) (by kernel_rfl) (by kernel_rfl) (by kernel_rfl) (by kernel_rfl)) (Rp (.bool false) (fun v1=>aj rfl rfl) (Fx.R.nil (sN (Wr (⟨.bool false,rV Tryd.results69 (by exact rfl),?_⟩)))))
 exact⟨congrArg (fun q=>Ending.returned (Value.bool q)) (Eq.symm (Bool.eq_false_iff.2 (fun h=>c10 (zK.1 h)))),b5⟩
theorem Rt.CU{K:Nat->Int}{v:EvM}(h:bZ v=true):vg K v=hasB K v.o v.seq:=by
 have h1:=ig h; have h2:=(wu h).1
 unfold vg hasB; rw[h,h1,show decide (0<v.seq)=true from decide_eq_true (by omega)]; rfl
theorem Ky(K:Nat->Int)(v:EvM)(w:World)(hv:iI v) :
 Calls Tryd.prog 45 #[.agg (Fx.ay 6 (Fx.rv .u64 K)),.agg (Fx.ay 14 (aW v))] w fun e w'=>e = .returned (.bool (vg K v))/\Below w.heap.size w w':=by
 refine Fx.enter Tryd.func45 rfl (n:=15) rfl (by rfl) ?_
 refine Ws (Wl (Fx.L.box (m:=6) (y:=Fx.rv .u64 K) (by rfl) rfl rfl (Fx.aN _ _) rfl fun g1 w1 aZ m1 s1 z1 => ?_))
 have b1:=s1.below (Below.refl w.heap.size w) (Below.refl w.heap.size w).size (Below.refl w.heap.size w).size
 have kM:w.heap.size<=g1:=by rw[aZ]; exact(Below.refl w.heap.size w).size
 have mO:g1<w1.heap.size:=m1.lt
 clear aZ
 refine Fx.L.box (m:=14) (y:=aW v) (by rfl) rfl rfl (Fx.aN _ _) rfl fun g2 w2 bS m2 s2 z2 => ?_
 have m3:=m1.aC s2 m1.ne
 have b2:=s2.below b1 b1.size b1.size
 have su:w.heap.size<=g2:=by rw[bS]; exact b1.size
 have xg:g1≠g2:=by rw[bS]; exact Nat.ne_of_lt (m1.lt)
 have vK:g2<w2.heap.size:=m2.lt
 clear bS
 refine Lv (.bool false) (aj rfl rfl) (Ln (sN (Ws (Wl (Lv (.agg (Fx.ay 14 (aW v))) (aK (x:=aW v) (y:=aW v) rfl rfl (by kernel_rfl) (by kernel_rfl) m2.aL (i:=0) (by omega) (by omega) (fun j _=>by rw[Nat.zero_add])) ?_)))))
 by_cases c6:(bZ v)=true
 ·refine Fx.L.call (by rfl) (rC (args := [.agg (Fx.ay 14 (aW v))]) rfl rfl Tryd.func44 rfl rfl) rfl ((zI v _ hv).mono ?_)
  rintro e w3 ⟨he,hb1⟩
  refine⟨.bool true,by rw[he,c6],?_⟩
  clear he
  have s3:=Sb hb1
  have m4:=m3.aC s3 m3.ne
  have m5:=m2.aC s3 m2.ne
  have b3:=s3.below b2 b2.size b2.size
  refine Lv (.bool true) (ah rfl rfl) (Lv (.agg (Fx.ay 6 (Fx.rv .u64 K))) (aK (x:=Fx.rv .u64 K) (y:=Fx.rv .u64 K) rfl rfl (by kernel_rfl) (by kernel_rfl) m4.aL (i:=0) (by omega) (by omega) (fun j _=>by rw[Nat.zero_add])) (Lv ((pt g2)) (au rfl rfl Tryd.underlying28 rfl (s:=1) (by kernel_rfl) rfl rfl) (Lv (.int .i64 (v.o)) (ak (x:=aW v) rfl rfl (by kernel_rfl) m5.aL (i:=0) (by omega) (by omega) rfl) (Lv ((pf g2 1)) (au rfl rfl Tryd.underlying28 rfl (s:=1) (by kernel_rfl) rfl (by show _+1=_; omega)) (Lv (.int .u64 (v.seq)) (ak (x:=aW v) rfl rfl (by kernel_rfl) m5.aL (i:=1) (by omega) (by omega) rfl) ?_)))))
  by_cases c13:(hasB K v.o v.seq)=true
  ·refine Fx.L.call (by rfl) (rC (args := [.agg (Fx.ay 6 (Fx.rv .u64 K)),.int .i64 (v.o),.int .u64 (v.seq)]) rfl rfl Tryd.func68 rfl rfl) rfl ((Pf K v.o v.seq _).mono ?_)
   rintro e w4 ⟨he,hb2⟩
   refine⟨.bool true,by rw[he,c13],?_⟩
   clear he
   have s4:=Sb hb2
   have b4:=s4.below b3 b3.size b3.size
   refine Lv (.bool true) (aA rfl rfl rfl) (Lv (.bool true) (aj rfl rfl) (Ln (sN (Wr (⟨.bool true,rV Tryd.results45 (by exact rfl),?_⟩)))))
   exact⟨congrArg (fun q=>Ending.returned (Value.bool q)) (Eq.symm ((CU c6).trans c13)),b4⟩
  rw[Bool.not_eq_true]at c13
  refine Fx.L.call (by rfl) (rC (args := [.agg (Fx.ay 6 (Fx.rv .u64 K)),.int .i64 (v.o),.int .u64 (v.seq)]) rfl rfl Tryd.func68 rfl rfl) rfl ((Pf K v.o v.seq _).mono ?_)
  rintro e w5 ⟨he,hb3⟩
  refine⟨.bool false,by rw[he,c13],?_⟩
  clear he
  have s5:=Sb hb3
  have b5:=s5.below b3 b3.size b3.size
  refine Lv (.bool false) (aA rfl rfl rfl) (Lv (.bool false) (aj rfl rfl) (Ln (sN (Wr (⟨.bool false,rV Tryd.results45 (by exact rfl),?_⟩)))))
  exact⟨congrArg (fun q=>Ending.returned (Value.bool q)) (Eq.symm ((CU c6).trans c13)),b5⟩
 rw[Bool.not_eq_true]at c6
 refine Fx.L.call (by rfl) (rC (args := [.agg (Fx.ay 14 (aW v))]) rfl rfl Tryd.func44 rfl rfl) rfl ((zI v _ hv).mono ?_)
 rintro e w6 ⟨he,hb4⟩
 refine⟨.bool false,by rw[he,c6],?_⟩
 clear he
 have s6:=Sb hb4
 have b6:=s6.below b2 b2.size b2.size
 refine Lv (.bool false) (ah rfl rfl) (Lk (by rfl) rfl (Lk (by rfl) rfl (Lk (by rfl) rfl (Lk (by rfl) rfl (Lk (by rfl) rfl (Lk (by rfl) rfl (Lv (.bool false) (aJ rfl rfl rfl) (Lv (.bool false) (aj rfl rfl) (Ln (sN (Wr (⟨.bool false,rV Tryd.results45 (by exact rfl),?_⟩))))))))))))
 exact⟨congrArg (fun q=>Ending.returned (Value.bool q)) (Eq.symm (by unfold vg; rw[c6]; rfl)),b6⟩
theorem FU(K:Nat->Int)(v:EvM)(w:World)(hv:iI v)(hK:Kr K) :
 Calls Tryd.prog 46 #[.agg (Fx.ay 6 (Fx.rv .u64 K)),.agg (Fx.ay 14 (aW v))] w fun e w'=>e = .returned (.bool (fV K v))/\Below w.heap.size w w':=by
 refine Fx.enter Tryd.func46 rfl (n:=24) rfl (by rfl) ?_
 refine Ws (Wl (Fx.L.box (m:=6) (y:=Fx.rv .u64 K) (by rfl) rfl rfl (Fx.aN _ _) rfl fun g1 w1 aZ m1 s1 z1 => ?_))
 have b1:=s1.below (Below.refl w.heap.size w) (Below.refl w.heap.size w).size (Below.refl w.heap.size w).size
 have kM:w.heap.size<=g1:=by rw[aZ]; exact(Below.refl w.heap.size w).size
 have mO:g1<w1.heap.size:=m1.lt
 clear aZ
 refine Fx.L.box (m:=14) (y:=aW v) (by rfl) rfl rfl (Fx.aN _ _) rfl fun g2 w2 bS m2 s2 z2 => ?_
 have m3:=m1.aC s2 m1.ne
 have b2:=s2.below b1 b1.size b1.size
 have su:w.heap.size<=g2:=by rw[bS]; exact b1.size
 have xg:g1≠g2:=by rw[bS]; exact Nat.ne_of_lt (m1.lt)
 have vK:g2<w2.heap.size:=m2.lt
 clear bS
 refine Lv (.bool false) (aj rfl rfl) (Ln (sN (Ws ?_)))
 -- region 1 draws
 refine Fx.W.quiet (fun v1=>Below w2.heap.size w2 v1) (by kernel_rfl) (by kernel_rfl) (Below.refl _ _).drew ?_
 refine Qv (.agg (Fx.ay 14 (aW v))) (fun v1 hv1=>aK (x:=aW v) (y:=aW v) rfl rfl (by kernel_rfl) (by kernel_rfl) (m2.aL.below hv1 (by have:=m2.lt; omega)) (i:=0) (by omega) (by omega) (fun j _=>by rw[Nat.zero_add])) ?_
 by_cases c6:(bZ v)=true
 ·obtain⟨a,ha,ea⟩:=eF (ig c6)
  have hs1:=wu c6
  refine Fx.Qt.call (v := .bool true) (by rfl) (fun v1 hv1=>rC (args := [.agg (Fx.ay 14 (aW v))]) rfl rfl Tryd.func44 rfl rfl) rfl (fun v1 hv1=>(zI v _ hv).mono fun e v2 h=>⟨by rw[h.1,c6],yS hv1 h.2⟩) ?_
  refine Qv (.bool true) (fun v1 hv1=>ah rfl rfl) (Qv ((pt g2)) (fun v1 hv1=>au rfl rfl Tryd.underlying28 rfl (s:=1) (by kernel_rfl) rfl rfl) (Qv (.int .i64 (v.o)) (fun v1 hv1=>ak (x:=aW v) rfl rfl (by kernel_rfl) (m2.aL.below hv1 (by have:=m2.lt; omega)) (i:=0) (by omega) (by omega) rfl) (Qv (.int .i64 ((a:Int))) (fun v1 hv1=>Fx.bD rfl rfl rfl Fx.io) (Qv ((pf g1 a)) (fun v1 hv1=>bF rfl rfl rfl Tryd.underlying26 (s:=1) (by kernel_rfl) (by omega) (by omega) (by omega)) (Qv (.int .u64 (K a)) (fun v1 hv1=>ak (x:=Fx.rv .u64 K) rfl rfl (by kernel_rfl) (m3.aL.below hv1 (by have:=m3.lt; omega)) (i:=a) (by omega) (by omega) rfl) (Qv ((pf g2 1)) (fun v1 hv1=>au rfl rfl Tryd.underlying28 rfl (s:=1) (by kernel_rfl) rfl (by show _+1=_; omega)) (Qv (.int .u64 (v.seq)) (fun v1 hv1=>ak (x:=aW v) rfl rfl (by kernel_rfl) (m2.aL.below hv1 (by have:=m2.lt; omega)) (i:=1) (by omega) (by omega) rfl) (Qv (.int .u64 (v.seq-1)) (fun v1 hv1=>Fx.bD rfl rfl rfl (Fx.rX (by omega) (by omega))) ?_))))))))
  by_cases c16:(K a)=(v.seq-1)
  ·refine Qv (.bool true) (fun v1 hv1=>bG rfl rfl rfl c16) (Qv (.bool true) (fun v1 hv1=>aA rfl rfl rfl) (Qv (.bool true) (fun v1 hv1=>ah rfl rfl) (Qv ((pf g2 2)) (fun v1 hv1=>au rfl rfl Tryd.underlying28 rfl (s:=6) (by kernel_rfl) rfl (by show _+2=_; omega)) (Qv (.agg (Fx.ay 6 (Fx.rv .u64 v.deps))) (fun v1 hv1=>aK (x:=aW v) (y:=Fx.rv .u64 v.deps) rfl rfl (by kernel_rfl) (by kernel_rfl) (m2.aL.below hv1 (by have:=m2.lt; omega)) (i:=2) (by omega) (by omega) (fun j hj=>mV _ (by omega) hj)) (Qv (.agg (Fx.ay 6 (Fx.rv .u64 K))) (fun v1 hv1=>aK (x:=Fx.rv .u64 K) (y:=Fx.rv .u64 K) rfl rfl (by kernel_rfl) (by kernel_rfl) (m3.aL.below hv1 (by have:=m3.lt; omega)) (i:=0) (by omega) (by omega) (fun j _=>by rw[Nat.zero_add])) ?_)))))
   by_cases CK:(zo v.deps K)=true
   ·refine Fx.Qt.call (v := .bool true) (by rfl) (fun v1 hv1=>rC (args := [.agg (Fx.ay 6 (Fx.rv .u64 v.deps)),.agg (Fx.ay 6 (Fx.rv .u64 K))]) rfl rfl Tryd.func69 rfl rfl) rfl (fun v1 hv1=>(Kw v.deps K _ hv.deps hK).mono fun e v2 h=>⟨by rw[h.1,CK],yS hv1 h.2⟩) ?_
    refine Qv (.bool true) (fun v1 hv1=>aA rfl rfl rfl) (Qv (.bool true) (fun v1 hv1=>aj rfl rfl) (Fx.Qt.nil ?_))
    intro sG iN
    have s3:Fx.Stp w2.heap.size w2 sG:=Sb iN
    have b3:=s3.below b2 b2.size b2.size
    refine sN (Wr (⟨.bool true,rV Tryd.results46 (by exact rfl),?_⟩))
    have m2:decide (v.seq=K (v.o-1).toNat+1)=true:=decide_eq_true (by rw[show(v.o-1).toNat=a by omega]; omega)
    exact⟨congrArg (fun q=>Ending.returned (Value.bool q)) (Eq.symm (by unfold fV; rw[c6,m2,CK]; try rfl)),b3⟩
   rw[Bool.not_eq_true]at CK
   refine Fx.Qt.call (v := .bool false) (by rfl) (fun v1 hv1=>rC (args := [.agg (Fx.ay 6 (Fx.rv .u64 v.deps)),.agg (Fx.ay 6 (Fx.rv .u64 K))]) rfl rfl Tryd.func69 rfl rfl) rfl (fun v1 hv1=>(Kw v.deps K _ hv.deps hK).mono fun e v2 h=>⟨by rw[h.1,CK],yS hv1 h.2⟩) ?_
   refine Qv (.bool false) (fun v1 hv1=>aA rfl rfl rfl) (Qv (.bool false) (fun v1 hv1=>aj rfl rfl) (Fx.Qt.nil ?_))
   intro yI ji
   have s4:Fx.Stp w2.heap.size w2 yI:=Sb ji
   have b4:=s4.below b2 b2.size b2.size
   refine sN (Wr (⟨.bool false,rV Tryd.results46 (by exact rfl),?_⟩))
   have m2:decide (v.seq=K (v.o-1).toNat+1)=true:=decide_eq_true (by rw[show(v.o-1).toNat=a by omega]; omega)
   exact⟨congrArg (fun q=>Ending.returned (Value.bool q)) (Eq.symm (by unfold fV; rw[c6,m2,CK]; try rfl)),b4⟩
  refine Qv (.bool false) (fun v1 hv1=>dn rfl rfl rfl c16) (Qv (.bool false) (fun v1 hv1=>aA rfl rfl rfl) (Qv (.bool false) (fun v1 hv1=>ah rfl rfl) (Qs (by rfl) rfl (Qs (by rfl) rfl (Qs (by rfl) rfl (Qs (by rfl) rfl (Qv (.bool false) (fun v1 hv1=>aJ rfl rfl rfl) (Qv (.bool false) (fun v1 hv1=>aj rfl rfl) (Fx.Qt.nil ?_)))))))))
  intro yJ jV
  have s5:Fx.Stp w2.heap.size w2 yJ:=Sb jV
  have b5:=s5.below b2 b2.size b2.size
  refine sN (Wr (⟨.bool false,rV Tryd.results46 (by exact rfl),?_⟩))
  have m2:decide (v.seq=K (v.o-1).toNat+1)=false:=decide_eq_false (by rw[show(v.o-1).toNat=a by omega]; omega)
  exact⟨congrArg (fun q=>Ending.returned (Value.bool q)) (Eq.symm (by unfold fV; rw[c6,m2]; try rfl)),b5⟩
 rw[Bool.not_eq_true]at c6
 refine Fx.Qt.call (v := .bool false) (by rfl) (fun v1 hv1=>rC (args := [.agg (Fx.ay 14 (aW v))]) rfl rfl Tryd.func44 rfl rfl) rfl (fun v1 hv1=>(zI v _ hv).mono fun e v2 h=>⟨by rw[h.1,c6],yS hv1 h.2⟩) ?_
 refine Qv (.bool false) (fun v1 hv1=>ah rfl rfl) (Qs (by rfl) rfl (Qs (by rfl) rfl (Qs (by rfl) rfl (Qs (by rfl) rfl (Qs (by rfl) rfl (Qs (by rfl) rfl (Qs (by rfl) rfl (Qs (by rfl) rfl (Qs (by rfl) rfl (Qv (.bool false) (fun v1 hv1=>aJ rfl rfl rfl) (Qv (.bool false) (fun v1 hv1=>ah rfl rfl) (Qs (by rfl) rfl (Qs (by rfl) rfl (Qs (by rfl) rfl (Qs (by rfl) rfl (Qv (.bool false) (fun v1 hv1=>aJ rfl rfl rfl) (Qv (.bool false) (fun v1 hv1=>aj rfl rfl) (Fx.Qt.nil ?_))))))))))))))))))
 intro D8 sH
 have s6:Fx.Stp w2.heap.size w2 D8:=Sb sH
 have b6:=s6.below b2 b2.size b2.size
 refine sN (Wr (⟨.bool false,rV Tryd.results46 (by exact rfl),?_⟩))
 exact⟨congrArg (fun q=>Ending.returned (Value.bool q)) (Eq.symm (by unfold fV; rw[c6]; try rfl)),b6⟩
set_option maxRecDepth 20000
namespace Rt
def jv(m:dD)(v:EvM):Int:=if m.T.has v.node=false then 9 else if 140737488355328<m.R (m.idx v.node) (bC v)+v.bL then 6 else 0
def vU(m:dD)(k:Int)(r:Nat->Int):dD := { m with R:=Fx.aH m.R (m.idx k) r }
def rE(m:dD)(v:EvM):dD:=vU m v.node (upd (m.R (m.idx v.node)) (bC v) (m.R (m.idx v.node) (bC v)+v.bL))
def nY(m:dD)(v:EvM):(Nat->Int) × Int:=fA (m.R (m.idx v.node)) v.o v.dst v.bL
def jN(m:dD)(v:EvM):Int:=if m.T.has v.node=false then 9 else if m.inn (v.dst-1).toNat=false then 10 else(nY m v).2
def CV(m:dD)(v:EvM):dD:=vU m v.node (nY m v).1
def CW(m:dD)(v:EvM):dD := { m with inn:=aY m.inn (v.dst-1).toNat true }
def xS(m:dD)(v:EvM):dD := { m with left:=aY m.left (bC v) true }
theorem wI{R:Nat->Nat->Int}{j:Nat}{r:Nat->Int} : ∀ n x w b,Fx.Mp w b n x (Fx.aH (nX R) j (.agg (Fx.ay 54 (Fx.rv .i64 r))))->Fx.Mp w b n x (nX (Fx.aH R j r)):=fun n x w b h=>h.mM fun i _=>⟨rfl,by unfold nX Fx.aH; split <;> rfl⟩
end Rt
theorem yN:Fx.nL Tryd.prog 102:=⟨by kernel_rfl,by kernel_rfl,by kernel_rfl⟩
theorem Kz(m:dD)(lp B:Nat)(w:World)(h:iT w B lp m)(v:EvM)(hv:bZ v=true)(b:Nat)(hb:b<6)(hd:v.dst=(b:Int)+1)(gl:Nat)(ge:Nat)(hl:Fx.aP w gl 1 (fun _=>(pt lp)) 44)(he:Fx.aP w ge 14 (aW v) 28) :
 Calls Tryd.prog 166 #[(pt gl),(pt ge)] w fun e w'=>e = .returned (.tuple #[])/\iT w' B lp (CW m v)/\Fx.jB (xR m lp) w w':=by
 have hC:=h.c
 have hT:=h.t
 have hP:=h.p
 have hR:=h.r
 have hG:=h.g
 have hA:=h.a
 have hN:=h.ne
 have lC:=h.c.lt
 have lT:=h.t.lt
 have lP:=h.p.lt
 have lR:=h.r.lt
 have lG:=h.g.lt
 have lA:=h.a.lt
 have OE:=hl.lt
 have LX:=he.lt
 have hbN:(v.dst-1).toNat=b:=by omega
 refine Fx.enter Tryd.func166 rfl (n:=9) rfl (by rfl) ?_
 -- region 0 draws
 refine Fx.W.bH [1,0,4,5,2,3,6,7] [4,0,4,0,0,0,0,3] Fx.Mk Fx.Mk.refl Fx.Mk.trans (aQ := [(7,0,[0]),(7,2,[2])]) (by kernel_rfl) (by kernel_rfl) (by kernel_rfl) (by kernel_rfl) (by kernel_rfl) fun jc bT fE => ?_
 have s1:Fx.Stp w.heap.size w jc:=Sb bT
 have m1:=hC.aC s1 hC.ne
 have m2:=hT.up s1.old
 have m3:=hP.up s1.old
 have m4:=hR.up s1.old
 have m5:=hG.up s1.old
 have m6:=hA.up s1.old
 have m7:=hl.aC s1 hl.ne
 have m8:=he.aC s1 he.ne
 have b1:=(Fx.jB.refl (xR m lp) w).then s1 (.inr (Fx.jB.refl (xR m lp) w).size)
 refine Rp ((pf ge 10)) (fun v1=>au rfl rfl Tryd.underlying28 rfl (s:=1) (by kernel_rfl) rfl (by show _+10=_; omega)) (Fx.R.s ((pt lp)) (ak (x:=fun _=>(pt lp)) rfl rfl (by kernel_rfl) m7.aL (i:=0) (by omega) (by omega) rfl) ?_)
 refine Rp ((pt lp)) (fun v1=>aO rfl rfl) (Rp ((pt lp)) (fun v1=>au rfl rfl Tryd.underlying93 rfl (s:=6) (by kernel_rfl) rfl rfl) (Fx.R.s (.int .i64 (v.dst)) (ak (x:=aW v) rfl rfl (by kernel_rfl) m8.aL (i:=10) (by omega) (by omega) rfl) ?_))
 refine Rp (.int .i64 ((b:Int))) (fun v1=>Fx.bD rfl rfl rfl Fx.io) (Rp ((pf lp b)) (fun v1=>bF rfl rfl rfl Tryd.underlying47 (s:=1) (by kernel_rfl) (by omega) (by omega) (by omega)) (Fx.R.fP (by rfl) ?_))
 refine Fx.L.bV (x:=fM m) (u := .bool true) (by rfl) rfl rfl rfl rfl (by rfl) (by kernel_rfl) m1 (i:=b) (by omega) fun w1 m9 s2 z1 => ?_
 have m10:Fx.aP w1 lp 29 (fM { m with inn:=aY m.inn b true }) 93:=m9.to (Ki hb _)
 have aT:=Fx.gD.bP s2 m1.ty
 have m11:=m2.aU aT (by decide)
 have m12:=m3.aU aT trivial
 have m13:=m4.aU aT trivial
 have m14:=m5.aU aT trivial
 have m15:=m6.aU aT trivial
 have b2:=b1.then s2 (.inl (.inl rfl))
 refine Ln (Fx.R.nil (⟨.tuple #[],Fx.jS Tryd.results166,?_⟩))
 unfold CW; rw[hbN]
 exact⟨rfl,{ c:=m10,t:=m11,p:=m12,r:=m13,g:=m14,a:=m15,ne:=⟨hN.mp,hN.mr,hN.mg,hN.ma,hN.pr,hN.pg,hN.pa,hN.rg,hN.ra,hN.ga⟩,lB:=h.lB,pB:=h.pB,rB:=h.rB,gB:=h.gB,aB:=h.aB },b2⟩
theorem HZ(m:dD)(lp B:Nat)(w:World)(h:iT w B lp m)(v:EvM)(hv:bZ v=true)(gl:Nat)(ge:Nat)(hl:Fx.aP w gl 1 (fun _=>(pt lp)) 44)(he:Fx.aP w ge 14 (aW v) 28) :
 Calls Tryd.prog 167 #[(pt gl),(pt ge)] w fun e w'=>e = .returned (.tuple #[])/\iT w' B lp (xS m v)/\Fx.jB (xR m lp) w w':=by
 have hC:=h.c
 have hT:=h.t
 have hP:=h.p
 have hR:=h.r
 have hG:=h.g
 have hA:=h.a
 have hN:=h.ne
 have lC:=h.c.lt
 have lT:=h.t.lt
 have lP:=h.p.lt
 have lR:=h.r.lt
 have lG:=h.g.lt
 have lA:=h.a.lt
 have OE:=hl.lt
 have LX:=he.lt
 obtain⟨a,ha,ho⟩ : ∃ a:Nat,a<6/\v.o=(a:Int)+1:=eF (ig hv)
 have hra:bC v=a:=by unfold bC; omega
 refine Fx.enter Tryd.func167 rfl (n:=9) rfl (by rfl) ?_
 -- region 0 draws
 refine Fx.W.bH [1,0,4,5,2,3,6,7] [4,0,4,0,0,0,0,3] Fx.Mk Fx.Mk.refl Fx.Mk.trans (aQ := [(7,0,[0]),(7,2,[2])]) (by kernel_rfl) (by kernel_rfl) (by kernel_rfl) (by kernel_rfl) (by kernel_rfl) fun jc bT fE => ?_
 have s1:Fx.Stp w.heap.size w jc:=Sb bT
 have m1:=hC.aC s1 hC.ne
 have m2:=hT.up s1.old
 have m3:=hP.up s1.old
 have m4:=hR.up s1.old
 have m5:=hG.up s1.old
 have m6:=hA.up s1.old
 have m7:=hl.aC s1 hl.ne
 have m8:=he.aC s1 he.ne
 have b1:=(Fx.jB.refl (xR m lp) w).then s1 (.inr (Fx.jB.refl (xR m lp) w).size)
 refine Rp ((pt ge)) (fun v1=>au rfl rfl Tryd.underlying28 rfl (s:=1) (by kernel_rfl) rfl rfl) (Fx.R.s ((pt lp)) (ak (x:=fun _=>(pt lp)) rfl rfl (by kernel_rfl) m7.aL (i:=0) (by omega) (by omega) rfl) ?_)
 refine Rp ((pt lp)) (fun v1=>aO rfl rfl) (Rp ((pf lp 6)) (fun v1=>au rfl rfl Tryd.underlying93 rfl (s:=6) (by kernel_rfl) rfl (by show _+6=_; omega)) (Fx.R.s (.int .i64 (v.o)) (ak (x:=aW v) rfl rfl (by kernel_rfl) m8.aL (i:=0) (by omega) (by omega) rfl) ?_))
 refine Rp (.int .i64 ((a:Int))) (fun v1=>Fx.bD rfl rfl rfl Fx.io) (Rp ((pf lp (a+6))) (fun v1=>bF rfl rfl rfl Tryd.underlying47 (s:=1) (by kernel_rfl) (by omega) (by omega) (by omega)) (Fx.R.fP (by rfl) ?_))
 refine Fx.L.bV (x:=fM m) (u := .bool true) (by rfl) rfl rfl rfl rfl (by rfl) (by kernel_rfl) m1 (i:=a+6) (by omega) fun w1 m9 s2 z1 => ?_
 have m10:Fx.aP w1 lp 29 (fM { m with left:=aY m.left a true }) 93:=m9.to (Kj (i:=a) ha (by omega) _)
 have aT:=Fx.gD.bP s2 m1.ty
 have m11:=m2.aU aT (by decide)
 have m12:=m3.aU aT trivial
 have m13:=m4.aU aT trivial
 have m14:=m5.aU aT trivial
 have m15:=m6.aU aT trivial
 have b2:=b1.then s2 (.inl (.inl rfl))
 refine Ln (Fx.R.nil (⟨.tuple #[],Fx.jS Tryd.results167,?_⟩))
 unfold xS; rw[hra]
 exact⟨rfl,{ c:=m10,t:=m11,p:=m12,r:=m13,g:=m14,a:=m15,ne:=⟨hN.mp,hN.mr,hN.mg,hN.ma,hN.pr,hN.pg,hN.pa,hN.rg,hN.ra,hN.ga⟩,lB:=h.lB,pB:=h.pB,rB:=h.rB,gB:=h.gB,aB:=h.aB },b2⟩
theorem H6(m:dD)(lp B:Nat)(w:World)(h:iT w B lp m)(v:EvM)(hv:bZ v=true)(hk:m.T.has v.node=true)(r:Nat->Int)(gr:Nat)(gl:Nat)(ge:Nat)(hr:Fx.aP w gr 54 (Fx.rv .i64 (r)) 82)(hl:Fx.aP w gl 1 (fun _=>(pt lp)) 44)(he:Fx.aP w ge 14 (aW v) 28) :
 Calls Tryd.prog 156 #[(pt gr),(pt gl),(pt ge)] w fun e w'=>e = .returned (.tuple #[])/\iT w' B lp (vU m v.node r)/\Fx.jB (xR m lp) w w':=by
 have hC:=h.c
 have hT:=h.t
 have hP:=h.p
 have hR:=h.r
 have hG:=h.g
 have hA:=h.a
 have hN:=h.ne
 have lC:=h.c.lt
 have lT:=h.t.lt
 have lP:=h.p.lt
 have lR:=h.r.lt
 have lG:=h.g.lt
 have lA:=h.a.lt
 have lgr:=hr.lt
 have OE:=hl.lt
 have LX:=he.lt
 obtain⟨jz,hjz,xk⟩:=dW hk
 have CX:m.idx v.node=jz:=iU h.t.inv.inj hjz xk
 refine Fx.enter Tryd.func156 rfl (n:=10) rfl (by rfl) ?_
 -- region 0 draws
 refine Fx.W.bH [4,0,1,2,3,5,6,7] [4,0,0,4,0,4,4,3] Fx.Mk Fx.Mk.refl Fx.Mk.trans (aQ := [(7,0,[0]),(7,3,[3]),(7,5,[5]),(7,6,[6])]) (by kernel_rfl) (by kernel_rfl) (by kernel_rfl) (by kernel_rfl) (by kernel_rfl) fun jc bT fE => ?_
 have s1:Fx.Stp w.heap.size w jc:=Sb bT
 have m1:=hC.aC s1 hC.ne
 have m2:=hT.up s1.old
 have m3:=hP.up s1.old
 have m4:=hR.up s1.old
 have m5:=hG.up s1.old
 have m6:=hA.up s1.old
 have m7:=hr.aC s1 hr.ne
 have m8:=hl.aC s1 hl.ne
 have m9:=he.aC s1 he.ne
 have b1:=(Fx.jB.refl (xR m lp) w).then s1 (.inr (Fx.jB.refl (xR m lp) w).size)
 refine Rp ((pf ge 9)) (fun v1=>au rfl rfl Tryd.underlying28 rfl (s:=1) (by kernel_rfl) rfl (by show _+9=_; omega)) (Fx.R.s ((pt lp)) (ak (x:=fun _=>(pt lp)) rfl rfl (by kernel_rfl) m8.aL (i:=0) (by omega) (by omega) rfl) ?_)
 refine Rp ((pt lp)) (fun v1=>aO rfl rfl) (Rp ((pf lp 20)) (fun v1=>au rfl rfl Tryd.underlying93 rfl (s:=1) (by kernel_rfl) rfl (by show _+20=_; omega)) (Fx.R.s (.map (some m.rb)) (ak (x:=fM m) rfl rfl (by kernel_rfl) m1.aL (i:=20) (by omega) (by omega) rfl) ?_))
 refine Fx.R.s (.int .u64 (v.node)) (ak (x:=aW v) rfl rfl (by kernel_rfl) m9.aL (i:=9) (by omega) (by omega) rfl) ?_
 refine Fx.R.s (.agg (Fx.ay 54 (Fx.rv .i64 (r)))) (aK (x:=Fx.rv .i64 (r)) (y:=Fx.rv .i64 (r)) rfl rfl (by kernel_rfl) (by kernel_rfl) m7.aL (i:=0) (by omega) (by omega) (fun j _=>by rw[Nat.zero_add])) ?_
 refine Fx.R.fP (by rfl) ?_
 refine Fx.L.PW (by rfl) rfl rfl rfl rfl rfl m4 Tryd.underlying88 Tryd.underlying22 hjz xk fun w1 m10 s2 z1 => ?_
 have hcm1:=m4.uX s2
 have m11:=m1.bY hcm1
 have m12:=m2.bY hcm1 (hN.mr)
 have m13:=m3.bY hcm1 (hN.pr)
 have m14:=m5.bY hcm1 ((Ne.symm hN.rg))
 have m15:=m6.bY hcm1 ((Ne.symm hN.ra))
 have m16:=m7.bY hcm1
 have m17:=m8.bY hcm1
 have m18:=m9.bY hcm1
 have b2:=b1.then s2 (.inl (.inr (.inr (.inr (.inl rfl)))))
 have m19:Fx.Mp w1 m.rb m.T.n m.T.x (nX (Fx.aH m.R jz (r))):=wI _ _ _ _ m10
 refine Ln (Fx.R.nil (⟨.tuple #[],Fx.jS Tryd.results156,?_⟩))
 unfold vU; rw[CX]
 exact⟨rfl,{ c:=m11,t:=m12,p:=m13,r:=m19,g:=m14,a:=m15,ne:=⟨hN.mp,hN.mr,hN.mg,hN.ma,hN.pr,hN.pg,hN.pa,hN.rg,hN.ra,hN.ga⟩,lB:=h.lB,pB:=h.pB,rB:=h.rB,gB:=h.gB,aB:=h.aB },b2⟩
theorem KA(m:dD)(lp B:Nat)(w:World)(h:iT w B lp m)(v:EvM)(hv:bZ v=true)(hk:m.T.has v.node=true)(r:Nat->Int)(gr:Nat)(gl:Nat)(ge:Nat)(hr:Fx.aP w gr 54 (Fx.rv .i64 (r)) 82)(hl:Fx.aP w gl 1 (fun _=>(pt lp)) 44)(he:Fx.aP w ge 14 (aW v) 28) :
 Calls Tryd.prog 165 #[(pt gr),(pt gl),(pt ge)] w fun e w'=>e = .returned (.tuple #[])/\iT w' B lp (vU m v.node r)/\Fx.jB (xR m lp) w w':=by
 have hC:=h.c
 have hT:=h.t
 have hP:=h.p
 have hR:=h.r
 have hG:=h.g
 have hA:=h.a
 have hN:=h.ne
 have lC:=h.c.lt
 have lT:=h.t.lt
 have lP:=h.p.lt
 have lR:=h.r.lt
 have lG:=h.g.lt
 have lA:=h.a.lt
 have lgr:=hr.lt
 have OE:=hl.lt
 have LX:=he.lt
 obtain⟨jz,hjz,xk⟩:=dW hk
 have CX:m.idx v.node=jz:=iU h.t.inv.inj hjz xk
 refine Fx.enter Tryd.func165 rfl (n:=10) rfl (by rfl) ?_
 -- region 0 draws
 refine Fx.W.bH [4,0,1,2,3,5,6,7] [4,0,0,4,0,4,4,3] Fx.Mk Fx.Mk.refl Fx.Mk.trans (aQ := [(7,0,[0]),(7,3,[3]),(7,5,[5]),(7,6,[6])]) (by kernel_rfl) (by kernel_rfl) (by kernel_rfl) (by kernel_rfl) (by kernel_rfl) fun jc bT fE => ?_
 have s1:Fx.Stp w.heap.size w jc:=Sb bT
 have m1:=hC.aC s1 hC.ne
 have m2:=hT.up s1.old
 have m3:=hP.up s1.old
 have m4:=hR.up s1.old
 have m5:=hG.up s1.old
 have m6:=hA.up s1.old
 have m7:=hr.aC s1 hr.ne
 have m8:=hl.aC s1 hl.ne
 have m9:=he.aC s1 he.ne
 have b1:=(Fx.jB.refl (xR m lp) w).then s1 (.inr (Fx.jB.refl (xR m lp) w).size)
 refine Rp ((pf ge 9)) (fun v1=>au rfl rfl Tryd.underlying28 rfl (s:=1) (by kernel_rfl) rfl (by show _+9=_; omega)) (Fx.R.s ((pt lp)) (ak (x:=fun _=>(pt lp)) rfl rfl (by kernel_rfl) m8.aL (i:=0) (by omega) (by omega) rfl) ?_)
 refine Rp ((pt lp)) (fun v1=>aO rfl rfl) (Rp ((pf lp 20)) (fun v1=>au rfl rfl Tryd.underlying93 rfl (s:=1) (by kernel_rfl) rfl (by show _+20=_; omega)) (Fx.R.s (.map (some m.rb)) (ak (x:=fM m) rfl rfl (by kernel_rfl) m1.aL (i:=20) (by omega) (by omega) rfl) ?_))
 refine Fx.R.s (.int .u64 (v.node)) (ak (x:=aW v) rfl rfl (by kernel_rfl) m9.aL (i:=9) (by omega) (by omega) rfl) ?_
 refine Fx.R.s (.agg (Fx.ay 54 (Fx.rv .i64 (r)))) (aK (x:=Fx.rv .i64 (r)) (y:=Fx.rv .i64 (r)) rfl rfl (by kernel_rfl) (by kernel_rfl) m7.aL (i:=0) (by omega) (by omega) (fun j _=>by rw[Nat.zero_add])) ?_
 refine Fx.R.fP (by rfl) ?_
 refine Fx.L.PW (by rfl) rfl rfl rfl rfl rfl m4 Tryd.underlying88 Tryd.underlying22 hjz xk fun w1 m10 s2 z1 => ?_
 have hcm1:=m4.uX s2
 have m11:=m1.bY hcm1
 have m12:=m2.bY hcm1 (hN.mr)
 have m13:=m3.bY hcm1 (hN.pr)
 have m14:=m5.bY hcm1 ((Ne.symm hN.rg))
 have m15:=m6.bY hcm1 ((Ne.symm hN.ra))
 have m16:=m7.bY hcm1
 have m17:=m8.bY hcm1
 have m18:=m9.bY hcm1
 have b2:=b1.then s2 (.inl (.inr (.inr (.inr (.inl rfl)))))
 have m19:Fx.Mp w1 m.rb m.T.n m.T.x (nX (Fx.aH m.R jz (r))):=wI _ _ _ _ m10
 refine Ln (Fx.R.nil (⟨.tuple #[],Fx.jS Tryd.results165,?_⟩))
 unfold vU; rw[CX]
 exact⟨rfl,{ c:=m11,t:=m12,p:=m13,r:=m19,g:=m14,a:=m15,ne:=⟨hN.mp,hN.mr,hN.mg,hN.ma,hN.pr,hN.pg,hN.pa,hN.rg,hN.ra,hN.ga⟩,lB:=h.lB,pB:=h.pB,rB:=h.rB,gB:=h.gB,aB:=h.aB },b2⟩
set_option maxRecDepth 20000
namespace Rt
theorem FV{v:EvM}(h:bZ v=true)(hk:v.kind=5) : ∃ b:Nat,b<6/\v.dst=(b:Int)+1:=by
 unfold bZ at h
 simp only[Bool.and_eq_true]at h
 have hf:=h.2
 unfold iQ at hf
 rw[if_neg (by omega),if_neg (by omega),if_neg (by omega),if_neg (by omega),if_pos hk]at hf
 unfold xH at hf
 simp only[Bool.and_eq_true]at hf
 exact eF hf.2.1
end Rt
theorem RN(x:Nat->Int)(i j n:Int)(w:World)(hi:1<=i/\i<=6)(hj:1<=j/\j<=6) :
 Calls Tryd.prog 164 #[.agg (Fx.ay 54 (Fx.rv .i64 x)),.int .i64 i,.int .i64 j,.int .i64 n] w fun e w'=>e = .returned (.tuple #[.agg (Fx.ay 54 (Fx.rv .i64 (fA x i j n).1)),.int .i64 (fA x i j n).2])/\Below w.heap.size w w' :=
 JU x i j n w (by omega) (by omega)
theorem RO(x:Nat->Int)(i n:Int)(w:World)(hi:1<=i/\i<=6) :
 Calls Tryd.prog 159 #[.agg (Fx.ay 54 (Fx.rv .i64 x)),.int .i64 i,.int .i64 n] w fun e w'=>e = .returned (.tuple #[.agg (Fx.ay 54 (Fx.rv .i64 (bf x i n).1)),.int .i64 (bf x i n).2])/\Below w.heap.size w w' :=
 JN x i n w (by omega)
theorem RP(x:Nat->Int)(i n:Int)(w:World)(hi:1<=i/\i<=6) :
 Calls Tryd.prog 162 #[.agg (Fx.ay 54 (Fx.rv .i64 x)),.int .i64 i,.int .i64 n] w fun e w'=>e = .returned (.tuple #[.agg (Fx.ay 54 (Fx.rv .i64 (bA x i n).1)),.int .i64 (bA x i n).2])/\Below w.heap.size w w' :=
 JR x i n w (by omega)
theorem KC(m:dD)(lp B:Nat)(w:World)(h:iT w B lp m)(v:EvM)(hv:bZ v=true)(hkd:v.kind=2)(hRb : ∀ i,i<m.T.n -> ∀ p,p<54->0<=m.R i p/\m.R i p<=1125899906842624) :
 Calls Tryd.prog 146 #[(pt lp),.agg (Fx.ay 14 (aW v))] w fun e w'=>Iz w B lp m (rE m v) (jv m v) e w':=by
 have hC:=h.c
 have hT:=h.t
 have hP:=h.p
 have hR:=h.r
 have hG:=h.g
 have hA:=h.a
 have hN:=h.ne
 have lC:=h.c.lt
 have lT:=h.t.lt
 have lP:=h.p.lt
 have lR:=h.r.lt
 have lG:=h.g.lt
 have lA:=h.a.lt
 obtain⟨a,ha,ho⟩ : ∃ a:Nat,a<6/\v.o=(a:Int)+1:=eF (ig hv)
 have hra:bC v=a:=by unfold bC; omega
 refine Fx.enter Tryd.func146 rfl (n:=39) rfl (by rfl) ?_
 refine Ws (Wl (Fx.L.box (m:=1) (y:=fun _=>(pt lp)) (by rfl) rfl rfl (Fx.cells_one (by rfl)) rfl fun g1 w1 aZ m1 s1 z1 => ?_))
 have m2:=hC.aC s1 hC.ne
 have m4:=hP.up s1.old
 have m5:=hR.up s1.old
 have m6:=hG.up s1.old
 have m7:=hA.up s1.old
 have b1:=s1.below (Below.refl w.heap.size w) (Below.refl w.heap.size w).size (Below.refl w.heap.size w).size
 have kM:w.heap.size<=g1:=by rw[aZ]; exact(Below.refl w.heap.size w).size
 have jk:lp≠g1:=by rw[aZ]; exact Nat.ne_of_lt (hC.lt)
 have nk:m.pb≠g1:=by rw[aZ]; exact Nat.ne_of_lt (hP.lt)
 have oC:m.rb≠g1:=by rw[aZ]; exact Nat.ne_of_lt (hR.lt)
 have oD:m.gb≠g1:=by rw[aZ]; exact Nat.ne_of_lt (hG.lt)
 have oF:m.ab≠g1:=by rw[aZ]; exact Nat.ne_of_lt (hA.lt)
 have mO:g1<w1.heap.size:=m1.lt
 clear aZ
 refine Fx.L.box (m:=14) (y:=aW v) (by rfl) rfl rfl (Fx.aN _ _) rfl fun g2 w2 bS m8 s2 z2 => ?_
 have m9:=m2.aC s2 m2.ne
 have m11:=m4.up s2.old
 have m12:=m5.up s2.old
 have m13:=m6.up s2.old
 have m14:=m7.up s2.old
 have m15:=m1.aC s2 m1.ne
 have b2:=s2.below b1 b1.size b1.size
 have su:w.heap.size<=g2:=by rw[bS]; exact b1.size
 have CY:lp≠g2:=by rw[bS]; exact Nat.ne_of_lt (m2.lt)
 have uI:m.pb≠g2:=by rw[bS]; exact Nat.ne_of_lt (m4.lt)
 have uJ:m.rb≠g2:=by rw[bS]; exact Nat.ne_of_lt (m5.lt)
 have rF:m.gb≠g2:=by rw[bS]; exact Nat.ne_of_lt (m6.lt)
 have rG:m.ab≠g2:=by rw[bS]; exact Nat.ne_of_lt (m7.lt)
 have pz:g1≠g2:=by rw[bS]; exact Nat.ne_of_lt (m1.lt)
 have vK:g2<w2.heap.size:=m8.lt
 clear bS
 refine Lv (.nilFunc) (aj rfl rfl) (Lv (.int .i64 (0)) (aj rfl rfl) (Ln (sN (Ws ?_))))
 -- region 1 draws
 refine Fx.W.bH [4,0,1,2,3,5,6,7,8,9,10,11,12] [1,0,0,1,0,1,1,0,0,0,2,3,0] Fx.Mk Fx.Mk.refl Fx.Mk.trans (aQ := [(11,0,[0]),(11,3,[3]),(11,5,[5]),(11,6,[6]),(11,10,[10]),(12,10,[10]),(12,11,[11])]) (by kernel_rfl) (by kernel_rfl) (by kernel_rfl) (by kernel_rfl) (by kernel_rfl) fun jc bT fE => ?_
 have s3:Fx.Stp w2.heap.size w2 jc:=Sb bT
 have m16:=m9.aC s3 m9.ne
 have m18:=m11.up s3.old
 have m19:=m12.up s3.old
 have m20:=m13.up s3.old
 have m21:=m14.up s3.old
 have m22:=m15.aC s3 m15.ne
 have m23:=m8.aC s3 m8.ne
 have b3:=s3.below b2 b2.size b2.size
 refine Rp ((pf g2 9)) (fun v1=>au rfl rfl Tryd.underlying28 rfl (s:=1) (by kernel_rfl) rfl (by show _+9=_; omega)) (Fx.R.read (v:=(pt lp)) (by rfl) (by rfl) (Fx.Mk.refl _) (fun v1 hv1=>ak (x:=fun _=>(pt lp)) rfl rfl (by kernel_rfl) (m22.aL.below hv1 (by have:=m22.lt; omega)) (i:=0) (by omega) (by omega) rfl) ?_)
 refine Rp ((pt lp)) (fun v1=>aO rfl rfl) (Rp ((pf lp 20)) (fun v1=>au rfl rfl Tryd.underlying93 rfl (s:=1) (by kernel_rfl) rfl (by show _+20=_; omega)) (Fx.R.read (v := .map (some m.rb)) (by rfl) (by rfl) (Fx.Mk.refl _) (fun v1 hv1=>ak (x:=fM m) rfl rfl (by kernel_rfl) (m16.aL.below hv1 (by have:=m16.lt; omega)) (i:=20) (by omega) (by omega) rfl) ?_))
 refine Fx.R.read (v := .int .u64 (v.node)) (by rfl) (by rfl) (Fx.Mk.refl _) (fun v1 hv1=>ak (x:=aW v) rfl rfl (by kernel_rfl) (m23.aL.below hv1 (by have:=m23.lt; omega)) (i:=9) (by omega) (by omega) rfl) ?_
 rcases Fx.kV m.T.x m.T.n v.node with ⟨dh,gY,iA⟩|fJ
 ·refine Fx.R.read (v := .tuple #[.agg (Fx.ay 54 (Fx.rv .i64 (m.R dh))),.bool true]) (by rfl) (by rfl) (Fx.Mk.refl _) (fun v1 hv1=>Fx.wY (z := .agg (Fx.ay 54 (Fx.rv .i64 (fun _=>0)))) rfl rfl rfl (m19.up hv1) Tryd.underlying88 Tryd.underlying22 (by kernel_rfl) gY iA rfl) ?_
  refine Rp (.tuple #[.agg (Fx.ay 54 (Fx.rv .i64 (m.R dh))),.bool true]) (fun v1=>ah rfl rfl) (Rp (.agg (Fx.ay 54 (Fx.rv .i64 (m.R dh)))) (fun v1=>Fx.aD rfl rfl rfl) (Rp (.bool true) (fun v1=>Fx.aD rfl rfl rfl) (Fx.R.make (by rfl) ?_)))
  refine Fx.L.new (m:=54) (y:=Fx.rv .i64 (fun _=>0)) (by rfl) rfl (by kernel_rfl) rfl fun g3 w3 iq m24 s4 z3 => ?_
  have mH:=m22.aC s4 m22.ne
  have m32:=m23.aC s4 m23.ne
  have b4:=s4.below b3 b3.size b3.size
  have uY:w.heap.size<=g3:=by rw[iq]; exact b3.size
  have EF:lp≠g3:=by rw[iq]; exact Nat.ne_of_lt (m16.lt)
  have EG:m.pb≠g3:=by rw[iq]; exact Nat.ne_of_lt (m18.lt)
  have KD:m.rb≠g3:=by rw[iq]; exact Nat.ne_of_lt (m19.lt)
  have KE:m.gb≠g3:=by rw[iq]; exact Nat.ne_of_lt (m20.lt)
  have KF:m.ab≠g3:=by rw[iq]; exact Nat.ne_of_lt (m21.lt)
  have RQ:g1≠g3:=by rw[iq]; exact Nat.ne_of_lt (m22.lt)
  have RS:g2≠g3:=by rw[iq]; exact Nat.ne_of_lt (m23.lt)
  have LW:g3<w3.heap.size:=m24.lt
  clear iq
  refine Ln ⟨s4.old,?_⟩
  refine Fx.R.fP (by rfl) ?_
  refine Fx.L.dY (x:=Fx.rv .i64 (fun _=>0)) (y:=Fx.rv .i64 (m.R dh)) (by rfl) rfl rfl rfl rfl (fun _ _=>rfl) (by kernel_rfl) m24 (i:=0) (by omega) fun w4 mI s5 z4 => ?_
  have nO:Fx.aP w4 g3 54 (Fx.rv .i64 (m.R dh)) 82:=Fx.dF mI
  have aT:=Fx.gD.bP s5 m24.ty
  have nP:=mH.aU aT (by decide)
  have oH:=m32.aU aT (by decide)
  have b5:=s5.below b4 b4.size (by omega)
  refine Ln (Rp (.bool true) (fun v1=>aj rfl rfl) (Fx.R.nil (sN (Ws (Ws (Wl (Lv (.bool true) (ah rfl rfl) ?_)))))))
  refine Lv (.bool false) (Fx.dZ rfl rfl) (Ln (sN (Wc (b:=false) rfl (fun h=>nomatch h) (fun _=>Wk (sN (Ws (Ws ?_)))))))
  have ex:m.idx v.node=dh:=iU h.t.inv.inj gY iA
  have hk:m.T.has v.node=true:=fQ gY iA
  have q1:=hRb dh gY a (by omega)
  have q2:=rz hv (.inl hkd)
  -- region 4 draws
  refine Fx.W.bH [0,3,6,9,1,2,4,5,7,8,10,11] [0,4,0,0,0,4,0,4,0,0,0,3] Fx.Mk Fx.Mk.refl Fx.Mk.trans (aQ := [(11,1,[1]),(11,5,[5]),(11,7,[7])]) (by kernel_rfl) (by kernel_rfl) (by kernel_rfl) (by kernel_rfl) (by kernel_rfl) fun sI fU mR => ?_
  have s6:Fx.Stp w4.heap.size w4 sI:=Sb fU
  have sK:=nP.aC s6 nP.ne
  have ny:=oH.aC s6 oH.ne
  have qo:=nO.aC s6 nO.ne
  have b6:=s6.below b5 b5.size b5.size
  refine Rp ((pt g2)) (fun v1=>au rfl rfl Tryd.underlying28 rfl (s:=1) (by kernel_rfl) rfl rfl) (Rp ((pt g3)) (fun v1=>au rfl rfl Tryd.underlying82 rfl (s:=6) (by kernel_rfl) rfl rfl) (Rp ((pf g2 11)) (fun v1=>au rfl rfl Tryd.underlying28 rfl (s:=1) (by kernel_rfl) rfl (by show _+11=_; omega)) (Rp ((pt g3)) (fun v1=>au rfl rfl Tryd.underlying82 rfl (s:=6) (by kernel_rfl) rfl rfl) (Fx.R.s (.int .i64 (v.o)) (ak (x:=aW v) rfl rfl (by kernel_rfl) ny.aL (i:=0) (by omega) (by omega) rfl) ?_))))
  refine Rp (.int .i64 ((a:Int))) (fun v1=>Fx.bD rfl rfl rfl Fx.io) (Rp ((pf g3 a)) (fun v1=>bF rfl rfl rfl Tryd.underlying79 (s:=1) (by kernel_rfl) (by omega) (by omega) (by omega)) (Fx.R.s (.int .i64 ((m.R dh) a)) (ak (x:=Fx.rv .i64 (m.R dh)) rfl rfl (by kernel_rfl) qo.aL (i:=a) (by omega) (by omega) rfl) ?_))
  refine Fx.R.s (.int .i64 (v.bL)) (ak (x:=aW v) rfl rfl (by kernel_rfl) ny.aL (i:=11) (by omega) (by omega) rfl) ?_
  refine Rp (.int .i64 (((m.R dh) a)+v.bL)) (fun v1=>Fx.aS rfl rfl rfl Fx.io) (Rp ((pf g3 a)) (fun v1=>bF rfl rfl rfl Tryd.underlying79 (s:=1) (by kernel_rfl) (by omega) (by omega) (by omega)) (Fx.R.fP (by rfl) ?_))
  refine Fx.L.bV (x:=Fx.rv .i64 (m.R dh)) (u := .int .i64 (((m.R dh) a)+v.bL)) (by rfl) rfl rfl rfl rfl (by rfl) (by kernel_rfl) qo (i:=a) (by omega) fun w5 tV s7 z5 => ?_
  have sM:Fx.aP w5 g3 54 (Fx.rv .i64 (upd (m.R dh) a (((m.R dh) a)+v.bL))) 82:=tV.to (Fx.zY _ _ _ _)
  have dL:=Fx.gD.bP s7 qo.ty
  have lM:=sK.aU dL (by decide)
  have qN:=ny.aU dL (by decide)
  have b7:=s7.below b6 b6.size (by omega)
  refine Ln (Fx.R.nil (sN (Ws (Wl (Lv ((pt g2)) (au rfl rfl Tryd.underlying28 rfl (s:=1) (by kernel_rfl) rfl rfl) (Lv (.int .i64 (v.o)) (ak (x:=aW v) rfl rfl (by kernel_rfl) qN.aL (i:=0) (by omega) (by omega) rfl) (Lv (.int .i64 ((a:Int))) (Fx.bD rfl rfl rfl Fx.io) (Lv ((pt g3)) (au rfl rfl Tryd.underlying82 rfl (s:=6) (by kernel_rfl) rfl rfl) (Lv ((pf g3 a)) (bF rfl rfl rfl Tryd.underlying79 (s:=1) (by kernel_rfl) (by omega) (by omega) (by omega)) (Lv (.int .i64 ((upd (m.R dh) a (((m.R dh) a)+v.bL)) a)) (ak (x:=Fx.rv .i64 (upd (m.R dh) a (((m.R dh) a)+v.bL))) rfl rfl (by kernel_rfl) sM.aL (i:=a) (by omega) (by omega) rfl) ?_))))))))))
  by_cases c37:140737488355328<((upd (m.R dh) a (((m.R dh) a)+v.bL)) a)
  ·refine Lv (.bool true) (Fx.iy rfl rfl rfl c37) (Ln (sN (Wc (b:=true) rfl (fun _=>Ws (Wl (Lv (.nilFunc) (aj rfl rfl) ?_))) (fun h=>nomatch h))))
   refine Lv (.int .i64 (6)) (aj rfl rfl) (Ln (sN (Wr (sR (⟨.tuple #[.nilFunc,.int .i64 (6)],Fx.cB Tryd.results146 (by exact rfl) (by exact rfl),?_⟩)))))
   have hEq:jv m v=6:=by unfold jv; rw[if_neg (by rw[hk]; decide)]; exact if_pos (by rw[ex,hra]; simpa [upd] using c37)
   exact⟨⟨.nilFunc,0,#[],by rw[hEq],rfl,fun e0=>absurd (hEq.symm.trans e0) (by first|decide|omega|assumption)⟩,b7⟩
  refine Lv (.bool false) (dw rfl rfl rfl c37) (Ln (sN (Wc (b:=false) rfl (fun h=>nomatch h) (fun _=>Wk (sN (Ws (Wl (Lv (.func (.func 156) #[] #[(pt g3),(pt g1),(pt g2)]) (Fx.jf (us := []) (vs := [(pt g3),(pt g1),(pt g2)]) rfl rfl rfl) (Lv (.func (.func 156) #[] #[(pt g3),(pt g1),(pt g2)]) (aj rfl rfl) (Lv (.int .i64 (0)) (aj rfl rfl) (Ln (sN (Wr (⟨.tuple #[.func (.func 156) #[] #[(pt g3),(pt g1),(pt g2)],.int .i64 (0)],Fx.cB Tryd.results146 (by exact rfl) (by exact rfl),?_⟩))))))))))))))
  have em:rE m v=vU m v.node (upd (m.R dh) a (m.R dh a+v.bL)):=by unfold rE; rw[ex,hra]
  rw[em]
  have hEq:jv m v=0:=by unfold jv; rw[if_neg (by rw[hk]; decide)]; exact if_neg (by rw[ex,hra]; simpa [upd] using c37)
  exact⟨⟨_,156,#[(pt g3),(pt g1),(pt g2)],by rw[hEq],rfl,fun _=>⟨rfl,⟨_,_,Tryd.func156,rfl,rfl⟩,fun w2 hb2=>(H6 m lp B w2 ((h.up b7).up hb2) v hv hk _ _ _ _ (sM.aC (Sb hb2) (Nat.ne_of_lt sM.lt)) (lM.aC (Sb hb2) (Nat.ne_of_lt lM.lt)) (qN.aC (Sb hb2) (Nat.ne_of_lt qN.lt))).mono fun _ _ hc=>⟨hc.1,hc.2.1,hc.2.2.mono fun _ hk => .inl hk⟩⟩⟩,b7⟩
 refine Fx.R.read (v := .tuple #[.agg (Fx.ay 54 (Fx.rv .i64 (fun _=>0))),.bool false]) (by rfl) (by rfl) (Fx.Mk.refl _) (fun v1 hv1=>Fx.wX (z := .agg (Fx.ay 54 (Fx.rv .i64 (fun _=>0)))) rfl rfl rfl (m19.up hv1) Tryd.underlying88 Tryd.underlying22 (by kernel_rfl) fJ) ?_
 refine Rp (.tuple #[.agg (Fx.ay 54 (Fx.rv .i64 (fun _=>0))),.bool false]) (fun v1=>ah rfl rfl) (Rp (.agg (Fx.ay 54 (Fx.rv .i64 (fun _=>0)))) (fun v1=>Fx.aD rfl rfl rfl) (Rp (.bool false) (fun v1=>Fx.aD rfl rfl rfl) (Fx.R.make (by rfl) ?_)))
 refine Fx.L.new (m:=54) (y:=Fx.rv .i64 (fun _=>0)) (by rfl) rfl (by kernel_rfl) rfl fun g4 w6 gT oI s8 z6 => ?_
 have b8:=s8.below b3 b3.size b3.size
 have wH:w.heap.size<=g4:=by rw[gT]; exact b3.size
 have Ye:lp≠g4:=by rw[gT]; exact Nat.ne_of_lt (m16.lt)
 have Yf:m.pb≠g4:=by rw[gT]; exact Nat.ne_of_lt (m18.lt)
 have RU:m.rb≠g4:=by rw[gT]; exact Nat.ne_of_lt (m19.lt)
 have RV:m.gb≠g4:=by rw[gT]; exact Nat.ne_of_lt (m20.lt)
 have RX:m.ab≠g4:=by rw[gT]; exact Nat.ne_of_lt (m21.lt)
 have RY:g1≠g4:=by rw[gT]; exact Nat.ne_of_lt (m22.lt)
 have RZ:g2≠g4:=by rw[gT]; exact Nat.ne_of_lt (m23.lt)
 have M6:g4<w6.heap.size:=oI.lt
 clear gT
 refine Ln ⟨s8.old,?_⟩
 refine Fx.R.fP (by rfl) ?_
 refine Fx.L.dY (x:=Fx.rv .i64 (fun _=>0)) (y:=Fx.rv .i64 (fun _=>0)) (by rfl) rfl rfl rfl rfl (fun _ _=>rfl) (by kernel_rfl) oI (i:=0) (by omega) fun w7 vO s9 z7 => ?_
 have xE:Fx.aP w7 g4 54 (Fx.rv .i64 (fun _=>0)) 82:=Fx.dF vO
 have b9:=s9.below b8 b8.size (by omega)
 refine Ln (Rp (.bool false) (fun v1=>aj rfl rfl) (Fx.R.nil (sN (Ws (Ws (Wl (Lv (.bool false) (ah rfl rfl) ?_)))))))
 refine Lv (.bool true) (Fx.eH rfl rfl) (Ln (sN (Wc (b:=true) rfl (fun _=>Ws (Wl (Lv (.nilFunc) (aj rfl rfl) ?_))) (fun h=>nomatch h))))
 refine Lv (.int .i64 (9)) (aj rfl rfl) (Ln (sN (Wr (sR (⟨.tuple #[.nilFunc,.int .i64 (9)],Fx.cB Tryd.results146 (by exact rfl) (by exact rfl),?_⟩)))))
 have hEq:jv m v=9:=by unfold jv; exact if_pos (qh fJ)
 exact⟨⟨.nilFunc,0,#[],by rw[hEq],rfl,fun e0=>absurd (hEq.symm.trans e0) (by first|decide|omega|assumption)⟩,b9⟩
theorem M8(m:dD)(lp B:Nat)(w:World)(h:iT w B lp m)(v:EvM)(hv:bZ v=true)(hkd:v.kind=5) :
 Calls Tryd.prog 149 #[(pt lp),.agg (Fx.ay 14 (aW v))] w fun e w'=>Iz w B lp m (CV m v) (jN m v) e w':=by
 have hC:=h.c
 have hT:=h.t
 have hP:=h.p
 have hR:=h.r
 have hG:=h.g
 have hA:=h.a
 have hN:=h.ne
 have lC:=h.c.lt
 have lT:=h.t.lt
 have lP:=h.p.lt
 have lR:=h.r.lt
 have lG:=h.g.lt
 have lA:=h.a.lt
 obtain⟨a,ha,ho⟩ : ∃ a:Nat,a<6/\v.o=(a:Int)+1:=eF (ig hv)
 have hra:bC v=a:=by unfold bC; omega
 obtain⟨b,hb,hd⟩:=FV hv hkd
 have hbN:(v.dst-1).toNat=b:=by omega
 refine Fx.enter Tryd.func149 rfl (n:=47) rfl (by rfl) ?_
 refine Ws (Wl (Fx.L.box (m:=1) (y:=fun _=>(pt lp)) (by rfl) rfl rfl (Fx.cells_one (by rfl)) rfl fun g1 w1 aZ m1 s1 z1 => ?_))
 have m2:=hC.aC s1 hC.ne
 have m4:=hP.up s1.old
 have m5:=hR.up s1.old
 have m6:=hG.up s1.old
 have m7:=hA.up s1.old
 have b1:=s1.below (Below.refl w.heap.size w) (Below.refl w.heap.size w).size (Below.refl w.heap.size w).size
 have kM:w.heap.size<=g1:=by rw[aZ]; exact(Below.refl w.heap.size w).size
 have jk:lp≠g1:=by rw[aZ]; exact Nat.ne_of_lt (hC.lt)
 have nk:m.pb≠g1:=by rw[aZ]; exact Nat.ne_of_lt (hP.lt)
 have oC:m.rb≠g1:=by rw[aZ]; exact Nat.ne_of_lt (hR.lt)
 have oD:m.gb≠g1:=by rw[aZ]; exact Nat.ne_of_lt (hG.lt)
 have oF:m.ab≠g1:=by rw[aZ]; exact Nat.ne_of_lt (hA.lt)
 have mO:g1<w1.heap.size:=m1.lt
 clear aZ
 refine Fx.L.box (m:=14) (y:=aW v) (by rfl) rfl rfl (Fx.aN _ _) rfl fun g2 w2 bS m8 s2 z2 => ?_
 have m9:=m2.aC s2 m2.ne
 have m11:=m4.up s2.old
 have m12:=m5.up s2.old
 have m13:=m6.up s2.old
 have m14:=m7.up s2.old
 have m15:=m1.aC s2 m1.ne
 have b2:=s2.below b1 b1.size b1.size
 have su:w.heap.size<=g2:=by rw[bS]; exact b1.size
 have CY:lp≠g2:=by rw[bS]; exact Nat.ne_of_lt (m2.lt)
 have uI:m.pb≠g2:=by rw[bS]; exact Nat.ne_of_lt (m4.lt)
 have uJ:m.rb≠g2:=by rw[bS]; exact Nat.ne_of_lt (m5.lt)
 have rF:m.gb≠g2:=by rw[bS]; exact Nat.ne_of_lt (m6.lt)
 have rG:m.ab≠g2:=by rw[bS]; exact Nat.ne_of_lt (m7.lt)
 have pz:g1≠g2:=by rw[bS]; exact Nat.ne_of_lt (m1.lt)
 have vK:g2<w2.heap.size:=m8.lt
 clear bS
 refine Lv (.nilFunc) (aj rfl rfl) (Lv (.int .i64 (0)) (aj rfl rfl) (Ln (sN (Ws ?_))))
 -- region 1 draws
 refine Fx.W.bH [4,0,1,2,3,5,6,7,8,9,10,11,12] [1,0,0,1,0,1,1,0,0,0,2,3,0] Fx.Mk Fx.Mk.refl Fx.Mk.trans (aQ := [(11,0,[0]),(11,3,[3]),(11,5,[5]),(11,6,[6]),(11,10,[10]),(12,10,[10]),(12,11,[11])]) (by kernel_rfl) (by kernel_rfl) (by kernel_rfl) (by kernel_rfl) (by kernel_rfl) fun jc bT fE => ?_
 have s3:Fx.Stp w2.heap.size w2 jc:=Sb bT
 have m16:=m9.aC s3 m9.ne
 have m18:=m11.up s3.old
 have m19:=m12.up s3.old
 have m20:=m13.up s3.old
 have m21:=m14.up s3.old
 have m22:=m15.aC s3 m15.ne
 have m23:=m8.aC s3 m8.ne
 have b3:=s3.below b2 b2.size b2.size
 refine Rp ((pf g2 9)) (fun v1=>au rfl rfl Tryd.underlying28 rfl (s:=1) (by kernel_rfl) rfl (by show _+9=_; omega)) (Fx.R.read (v:=(pt lp)) (by rfl) (by rfl) (Fx.Mk.refl _) (fun v1 hv1=>ak (x:=fun _=>(pt lp)) rfl rfl (by kernel_rfl) (m22.aL.below hv1 (by have:=m22.lt; omega)) (i:=0) (by omega) (by omega) rfl) ?_)
 refine Rp ((pt lp)) (fun v1=>aO rfl rfl) (Rp ((pf lp 20)) (fun v1=>au rfl rfl Tryd.underlying93 rfl (s:=1) (by kernel_rfl) rfl (by show _+20=_; omega)) (Fx.R.read (v := .map (some m.rb)) (by rfl) (by rfl) (Fx.Mk.refl _) (fun v1 hv1=>ak (x:=fM m) rfl rfl (by kernel_rfl) (m16.aL.below hv1 (by have:=m16.lt; omega)) (i:=20) (by omega) (by omega) rfl) ?_))
 refine Fx.R.read (v := .int .u64 (v.node)) (by rfl) (by rfl) (Fx.Mk.refl _) (fun v1 hv1=>ak (x:=aW v) rfl rfl (by kernel_rfl) (m23.aL.below hv1 (by have:=m23.lt; omega)) (i:=9) (by omega) (by omega) rfl) ?_
 rcases Fx.kV m.T.x m.T.n v.node with ⟨dh,gY,iA⟩|fJ
 ·refine Fx.R.read (v := .tuple #[.agg (Fx.ay 54 (Fx.rv .i64 (m.R dh))),.bool true]) (by rfl) (by rfl) (Fx.Mk.refl _) (fun v1 hv1=>Fx.wY (z := .agg (Fx.ay 54 (Fx.rv .i64 (fun _=>0)))) rfl rfl rfl (m19.up hv1) Tryd.underlying88 Tryd.underlying22 (by kernel_rfl) gY iA rfl) ?_
  refine Rp (.tuple #[.agg (Fx.ay 54 (Fx.rv .i64 (m.R dh))),.bool true]) (fun v1=>ah rfl rfl) (Rp (.agg (Fx.ay 54 (Fx.rv .i64 (m.R dh)))) (fun v1=>Fx.aD rfl rfl rfl) (Rp (.bool true) (fun v1=>Fx.aD rfl rfl rfl) (Fx.R.make (by rfl) ?_)))
  refine Fx.L.new (m:=54) (y:=Fx.rv .i64 (fun _=>0)) (by rfl) rfl (by kernel_rfl) rfl fun g3 w3 iq m24 s4 z3 => ?_
  have qC:=m16.aC s4 m16.ne
  have mH:=m22.aC s4 m22.ne
  have m32:=m23.aC s4 m23.ne
  have b4:=s4.below b3 b3.size b3.size
  have uY:w.heap.size<=g3:=by rw[iq]; exact b3.size
  have EF:lp≠g3:=by rw[iq]; exact Nat.ne_of_lt (m16.lt)
  have EG:m.pb≠g3:=by rw[iq]; exact Nat.ne_of_lt (m18.lt)
  have KD:m.rb≠g3:=by rw[iq]; exact Nat.ne_of_lt (m19.lt)
  have KE:m.gb≠g3:=by rw[iq]; exact Nat.ne_of_lt (m20.lt)
  have KF:m.ab≠g3:=by rw[iq]; exact Nat.ne_of_lt (m21.lt)
  have RQ:g1≠g3:=by rw[iq]; exact Nat.ne_of_lt (m22.lt)
  have RS:g2≠g3:=by rw[iq]; exact Nat.ne_of_lt (m23.lt)
  have LW:g3<w3.heap.size:=m24.lt
  clear iq
  refine Ln ⟨s4.old,?_⟩
  refine Fx.R.fP (by rfl) ?_
  refine Fx.L.dY (x:=Fx.rv .i64 (fun _=>0)) (y:=Fx.rv .i64 (m.R dh)) (by rfl) rfl rfl rfl rfl (fun _ _=>rfl) (by kernel_rfl) m24 (i:=0) (by omega) fun w4 mI s5 z4 => ?_
  have nO:Fx.aP w4 g3 54 (Fx.rv .i64 (m.R dh)) 82:=Fx.dF mI
  have aT:=Fx.gD.bP s5 m24.ty
  have qW:=qC.aU aT (by decide)
  have nP:=mH.aU aT (by decide)
  have oH:=m32.aU aT (by decide)
  have b5:=s5.below b4 b4.size (by omega)
  refine Ln (Rp (.bool true) (fun v1=>aj rfl rfl) (Fx.R.nil (sN (Ws (Fx.W.block (Ws (Wl (Lv (.bool true) (ah rfl rfl) ?_))))))))
  refine Lv (.bool false) (Fx.dZ rfl rfl) (Lv (.bool false) (aj rfl rfl) (Ln (sN (Wc (b:=false) rfl (fun h=>nomatch h) (fun _=>Ws ?_)))))
  have ex:m.idx v.node=dh:=iU h.t.inv.inj gY iA
  have hk:m.T.has v.node=true:=fQ gY iA
  -- region 4 draws
  refine Fx.W.bH [1,0,4,5,2,3,6,7,8,9] [4,0,4,0,0,0,0,4,0,0] Fx.Mk Fx.Mk.refl Fx.Mk.trans (aQ := []) (by kernel_rfl) (by kernel_rfl) (by kernel_rfl) (by kernel_rfl) (by kernel_rfl) fun sI fU mR => ?_
  have s6:Fx.Stp w4.heap.size w4 sI:=Sb fU
  have oo:=qW.aC s6 qW.ne
  have sK:=nP.aC s6 nP.ne
  have ny:=oH.aC s6 oH.ne
  have qo:=nO.aC s6 nO.ne
  have b6:=s6.below b5 b5.size b5.size
  refine Rp ((pf g2 10)) (fun v1=>au rfl rfl Tryd.underlying28 rfl (s:=1) (by kernel_rfl) rfl (by show _+10=_; omega)) (Fx.R.s ((pt lp)) (ak (x:=fun _=>(pt lp)) rfl rfl (by kernel_rfl) sK.aL (i:=0) (by omega) (by omega) rfl) ?_)
  refine Rp ((pt lp)) (fun v1=>aO rfl rfl) (Rp ((pt lp)) (fun v1=>au rfl rfl Tryd.underlying93 rfl (s:=6) (by kernel_rfl) rfl rfl) (Fx.R.s (.int .i64 (v.dst)) (ak (x:=aW v) rfl rfl (by kernel_rfl) ny.aL (i:=10) (by omega) (by omega) rfl) ?_))
  refine Rp (.int .i64 ((b:Int))) (fun v1=>Fx.bD rfl rfl rfl Fx.io) (Rp ((pf lp b)) (fun v1=>bF rfl rfl rfl Tryd.underlying47 (s:=1) (by kernel_rfl) (by omega) (by omega) (by omega)) ?_)
  by_cases BX:(m.inn b)=true
  ·refine Fx.R.s (.bool true) (ak (x:=fM m) rfl rfl (by kernel_rfl) oo.aL (i:=b) (by omega) (by omega) ((uH (by omega)).trans (congrArg Value.bool BX))) ?_
   refine Rp (.bool false) (fun v1=>Fx.dZ rfl rfl) (Rp (.bool false) (fun v1=>aj rfl rfl) (Fx.R.nil (sN (Wc (b:=false) rfl (fun h=>nomatch h) (fun _=>Wk (Fx.dV (sN (Ws (Wl (Lv (.agg (Fx.ay 54 (Fx.rv .i64 (m.R dh)))) (aK (x:=Fx.rv .i64 (m.R dh)) (y:=Fx.rv .i64 (m.R dh)) rfl rfl (by kernel_rfl) (by kernel_rfl) qo.aL (i:=0) (by omega) (by omega) (fun j _=>by rw[Nat.zero_add])) ?_))))))))))
   refine Lv ((pt g2)) (au rfl rfl Tryd.underlying28 rfl (s:=1) (by kernel_rfl) rfl rfl) (Lv (.int .i64 (v.o)) (ak (x:=aW v) rfl rfl (by kernel_rfl) ny.aL (i:=0) (by omega) (by omega) rfl) (Lv ((pf g2 10)) (au rfl rfl Tryd.underlying28 rfl (s:=1) (by kernel_rfl) rfl (by show _+10=_; omega)) (Lv (.int .i64 (v.dst)) (ak (x:=aW v) rfl rfl (by kernel_rfl) ny.aL (i:=10) (by omega) (by omega) rfl) (Lv ((pf g2 11)) (au rfl rfl Tryd.underlying28 rfl (s:=1) (by kernel_rfl) rfl (by show _+11=_; omega)) (Lv (.int .i64 (v.bL)) (ak (x:=aW v) rfl rfl (by kernel_rfl) ny.aL (i:=11) (by omega) (by omega) rfl) (Fx.L.call (by rfl) (rC (args := [.agg (Fx.ay 54 (Fx.rv .i64 (m.R dh))),.int .i64 (v.o),.int .i64 (v.dst),.int .i64 (v.bL)]) rfl rfl Tryd.func164 rfl rfl) rfl ((RN (m.R dh) v.o v.dst v.bL _ (by omega) (by omega)).mono ?_)))))))
   rintro e w5 ⟨he,hb1⟩
   refine⟨.tuple #[.agg (Fx.ay 54 (Fx.rv .i64 ((fA (m.R dh) v.o v.dst v.bL).1))),.int .i64 ((fA (m.R dh) v.o v.dst v.bL).2)],by rw[he],?_⟩
   clear he
   have s7:=Sb hb1
   have qY:=sK.aC s7 sK.ne
   have qM:=ny.aC s7 ny.ne
   have lM:=qo.aC s7 qo.ne
   have b7:=s7.below b6 b6.size b6.size
   refine Lv (.tuple #[.agg (Fx.ay 54 (Fx.rv .i64 ((fA (m.R dh) v.o v.dst v.bL).1))),.int .i64 ((fA (m.R dh) v.o v.dst v.bL).2)]) (ah rfl rfl) (Lv (.agg (Fx.ay 54 (Fx.rv .i64 ((fA (m.R dh) v.o v.dst v.bL).1)))) (Fx.aD rfl rfl rfl) (Lv (.int .i64 ((fA (m.R dh) v.o v.dst v.bL).2)) (Fx.aD rfl rfl rfl) (Fx.L.dY (x:=Fx.rv .i64 (m.R dh)) (y:=Fx.rv .i64 ((fA (m.R dh) v.o v.dst v.bL).1)) (by rfl) rfl rfl rfl rfl (fun _ _=>rfl) (by kernel_rfl) lM (i:=0) (by omega) fun w6 qN s8 z5 => ?_)))
   have oI:Fx.aP w6 g3 54 (Fx.rv .i64 ((fA (m.R dh) v.o v.dst v.bL).1)) 82:=Fx.dF qN
   have dL:=Fx.gD.bP s8 lM.ty
   have tX:=qY.aU dL (by decide)
   have yK:=qM.aU dL (by decide)
   have b8:=s8.below b7 b7.size (by omega)
   refine Lv (.int .i64 ((fA (m.R dh) v.o v.dst v.bL).2)) (aj rfl rfl) (Ln (sN (Ws (Ws (Wl (Lv (.int .i64 ((fA (m.R dh) v.o v.dst v.bL).2)) (ah rfl rfl) ?_))))))
   by_cases Yg:((fA (m.R dh) v.o v.dst v.bL).2)=0
   ·refine Lv (.bool false) (Fx.gu rfl rfl rfl Yg) (Ln (sN (Wc (b:=false) rfl (fun h=>nomatch h) (fun _=>Wk (sN (Ws (Wl (Lv (.func (.func 165) #[] #[(pt g3),(pt g1),(pt g2)]) (Fx.jf (us := []) (vs := [(pt g3),(pt g1),(pt g2)]) rfl rfl rfl) (Lv (.func (.func 165) #[] #[(pt g3),(pt g1),(pt g2)]) (aj rfl rfl) (Lv (.int .i64 (0)) (aj rfl rfl) (Ln (sN (Wr (⟨.tuple #[.func (.func 165) #[] #[(pt g3),(pt g1),(pt g2)],.int .i64 (0)],Fx.cB Tryd.results149 (by exact rfl) (by exact rfl),?_⟩))))))))))))))
    have em:nY m v=fA (m.R dh) v.o v.dst v.bL:=by unfold nY; rw[ex]
    show Iz w B lp m (vU m v.node (nY m v).1) _ _ _
    rw[em]
    have hEq:jN m v=0:=by unfold jN; rw[if_neg (by rw[hk]; decide),if_neg (by rw[hbN,BX]; decide),em]; exact Yg
    exact⟨⟨_,165,#[(pt g3),(pt g1),(pt g2)],by rw[hEq],rfl,fun _=>⟨rfl,⟨_,_,Tryd.func165,rfl,rfl⟩,fun w2 hb2=>(KA m lp B w2 ((h.up b8).up hb2) v hv hk _ _ _ _ (oI.aC (Sb hb2) (Nat.ne_of_lt oI.lt)) (tX.aC (Sb hb2) (Nat.ne_of_lt tX.lt)) (yK.aC (Sb hb2) (Nat.ne_of_lt yK.lt))).mono fun _ _ hc=>⟨hc.1,hc.2.1,hc.2.2.mono fun _ hk => .inl hk⟩⟩⟩,b8⟩
   refine Lv (.bool true) (Fx.jd rfl rfl rfl Yg) (Ln (sN (Wc (b:=true) rfl (fun _=>Ws (Wl (Lv (.int .i64 ((fA (m.R dh) v.o v.dst v.bL).2)) (ah rfl rfl) ?_))) (fun h=>nomatch h))))
   refine Lv (.nilFunc) (aj rfl rfl) (Lv (.int .i64 ((fA (m.R dh) v.o v.dst v.bL).2)) (aj rfl rfl) (Ln (sN (Wr (sR (⟨.tuple #[.nilFunc,.int .i64 ((fA (m.R dh) v.o v.dst v.bL).2)],Fx.cB Tryd.results149 (by exact rfl) (by exact rfl),?_⟩))))))
   have em:nY m v=fA (m.R dh) v.o v.dst v.bL:=by unfold nY; rw[ex]
   have hEq:jN m v=(fA (m.R dh) v.o v.dst v.bL).2:=by unfold jN; rw[if_neg (by rw[hk]; decide),if_neg (by rw[hbN,BX]; decide),em]
   exact⟨⟨.nilFunc,0,#[],by rw[hEq],rfl,fun e0=>absurd (hEq.symm.trans e0) (by first|decide|omega|assumption)⟩,b8⟩
  rw[Bool.not_eq_true]at BX
  refine Fx.R.s (.bool false) (ak (x:=fM m) rfl rfl (by kernel_rfl) oo.aL (i:=b) (by omega) (by omega) ((uH (by omega)).trans (congrArg Value.bool BX))) ?_
  refine Rp (.bool true) (fun v1=>Fx.eH rfl rfl) (Rp (.bool true) (fun v1=>aj rfl rfl) (Fx.R.nil (sN (Wc (b:=true) rfl (fun _=>Ws (Wl (Lv (.nilFunc) (aj rfl rfl) ?_))) (fun h=>nomatch h)))))
  refine Lv (.int .i64 (10)) (aj rfl rfl) (Ln (sN (Wr (Fx.dH (sR (⟨.tuple #[.nilFunc,.int .i64 (10)],Fx.cB Tryd.results149 (by exact rfl) (by exact rfl),?_⟩))))))
  have hEq:jN m v=10:=by unfold jN; rw[if_neg (by rw[hk]; decide)]; exact if_pos (by rw[hbN]; exact BX)
  exact⟨⟨.nilFunc,0,#[],by rw[hEq],rfl,fun e0=>absurd (hEq.symm.trans e0) (by first|decide|omega|assumption)⟩,b6⟩
 refine Fx.R.read (v := .tuple #[.agg (Fx.ay 54 (Fx.rv .i64 (fun _=>0))),.bool false]) (by rfl) (by rfl) (Fx.Mk.refl _) (fun v1 hv1=>Fx.wX (z := .agg (Fx.ay 54 (Fx.rv .i64 (fun _=>0)))) rfl rfl rfl (m19.up hv1) Tryd.underlying88 Tryd.underlying22 (by kernel_rfl) fJ) ?_
 refine Rp (.tuple #[.agg (Fx.ay 54 (Fx.rv .i64 (fun _=>0))),.bool false]) (fun v1=>ah rfl rfl) (Rp (.agg (Fx.ay 54 (Fx.rv .i64 (fun _=>0)))) (fun v1=>Fx.aD rfl rfl rfl) (Rp (.bool false) (fun v1=>Fx.aD rfl rfl rfl) (Fx.R.make (by rfl) ?_)))
 refine Fx.L.new (m:=54) (y:=Fx.rv .i64 (fun _=>0)) (by rfl) rfl (by kernel_rfl) rfl fun g4 w7 gT vO s9 z6 => ?_
 have b9:=s9.below b3 b3.size b3.size
 have wH:w.heap.size<=g4:=by rw[gT]; exact b3.size
 have R3:lp≠g4:=by rw[gT]; exact Nat.ne_of_lt (m16.lt)
 have Yh:m.pb≠g4:=by rw[gT]; exact Nat.ne_of_lt (m18.lt)
 have R4:m.rb≠g4:=by rw[gT]; exact Nat.ne_of_lt (m19.lt)
 have Yi:m.gb≠g4:=by rw[gT]; exact Nat.ne_of_lt (m20.lt)
 have R5:m.ab≠g4:=by rw[gT]; exact Nat.ne_of_lt (m21.lt)
 have R6:g1≠g4:=by rw[gT]; exact Nat.ne_of_lt (m22.lt)
 have R7:g2≠g4:=by rw[gT]; exact Nat.ne_of_lt (m23.lt)
 have M6:g4<w7.heap.size:=vO.lt
 clear gT
 refine Ln ⟨s9.old,?_⟩
 refine Fx.R.fP (by rfl) ?_
 refine Fx.L.dY (x:=Fx.rv .i64 (fun _=>0)) (y:=Fx.rv .i64 (fun _=>0)) (by rfl) rfl rfl rfl rfl (fun _ _=>rfl) (by kernel_rfl) vO (i:=0) (by omega) fun w8 vP s10 z7 => ?_
 have yC:Fx.aP w8 g4 54 (Fx.rv .i64 (fun _=>0)) 82:=Fx.dF vP
 have b10:=s10.below b9 b9.size (by omega)
 refine Ln (Rp (.bool false) (fun v1=>aj rfl rfl) (Fx.R.nil (sN (Ws (Fx.W.block (Ws (Wl (Lv (.bool false) (ah rfl rfl) ?_))))))))
 refine Lv (.bool true) (Fx.eH rfl rfl) (Lv (.bool true) (aj rfl rfl) (Ln (sN (Wc (b:=true) rfl (fun _=>Ws (Wl (Lv (.nilFunc) (aj rfl rfl) ?_))) (fun h=>nomatch h)))))
 refine Lv (.int .i64 (9)) (aj rfl rfl) (Ln (sN (Wr (Fx.dH (sR (⟨.tuple #[.nilFunc,.int .i64 (9)],Fx.cB Tryd.results149 (by exact rfl) (by exact rfl),?_⟩))))))
 have hEq:jN m v=9:=by unfold jN; exact if_pos (qh fJ)
 exact⟨⟨.nilFunc,0,#[],by rw[hEq],rfl,fun e0=>absurd (hEq.symm.trans e0) (by first|decide|omega|assumption)⟩,b10⟩
theorem M9(m:dD)(lp B:Nat)(w:World)(h:iT w B lp m)(v:EvM)(hv:bZ v=true)(b:Nat)(hb:b<6)(hd:v.dst=(b:Int)+1) :
 Calls Tryd.prog 150 #[(pt lp),.agg (Fx.ay 14 (aW v))] w fun e w'=>Iz w B lp m (CW m v) (0) e w':=by
 have hC:=h.c
 have hT:=h.t
 have hP:=h.p
 have hR:=h.r
 have hG:=h.g
 have hA:=h.a
 have hN:=h.ne
 have lC:=h.c.lt
 have lT:=h.t.lt
 have lP:=h.p.lt
 have lR:=h.r.lt
 have lG:=h.g.lt
 have lA:=h.a.lt
 refine Fx.enter Tryd.func150 rfl (n:=7) rfl (by rfl) ?_
 refine Ws (Wl (Fx.L.box (m:=1) (y:=fun _=>(pt lp)) (by rfl) rfl rfl (Fx.cells_one (by rfl)) rfl fun g1 w1 aZ m1 s1 z1 => ?_))
 have m2:=hC.aC s1 hC.ne
 have m4:=hP.up s1.old
 have m5:=hR.up s1.old
 have m6:=hG.up s1.old
 have m7:=hA.up s1.old
 have b1:=s1.below (Below.refl w.heap.size w) (Below.refl w.heap.size w).size (Below.refl w.heap.size w).size
 have kM:w.heap.size<=g1:=by rw[aZ]; exact(Below.refl w.heap.size w).size
 have jk:lp≠g1:=by rw[aZ]; exact Nat.ne_of_lt (hC.lt)
 have nk:m.pb≠g1:=by rw[aZ]; exact Nat.ne_of_lt (hP.lt)
 have oC:m.rb≠g1:=by rw[aZ]; exact Nat.ne_of_lt (hR.lt)
 have oD:m.gb≠g1:=by rw[aZ]; exact Nat.ne_of_lt (hG.lt)
 have oF:m.ab≠g1:=by rw[aZ]; exact Nat.ne_of_lt (hA.lt)
 have mO:g1<w1.heap.size:=m1.lt
 clear aZ
 refine Fx.L.box (m:=14) (y:=aW v) (by rfl) rfl rfl (Fx.aN _ _) rfl fun g2 w2 bS m8 s2 z2 => ?_
 have m15:=m1.aC s2 m1.ne
 have b2:=s2.below b1 b1.size b1.size
 have su:w.heap.size<=g2:=by rw[bS]; exact b1.size
 have CY:lp≠g2:=by rw[bS]; exact Nat.ne_of_lt (m2.lt)
 have uI:m.pb≠g2:=by rw[bS]; exact Nat.ne_of_lt (m4.lt)
 have uJ:m.rb≠g2:=by rw[bS]; exact Nat.ne_of_lt (m5.lt)
 have rF:m.gb≠g2:=by rw[bS]; exact Nat.ne_of_lt (m6.lt)
 have rG:m.ab≠g2:=by rw[bS]; exact Nat.ne_of_lt (m7.lt)
 have pz:g1≠g2:=by rw[bS]; exact Nat.ne_of_lt (m1.lt)
 have vK:g2<w2.heap.size:=m8.lt
 clear bS
 refine Lv (.nilFunc) (aj rfl rfl) (Lv (.int .i64 (0)) (aj rfl rfl) (Ln (sN (Ws (Wl (Lv (.func (.func 166) #[] #[(pt g1),(pt g2)]) (Fx.jf (us := []) (vs := [(pt g1),(pt g2)]) rfl rfl rfl) (Lv (.func (.func 166) #[] #[(pt g1),(pt g2)]) (aj rfl rfl) (Lv (.int .i64 (0)) (aj rfl rfl) (Ln (sN (Wr (⟨.tuple #[.func (.func 166) #[] #[(pt g1),(pt g2)],.int .i64 (0)],Fx.cB Tryd.results150 (by exact rfl) (by exact rfl),?_⟩))))))))))))
 have hEq:(0:Int)=0:=rfl
 exact⟨⟨_,166,#[(pt g1),(pt g2)],by rw[hEq],rfl,fun _=>⟨rfl,⟨_,_,Tryd.func166,rfl,rfl⟩,fun w2 hb2=>(Kz m lp B w2 ((h.up b2).up hb2) v hv b hb hd _ _ (m15.aC (Sb hb2) (Nat.ne_of_lt m15.lt)) (m8.aC (Sb hb2) (Nat.ne_of_lt m8.lt))).mono fun _ _ hc=>⟨hc.1,hc.2.1,hc.2.2.mono fun _ hk => .inl hk⟩⟩⟩,b2⟩
theorem KG(m:dD)(lp B:Nat)(w:World)(h:iT w B lp m)(v:EvM)(hv:bZ v=true) :
 Calls Tryd.prog 151 #[(pt lp),.agg (Fx.ay 14 (aW v))] w fun e w'=>Iz w B lp m (xS m v) (0) e w':=by
 have hC:=h.c
 have hT:=h.t
 have hP:=h.p
 have hR:=h.r
 have hG:=h.g
 have hA:=h.a
 have hN:=h.ne
 have lC:=h.c.lt
 have lT:=h.t.lt
 have lP:=h.p.lt
 have lR:=h.r.lt
 have lG:=h.g.lt
 have lA:=h.a.lt
 refine Fx.enter Tryd.func151 rfl (n:=7) rfl (by rfl) ?_
 refine Ws (Wl (Fx.L.box (m:=1) (y:=fun _=>(pt lp)) (by rfl) rfl rfl (Fx.cells_one (by rfl)) rfl fun g1 w1 aZ m1 s1 z1 => ?_))
 have m2:=hC.aC s1 hC.ne
 have m4:=hP.up s1.old
 have m5:=hR.up s1.old
 have m6:=hG.up s1.old
 have m7:=hA.up s1.old
 have b1:=s1.below (Below.refl w.heap.size w) (Below.refl w.heap.size w).size (Below.refl w.heap.size w).size
 have kM:w.heap.size<=g1:=by rw[aZ]; exact(Below.refl w.heap.size w).size
 have jk:lp≠g1:=by rw[aZ]; exact Nat.ne_of_lt (hC.lt)
 have nk:m.pb≠g1:=by rw[aZ]; exact Nat.ne_of_lt (hP.lt)
 have oC:m.rb≠g1:=by rw[aZ]; exact Nat.ne_of_lt (hR.lt)
 have oD:m.gb≠g1:=by rw[aZ]; exact Nat.ne_of_lt (hG.lt)
 have oF:m.ab≠g1:=by rw[aZ]; exact Nat.ne_of_lt (hA.lt)
 have mO:g1<w1.heap.size:=m1.lt
 clear aZ
 refine Fx.L.box (m:=14) (y:=aW v) (by rfl) rfl rfl (Fx.aN _ _) rfl fun g2 w2 bS m8 s2 z2 => ?_
 have m15:=m1.aC s2 m1.ne
 have b2:=s2.below b1 b1.size b1.size
 have su:w.heap.size<=g2:=by rw[bS]; exact b1.size
 have CY:lp≠g2:=by rw[bS]; exact Nat.ne_of_lt (m2.lt)
 have uI:m.pb≠g2:=by rw[bS]; exact Nat.ne_of_lt (m4.lt)
 have uJ:m.rb≠g2:=by rw[bS]; exact Nat.ne_of_lt (m5.lt)
 have rF:m.gb≠g2:=by rw[bS]; exact Nat.ne_of_lt (m6.lt)
 have rG:m.ab≠g2:=by rw[bS]; exact Nat.ne_of_lt (m7.lt)
 have pz:g1≠g2:=by rw[bS]; exact Nat.ne_of_lt (m1.lt)
 have vK:g2<w2.heap.size:=m8.lt
 clear bS
 refine Lv (.nilFunc) (aj rfl rfl) (Lv (.int .i64 (0)) (aj rfl rfl) (Ln (sN (Ws (Wl (Lv (.func (.func 167) #[] #[(pt g1),(pt g2)]) (Fx.jf (us := []) (vs := [(pt g1),(pt g2)]) rfl rfl rfl) (Lv (.func (.func 167) #[] #[(pt g1),(pt g2)]) (aj rfl rfl) (Lv (.int .i64 (0)) (aj rfl rfl) (Ln (sN (Wr (⟨.tuple #[.func (.func 167) #[] #[(pt g1),(pt g2)],.int .i64 (0)],Fx.cB Tryd.results151 (by exact rfl) (by exact rfl),?_⟩))))))))))))
 have hEq:(0:Int)=0:=rfl
 exact⟨⟨_,167,#[(pt g1),(pt g2)],by rw[hEq],rfl,fun _=>⟨rfl,⟨_,_,Tryd.func167,rfl,rfl⟩,fun w2 hb2=>(HZ m lp B w2 ((h.up b2).up hb2) v hv _ _ (m15.aC (Sb hb2) (Nat.ne_of_lt m15.lt)) (m8.aC (Sb hb2) (Nat.ne_of_lt m8.lt))).mono fun _ _ hc=>⟨hc.1,hc.2.1,hc.2.2.mono fun _ hk => .inl hk⟩⟩⟩,b2⟩
end Go.Proofs.YtahbiajdgealnaaDoor
namespace Go.Proofs.YtahbiajdgealnaaDoor
open Go.RowKit
open Rt
set_option maxRecDepth 10000
-- TI.Same is not in this seat
theorem Yj(o q:Nat)(w:World)(ho:1<=o/\o<=6)(hq:1<=q/\q<1099511627776) :
 Calls Tryd.prog 152 #[.int .i64 ((o:Int)),.int .u64 ((q:Int))] w fun e w'=>e = .returned (.int .u64 (1099511627776*(o:Int)+(q:Int)))/\w'=w:=by
 refine Fx.enter Tryd.func152 rfl (n:=24) rfl (by rfl) ?_
 refine Fx.Ws (Fx.Wl (Fx.Lv (.int .u64 (0)) (Fx.aj rfl rfl) (Fx.Ln (Fx.sN (Fx.Ws (Fx.Ws (Fx.Wl (Fx.Lv (.int .i64 ((o:Int))) (Fx.ah rfl rfl) (Fx.Lv (.bool false) (Fx.dX rfl rfl rfl (by omega)) (Fx.Lv (.bool false) (Fx.ah rfl rfl) (Fx.Lv (.int .i64 ((o:Int))) (Fx.ah rfl rfl) (Fx.Lv (.bool false) (Fx.dw rfl rfl rfl (by omega)) (Fx.Lv (.bool false) (Fx.aJ rfl rfl rfl) (Fx.Lv (.bool false) (Fx.ah rfl rfl) (Fx.Lv (.int .u64 ((q:Int))) (Fx.ah rfl rfl) (Fx.Lv (.bool false) (Fx.dX rfl rfl rfl (by omega)) (Fx.Lv (.bool false) (Fx.aJ rfl rfl rfl) (Fx.Lv (.bool false) (Fx.ah rfl rfl) (Fx.Lv (.int .u64 ((q:Int))) (Fx.ah rfl rfl) (Fx.Lv (.bool false) (Fx.eY rfl rfl rfl (by omega)) (Fx.Lv (.bool false) (Fx.aJ rfl rfl rfl) (Fx.Ln (Fx.sN (Fx.Wc (b:=false) rfl (fun h=>nomatch h) (fun _=>Fx.Wk (Fx.sN (Fx.Ws (Fx.Wl (Fx.Lv (.int .i64 ((o:Int))) (Fx.ah rfl rfl) (Fx.Lv (.int .u64 ((o:Int))) (Fx.eZ rfl rfl (by kernel_rfl) Tryd.underlying22 (Fx.rX (by omega) rfl)) (Fx.Lv (.int .u64 (1099511627776*(o:Int))) (Fx.Fe (b:=40) rfl rfl rfl (by decide) (Fx.rX (by omega) (by omega))) (Fx.Lv (.int .u64 ((q:Int))) (Fx.ah rfl rfl) (Fx.Lv (.int .u64 (1099511627776*(o:Int)+(q:Int))) (Fx.Rs rfl rfl rfl (by omega) (by omega)) (Fx.Lv (.int .u64 (1099511627776*(o:Int)+(q:Int))) (Fx.aj rfl rfl) (Fx.Ln (Fx.sN (Fx.Wr (⟨.int .u64 (1099511627776*(o:Int)+(q:Int)),Fx.rV Tryd.results152 (by exact rfl),?_⟩))))))))))))))))))))))))))))))))))))))
 exact⟨rfl,rfl⟩
end Go.Proofs.YtahbiajdgealnaaDoor
namespace Go.Proofs.YtahbiajdgealnaaDoor
open Go.RowKit Go
set_option linter.unusedVariables false
namespace Rt
theorem uK : ∀(n m:Nat) (f:Nat->Nat),(∀ i,i<m->f i<n)->(∀ i j,i<m->j<m->f i=f j->i=j)->m<=n
 | 0,m,f,h1,_=>by
   rcases Nat.eq_zero_or_pos m with h|h
   ·omega
   ·have:=h1 0 h; omega
 | n+1,m,f,h1,h2=>by
   rcases Nat.eq_zero_or_pos m with h|h
   ·omega
   by_cases hx : ∃ i0,i0<m/\f i0=n
   ·obtain⟨i0,hi,e⟩:=hx
    have:=uK n (m-1) (fun j=>f (if j=i0 then m-1 else j)) (fun j hj=>by
     have h3:=h1 (if j=i0 then m-1 else j) (by split <;> omega)
     have h4:f (if j=i0 then m-1 else j)≠n:=fun e2=>by
      have:=h2 _ i0 (by split <;> omega) hi (e2.trans e.symm)
      split at this <;> omega
     show f _<n
     omega) (fun i j hi2 hj2 e2=>by
     have:=h2 _ _ (by split <;> omega) (by split <;> omega) e2
     split at this <;> split at this <;> omega)
    omega
   ·have:=uK n m f (fun i hi=>by
     have:=h1 i hi
     have:f i≠n:=fun e=>hx ⟨i,hi,e⟩
     omega) h2
    omega
section
variable {T U:cu} {id pa k:Int} {i:Nat}
theorem cu.wJ(h:T.err id pa=0):T.add id pa=T.put id pa:=if_pos h
theorem cu.R8(h : ¬ T.err id pa=0):T.add id pa=T:=if_neg h
theorem cu.tF(hi:i<T.n):T.has (T.x i)=true:=fQ hi rfl
theorem cu.CZ(h:T.ok)(hi:i<T.n):T.par (T.x i)=T.p i:=sj h.inj hi rfl
theorem cu.step(h:T.ok)(hk:T.has k=true):T.path k=k::T.path (T.par k):=by
 have h3:fI T.x T.p T.n 3 (T.par k):=h.stop k hk
 show(if cK T.x T.n k=true then k::fK T.x T.p T.n 3 (T.par k)else [])=_
 rw[if_pos (show cK T.x T.n k=true from hk),<- (Aj h3 (show 3<=4 by omega)).1]; rfl
theorem cu.R9(h:T.ok)(hi:i<T.n):T.path (T.x i)=T.x i::T.path (T.p i):=by rw[cu.step h (cu.tF hi),cu.CZ h hi]
theorem cu.tH:(T.path k).length<=4:=qj
theorem cu.Sc(h:T.ok):T.path 0 = []:=uo.Ua h 4
theorem mU.zero(T:cu):mU cu.zero T:=⟨fun _ h=>(nomatch h),fun _ h=>(nomatch h)⟩
theorem mU.path(hT:T.ok)(hU:U.ok)(h:mU U T) : ∀(d:Nat) (k:Int),(k=0\/U.has k=true)->fK U.x U.p U.n d k=fK T.x T.p T.n d k
 | 0,_,_=>rfl
 | d+1,k,hk=>by
   rcases hk with rfl|hk
   ·rw[iH (uo.P8 hU),iH (uo.P8 hT)]
   ·unfold fK
    have h1:cK U.x U.n k=true:=hk
    have h2:cK T.x T.n k=true:=h.has k hk
    have h3:fq U.x U.p U.n k=fq T.x T.p T.n k:=h.par k hk
    rw[if_pos h1,if_pos h2,<- h3,mU.path hT hU h d]
    exact uo.up hU hk
theorem mU.lt(hU:U.ok)(h:mU U T)(hi:i<T.n)(hn:U.has (T.x i)=false):U.n<T.n:=by
 have each : ∀ j,∃ q,j<U.n->q<T.n/\T.x q=U.x j:=fun j=>by
  by_cases hj:j<U.n
  ·obtain⟨q,h1,h2⟩:=dW (h.has _ (cu.tF hj))
   exact⟨q,fun _=>⟨h1,h2⟩⟩
  ·exact⟨0,fun h=>absurd h hj⟩
 obtain⟨f,hf⟩:=Classical.axiomOfChoice each
 have:=uK T.n (U.n+1) (fun j=>if j=U.n then i else f j) (fun j hj=>by
  show(if j=U.n then i else f j)<T.n
  split
  ·exact hi
  ·exact(hf j (by omega)).1) (fun a b ha hb e=>by
  have ne : ∀ j,j<U.n->f j≠i:=fun j hj e=>by
   have h1:=(hf j hj).2
   rw[e]at h1
   rw[h1,cu.tF hj]at hn; cases hn
  have e:(if a=U.n then i else f a)=(if b=U.n then i else f b):=e
  by_cases h1:a=U.n
  ·by_cases h2:b=U.n
   ·omega
   ·rw[if_pos h1,if_neg h2]at e; exact absurd e.symm (ne b (by omega))
  ·by_cases h2:b=U.n
   ·rw[if_neg h1,if_pos h2]at e; exact absurd e (ne a (by omega))
   ·rw[if_neg h1,if_neg h2]at e
    have h3:=(hf a (by omega)).2
    have h4:=(hf b (by omega)).2
    rw[e]at h3
    exact hU.inj a b (by omega) (by omega) (h3.symm.trans h4))
 omega
theorem mU.add(hT:T.ok)(hU:U.ok)(h:mU U T)(hi:i<T.n)(hp:T.p i=0\/U.has (T.p i)=true) :
 mU (U.add (T.x i) (T.p i)) T/\(U.add (T.x i) (T.p i)).has (T.x i)=true /\ ∀ k,U.has k=true->(U.add (T.x i) (T.p i)).has k=true:=by
 cases hh:U.has (T.x i)with
 | true =>
   have e:U.add (T.x i) (T.p i)=U:=by
    refine cu.R8 fun h0 => ?_
    have:=(D6 h0).2.1
    rw[show cK U.x U.n (T.x i)=U.has (T.x i)from rfl,hh]at this; cases this
   rw[e]; exact⟨h,hh,fun _ h=>h⟩
 | false =>
   have hx0:=(hT.pos i hi).1
   have hlt:=mU.lt hU h hi hh
   have hsm:=hT.small
   have e0:U.err (T.x i) (T.p i)=0:=by
    unfold cu.err lJ
    rw[if_neg (by omega),if_neg (by rw[show cK U.x U.n (T.x i)=U.has (T.x i)from rfl,hh]; decide),if_neg,if_neg]
    ·rintro (h1|h1)
     ·omega
     ·have h2:=mU.path hT hU h 4 (T.p i) hp
      rw[h2]at h1
      have h3:=cu.R9 hT hi
      have h4:(T.path (T.x i)).length<=4:=cu.tH
      rw[h3,List.length_cons]at h4
      have h1:4<=(T.path (T.p i)).length:=h1
      omega
    ·rintro ⟨h1,h2⟩
     rcases hp with h3|h3
     ·exact h1 h3
     ·rw[show cK U.x U.n (T.p i)=U.has (T.p i)from rfl,h3]at h2; cases h2
   rw[cu.wJ e0]
   refine⟨⟨fun k hk => ?_,fun k hk => ?_⟩,?_,fun k hk => ?_⟩
   ·rw[cu.gZ,Bool.or_eq_true]at hk
    rcases hk with hk|hk
    ·exact h.has k hk
    ·rw[<- of_decide_eq_true hk]; exact cu.tF hi
   ·rw[cu.gZ,Bool.or_eq_true]at hk
    rw[cu.nN]
    split
    ·rename_i e; subst e; exact(cu.CZ hT hi).symm
    ·rename_i e
     rcases hk with hk|hk
     ·exact h.par k hk
     ·exact absurd (of_decide_eq_true hk) e
   ·rw[cu.gZ,decide_eq_true rfl,Bool.or_true]
   ·rw[cu.gZ,hk,Bool.true_or]
structure C8(T U:cu)(r k:Nat):Prop where
 sub:mU U T
 fst : ∀ j,j<r->j<T.n->U.has (T.x j)=true
 Yk:k<=r->r<T.n->U.has (T.x r)=true
theorem C8.start(T:cu) : ∀ {r:Nat},r=0->C8 T cu.zero r T.n:=fun e=>⟨mU.zero T,fun j h=>by omega,fun h1 h2=>by omega⟩
theorem C8.add{r k:Nat}(hT:T.ok)(hU:U.ok)(h:C8 T U r k)(hk:0<k)(hkn:k<=T.n)(hp:T.p (k-1)=0\/U.has (T.p (k-1))=true):C8 T (U.add (T.x (k-1)) (T.p (k-1))) r (k-1):=by
 obtain⟨h1,h2,h3⟩:=mU.add hT hU h.sub (show k-1<T.n by omega) hp
 refine⟨h1,fun j hj hn=>h3 _ (h.fst j hj hn),fun hr hn => ?_⟩
 by_cases e:k<=r
 ·exact h3 _ (h.Yk e hn)
 obtain rfl:r=k-1:=by omega
 exact h2
theorem C8.skip{r k:Nat}(hT:T.ok)(h:C8 T U r k)(hk:0<k)(hkn:k<=T.n)(hp : ¬ T.p (k-1)=0)(hq:U.has (T.p (k-1))=false):C8 T U r (k-1):=by
 refine⟨h.sub,h.fst,fun hr hn => ?_⟩
 by_cases e:k<=r
 ·exact h.Yk e hn
 obtain rfl:r=k-1:=by omega
 rcases hT.par (k-1) (by omega)with h1|⟨i,hi,h1⟩
 ·exact absurd h1 hp
 rw[<- h1,h.fst i hi (by omega)]at hq; cases hq
theorem C8.next{r:Nat}(h:C8 T U r 0):C8 T U (r+1) T.n :=
 ⟨h.sub,fun j hj hn=>by
  by_cases e:j=r
  ·subst e; exact h.Yk (Nat.zero_le _) hn
  ·exact h.fst j (by omega) hn,fun h1 h2=>by omega⟩
theorem C8.all{r k:Nat}(h:C8 T U r k)(hr:T.n<=r) : ∀ k,T.has k=true->U.has k=true:=fun k hk=>by
 obtain⟨j,hj,rfl⟩:=dW hk
 exact h.fst j (by omega) hj
theorem C8.path{r k:Nat}(h:C8 T U r k)(hr:T.n<=r)(q:Int):U.path q=T.path q:=h.sub.same (h.all hr) q
theorem C8.list{r k:Nat}(h:C8 T U r k)(hr:T.n<=r){l m:List Int}(hl:l.Pairwise (· < ·) /\ ∀ k,k∈l<->T.has k=true)(hm:m.Pairwise (· < ·) /\ ∀ k,k∈m<->U.has k=true):m=l :=
 ql hm.1 hl.1 fun k=>(hm.2 k).trans (Iff.trans ⟨h.sub.has k,h.all hr k⟩ (hl.2 k).symm)
end
def IB(l:List Int)(v:Int)(n:Nat)(b:Bool):Prop:=b=true <-> ∃ j,j<n/\j<l.length/\l.getD j 0=v
theorem IB.zero(l:List Int)(v:Int):IB l v 0 false:=⟨fun h=>(nomatch h),fun⟨j,h,_⟩=>absurd h (Nat.not_lt_zero _)⟩
theorem IB.keep{l:List Int}{v:Int}{n:Nat}(h:IB l v n true):IB l v (n+1) true:=⟨fun _=>by obtain⟨j,h1,h2⟩:=h.1 rfl; exact⟨j,by omega,h2⟩,fun _=>rfl⟩
theorem IB.yes{l:List Int}{v:Int}{n:Nat}(hn:n<l.length)(e:l.getD n 0=v):IB l v (n+1) true:=⟨fun _=>⟨n,by omega,hn,e⟩,fun _=>rfl⟩
theorem IB.no{l:List Int}{v:Int}{n:Nat}(h:IB l v n false)(e : ¬ l.getD n 0=v):IB l v (n+1) false:=⟨fun h=>(nomatch h),fun⟨j,h1,h2,h3⟩=>by
 by_cases ej:j=n
 ·subst ej; exact absurd h3 e
 ·exact h.2 ⟨j,by omega,h2,h3⟩⟩
theorem IB.mem{l:List Int}{v:Int}{n:Nat}{b:Bool}(h:IB l v n b)(hn:l.length<=n):b=true<->v∈l:=by
 constructor
 ·intro hb
  obtain⟨j,_,h1,h2⟩:=h.1 hb
  exact mQ h1 h2
 intro hm
 obtain⟨j,hj,e⟩:=List.getElem_of_mem hm
 refine h.2 ⟨j,by omega,hj,?_⟩
 rw[List.getD_eq_getElem?_getD,List.getElem?_eq_getElem hj]; exact e
end Rt
end Go.Proofs.YtahbiajdgealnaaDoor
namespace Go.Proofs.YtahbiajdgealnaaDoor
open Go.RowKit Go
set_option linter.unusedVariables false
namespace Rt
def Na(x:Nat->Int)(v:Int)(j aq:Nat):Prop:=(aq=0 /\ ∀ q,q<j->x q≠v)\/(0<aq/\aq<=j/\x (aq-1)=v)
section
variable {x:Nat->Int} {v:Int} {j aq:Nat}
theorem Na.zero:Na x v 0 0 := .inl ⟨rfl,fun _ h=>absurd h (Nat.not_lt_zero _)⟩
theorem Na.yes(e:x j=v):Na x v (j+1) (j+1) := .inr ⟨by omega,by omega,e⟩
theorem Na.no(h:Na x v j aq)(e : ¬ x j=v):Na x v (j+1) aq:=by
 rcases h with ⟨h1,h2⟩|⟨h1,h2,h3⟩
 ·refine .inl ⟨h1,fun q hq => ?_⟩
  by_cases eq:q=j
  ·subst eq; exact e
  exact h2 q (by omega)
 exact .inr ⟨h1,by omega,h3⟩
end
section
variable {x p:Nat->Int} {n:Nat}
theorem kN : ∀ {d:Nat} {v:Int},fI x p n d v -> ∀ k,k<(fK x p n d v).length->cK x n ((fK x p n d v).getD k 0)=true /\
 (k+1<(fK x p n d v).length->(fK x p n d v).getD (k+1) 0=fq x p n ((fK x p n d v).getD k 0))/\(k+1=(fK x p n d v).length->cK x n (fq x p n ((fK x p n d v).getD k 0))=false)
 | 0,v,h,k,hk=>absurd hk (Nat.not_lt_zero _)
 | d+1,v,h,k,hk=>by
   cases hv:cK x n v with
   | false=>rw[iH hv]at hk; exact absurd hk (Nat.not_lt_zero _)
   | true =>
     have e:fK x p n (d+1) v=v::fK x p n d (fq x p n v):=by show(if _ then _ else _)=_; rw[if_pos hv]
     have hs:fI x p n d (fq x p n v):=h hv
     have ih := @kN d (fq x p n v) hs
     have hd:0<(fK x p n d (fq x p n v)).length->(fK x p n d (fq x p n v)).getD 0 0=fq x p n v:=fun h0=>by
      cases d with
      | zero=>exact absurd h0 (Nat.not_lt_zero _)
      | succ d =>
        unfold fK at h0 ⊢
        split at h0
        ·rename_i hq; rw[if_pos hq]; rfl
        ·exact absurd h0 (Nat.not_lt_zero _)
     rw[e]at hk ⊢
     rw[List.length_cons]at hk ⊢
     cases k with
     | zero =>
       rw[List.getD_cons_zero,List.getD_cons_succ]
       refine⟨hv,fun h1=>hd (by omega),fun h1 => ?_⟩
       cases hq:cK x n (fq x p n v)with
       | false=>rfl
       | true =>
         obtain⟨e2,_,_,h5⟩:=ze hs hq
         rw[h5,List.length_cons]at h1; omega
     | succ k =>
       rw[List.getD_cons_succ,List.getD_cons_succ]
       have:=ih k (by omega)
       exact⟨this.1,fun h1=>this.2.1 (by omega),fun h1=>this.2.2 (by omega)⟩
end
section
variable {T:cu} {id pa k v:Int} {i j aq:Nat} {pl:List Int}
theorem Na.get(h:Na T.x v T.n aq)(hv:T.has v=true):0<aq/\aq-1<T.n/\T.x (aq-1)=v:=by
 rcases h with ⟨h1,h2⟩|⟨h1,h2,h3⟩
 ·obtain⟨q,hq,e⟩:=dW hv
  exact absurd e (h2 q hq)
 exact⟨h1,by omega,h3⟩
theorem cu.EH(h:T.ok)(e:pl=T.path v){q:Nat}(hq:q<pl.length):T.has (pl.getD q 0)=true:=by
 subst e; exact(kN (h.stop v) q hq).1
theorem cu.Nb(h:T.ok)(e:pl=T.path v){q:Nat}(hq:q+1<pl.length)(ha:aq-1<T.n)(hx:T.x (aq-1)=pl.getD q 0):T.p (aq-1)=pl.getD (q+1) 0:=by
 subst e
 have:=(kN (h.stop v) q (Nat.lt_of_succ_lt hq)).2.1 hq
 have h2:=cu.CZ h ha
 rw[hx]at h2
 exact h2.symm.trans this.symm
theorem cu.Nc(h:T.ok)(e:pl=T.path v){q:Nat}(hq:q+1=pl.length)(ha:aq-1<T.n)(hx:T.x (aq-1)=pl.getD q 0):T.p (aq-1)=0:=by
 subst e
 have h3:=(kN (h.stop v) q (Nat.lt_of_succ_le (Nat.le_of_eq hq))).2.2 hq
 have h2:=cu.CZ h ha
 rw[hx]at h2
 rw[show fq T.x T.p T.n ((fK T.x T.p T.n 4 v).getD q 0)=T.p (aq-1)from h2]at h3
 rcases h.par _ ha with h4|⟨i,hi,h4⟩
 ·exact h4
 rw[<- h4,fQ (by omega) rfl]at h3; cases h3
theorem cu.Sd(hid : ¬ id=0)(hp:pa=0\/T.has pa=true):T.err id pa=if T.has id=true then 14 else if 32<=T.n\/4<=(T.path pa).length then 6 else 0:=by
 show lJ T.x T.p T.n id pa=_
 unfold lJ
 rw[if_neg hid]
 have hc : ¬ (¬ pa=0/\cK T.x T.n pa=false):=by
  rintro ⟨h1,h2⟩
  rcases hp with h3|h3
  ·exact h1 h3
  ·rw[show cK T.x T.n pa=T.has pa from rfl,h3]at h2; cases h2
 rw[if_neg hc]; rfl
end
def Pg(v1 v2:Value):Prop := ∀ g,v1.ownBlock=some g->v2.ownBlock≠some g
section
variable {w w':World} {v v2:Value} {B s n g m c:Nat} {E:TypeId} {x:Nat->Value}
theorem Pg.symm(h:Pg v v2):Pg v2 v:=fun g h1 h2=>h g h2 h1
theorem Pg.nil:Pg (.slice none 0 0) v:=fun g h=>nomatch h
theorem Pg.app(h:Pg v v2)(hO:Fx.Own w B E s v n x)(hv:v2.ownBlock=some g\/g=w.heap.size):Pg v (.slice (some ⟨g,0,none⟩) m c):=fun q hq e=>by
 have e:some g=some q:=e
 obtain rfl:=Option.some.inj e
 rcases hv with h1|h1
 ·exact h _ hq h1
 ·have:=(hO.ge hq).2; omega
end
end Rt
end Go.Proofs.YtahbiajdgealnaaDoor
namespace Go.Proofs.YtahbiajdgealnaaDoor
open Go.RowKit Go
set_option linter.unusedVariables false
namespace Rt
def yD(n:Nat):Nat->List Nat
 | 0 => []
 | j+1=>yD n j ++ [n-1-j]
theorem FW(n:Nat) : ∀ j,(yD n j).length=j
 | 0=>rfl
 | j+1=>by unfold yD; rw[List.length_append,FW n j]; rfl
def DK(T:cu)(l:List Int)(xs:List Nat):cu:=xs.foldl (fun U x=>U.add (l.getD x 0) (T.par (l.getD x 0))) cu.zero
theorem xU(T:cu)(l:List Int)(xs:List Nat)(x:Nat):DK T l (xs ++ [x])=(DK T l xs).add (l.getD x 0) (T.par (l.getD x 0)):=by unfold DK; rw[List.foldl_append]; rfl
def iC(l ll:List Int)(U:cu):Nat->cu
 | 0=>U
 | i+1=>if ll.getD i 0∈l then iC l ll U i else(iC l ll U i).add (ll.getD i 0) 0
section
variable {T U:cu} {l ll:List Int} {id pa k v:Int} {i j n:Nat}
theorem has_lt(hU:U.ok)(h : ∀ k,U.has k=true->T.has k=true)(hx:T.has v=true)(hn:U.has v=false):U.n<T.n:=by
 obtain⟨i,hi,rfl⟩:=dW hx
 have each : ∀ j,∃ q,j<U.n->q<T.n/\T.x q=U.x j:=fun j=>by
  by_cases hj:j<U.n
  ·obtain⟨q,h1,h2⟩:=dW (h _ (cu.tF hj))
   exact⟨q,fun _=>⟨h1,h2⟩⟩
  ·exact⟨0,fun h=>absurd h hj⟩
 obtain⟨f,hf⟩:=Classical.axiomOfChoice each
 have:=uK T.n (U.n+1) (fun j=>if j=U.n then i else f j) (fun j hj=>by
  show(if j=U.n then i else f j)<T.n
  split
  ·exact hi
  ·exact(hf j (by omega)).1) (fun a b ha hb e=>by
  have ne : ∀ j,j<U.n->f j≠i:=fun j hj e=>by
   have h1:=(hf j hj).2
   rw[e]at h1
   rw[h1,cu.tF hj]at hn; cases hn
  have e:(if a=U.n then i else f a)=(if b=U.n then i else f b):=e
  by_cases h1:a=U.n
  ·by_cases h2:b=U.n
   ·omega
   ·rw[if_pos h1,if_neg h2]at e; exact absurd e.symm (ne b (by omega))
  ·by_cases h2:b=U.n
   ·rw[if_neg h1,if_pos h2]at e; exact absurd e (ne a (by omega))
   ·rw[if_neg h1,if_neg h2]at e
    have h3:=(hf a (by omega)).2
    have h4:=(hf b (by omega)).2
    rw[e]at h3
    exact hU.inj a b (by omega) (by omega) (h3.symm.trans h4))
 omega
theorem KH(hU:U.ok)(h : ∀ k,U.has k=true->T.has k=true):U.n<=T.n:=by
 have each : ∀ j,∃ q,j<U.n->q<T.n/\T.x q=U.x j:=fun j=>by
  by_cases hj:j<U.n
  ·obtain⟨q,h1,h2⟩:=dW (h _ (cu.tF hj))
   exact⟨q,fun _=>⟨h1,h2⟩⟩
  ·exact⟨0,fun h=>absurd h hj⟩
 obtain⟨f,hf⟩:=Classical.axiomOfChoice each
 exact uK T.n U.n f (fun q hq=>(hf q hq).1) fun a b ha hb e=>hU.inj a b ha hb (by rw[<- (hf a ha).2,<- (hf b hb).2,e])
structure BwI(T U:cu)(l:List Int)(j:Nat):Prop where
 ok:U.ok
 sub:mU U T
 has : ∀ x,l.length-j<=x->x<l.length->U.has (l.getD x 0)=true
 only : ∀ k,U.has k=true->k∈l
theorem KI(hT:T.ok)(hi:i<T.n):0<=T.x i/\T.x i<=18446744073709551615:=by have:=hT.pos i hi; omega
theorem Nf(U:cu)(id pa k:Int)(h:(U.add id pa).has k=true):U.has k=true\/k=id:=by
 unfold cu.add at h
 split at h
 ·rw[cu.gZ,Bool.or_eq_true]at h
  rcases h with h|h
  ·exact .inl h
  exact .inr (of_decide_eq_true h).symm
 exact .inl h
theorem KJ(hT:T.ok)(e:l=T.path pa) : ∀ j,j<=l.length->BwI T (DK T l (yD l.length j)) l j
 | 0,_=>⟨uo.zero _ _,mU.zero T,fun x h1 h2=>by omega,fun k h=>nomatch h⟩
 | j+1,hj=>by
   have ih:=KJ hT e j (by omega)
   have hx:l.length-1-j<l.length:=by omega
   have hv:T.has (l.getD (l.length-1-j) 0)=true:=cu.EH hT e hx
   obtain⟨i,hi,ei⟩:=dW hv
   have ep:T.par (l.getD (l.length-1-j) 0)=T.p i:=by rw[<- ei]; exact cu.CZ hT hi
   show BwI T (DK T l (yD l.length j ++ [l.length-1-j])) l (j+1)
   rw[xU,ep,<- ei]
   have hp:T.p i=0\/(DK T l (yD l.length j)).has (T.p i)=true:=by
    by_cases hl:l.length-1-j+1=l.length
    ·exact .inl (cu.Nc (aq:=i+1) hT e hl hi ei)
    ·have h2:=cu.Nb (aq:=i+1) hT e (show l.length-1-j+1<l.length by omega) hi ei
     have h2:T.p i=l.getD (l.length-1-j+1) 0:=h2
     right
     rw[h2]
     exact ih.has _ (by omega) (by omega)
   obtain⟨s1,s2,s3⟩:=mU.add hT ih.ok ih.sub hi hp
   refine⟨cu.Au ih.ok (KI hT hi),s1,fun x h1 h2 => ?_,fun k hk => ?_⟩
   ·by_cases ex:x=l.length-1-j
    ·rw[ex,<- ei]; exact s2
    ·exact s3 _ (ih.has x (by omega) h2)
   ·rcases Nf _ _ _ _ hk with h1|rfl
    ·exact ih.only k h1
    ·rw[ei]
     rw[List.getD_eq_getElem?_getD,List.getElem?_eq_getElem hx]; exact List.getElem_mem hx
structure Yl(T U:cu)(l ll:List Int)(i:Nat):Prop where
 ok:U.ok
 sub : ∀ k,U.has k=true->T.has k=true
 par : ∀ k,k∈l->U.has k=true/\U.par k=T.par k
 has : ∀ q,q<i->q<ll.length->U.has (ll.getD q 0)=true
 only : ∀ k,U.has k=true->k∈l \/ ∃ q,q<i/\q<ll.length/\ll.getD q 0=k
theorem Sg(hl:ll.Pairwise (· < ·)){a b:Nat}(ha:a<ll.length)(hb:b<ll.length)(e:ll.getD a 0=ll.getD b 0):a=b:=by
 rw[List.getD_eq_getElem?_getD,List.getD_eq_getElem?_getD,List.getElem?_eq_getElem ha,List.getElem?_eq_getElem hb]at e
 have e:ll[a]=ll[b]:=e
 rcases Nat.lt_trichotomy a b with h1|h1|h1
 ·have:=List.pairwise_iff_getElem.1 hl a b ha hb h1; omega
 ·exact h1
 have:=List.pairwise_iff_getElem.1 hl b a hb ha h1; omega
theorem KL(hT:T.ok)(hl:ll.Pairwise (· < ·) /\ ∀ k,k∈ll<->T.has k=true)(h0:Yl T U l ll 0) : ∀ i,i<=ll.length->Yl T (iC l ll U i) l ll i
 | 0,_=>h0
 | i+1,hi=>by
   have ih:=KL hT hl h0 i (by omega)
   unfold iC
   have hm:ll.getD i 0∈ll:=by rw[List.getD_eq_getElem?_getD,List.getElem?_eq_getElem (by omega)]; exact List.getElem_mem _
   have Ym:=(hl.2 _).1 hm
   by_cases c:ll.getD i 0∈l
   ·rw[if_pos c]
    refine⟨ih.ok,ih.sub,ih.par,fun q hq hq2 => ?_,fun k hk => ?_⟩
    ·by_cases e:q=i
     ·rw[e]; exact(ih.par _ c).1
     ·exact ih.has q (by omega) hq2
    ·rcases ih.only k hk with h1|⟨q,h1,h2,h3⟩
     ·exact .inl h1
     ·exact .inr ⟨q,by omega,h2,h3⟩
   ·rw[if_neg c]
    obtain⟨z,hz,ez⟩:=dW Ym
    have hb:=KI hT hz
    rw[ez]at hb
    have hpos:=hT.pos z hz
    rw[ez]at hpos
    have hno:(iC l ll U i).has (ll.getD i 0)=false:=by
     cases hh:(iC l ll U i).has (ll.getD i 0)with
     | false=>rfl
     | true =>
       rcases ih.only _ hh with h1|⟨q,h1,h2,h3⟩
       ·exact absurd h1 c
       ·have:=Sg hl.1 h2 (by omega) h3; omega
    have hlt:=has_lt ih.ok ih.sub Ym hno
    have hsm:=hT.small
    have e0:(iC l ll U i).err (ll.getD i 0) 0=0:=by
     rw[cu.Sd (by omega) (.inl rfl),if_neg (by rw[hno]; decide),if_neg]
     rw[cu.Sc ih.ok]
     rintro (h1|h1)
     ·omega
     ·simp at h1
    rw[cu.wJ e0]
    have hne : ∀ k,k∈l -> ¬ ll.getD i 0=k:=fun k hk e=>c (e ▸ hk)
    refine⟨by have:=cu.Au (pa:=0) ih.ok hb; rwa [cu.wJ e0]at this,fun k hk => ?_,fun k hk => ?_,fun q hq hq2 => ?_,fun k hk => ?_⟩
    ·rw[cu.gZ,Bool.or_eq_true]at hk
     rcases hk with hk|hk
     ·exact ih.sub k hk
     ·rw[<- of_decide_eq_true hk]; exact Ym
    ·rw[cu.gZ,cu.nN,if_neg (hne k hk),(ih.par k hk).1,Bool.true_or]
     exact⟨rfl,(ih.par k hk).2⟩
    ·rw[cu.gZ]
     by_cases e:q=i
     ·rw[e,decide_eq_true rfl,Bool.or_true]
     ·rw[ih.has q (by omega) hq2,Bool.true_or]
    ·rw[cu.gZ,Bool.or_eq_true]at hk
     rcases hk with hk|hk
     ·rcases ih.only k hk with h1|⟨q,h1,h2,h3⟩
      ·exact .inl h1
      ·exact .inr ⟨q,by omega,h2,h3⟩
     ·exact .inr ⟨i,by omega,by omega,of_decide_eq_true hk⟩
theorem zL(hd : ∀ k,U.has k=T.has k) : ∀(d:Nat) (k:Int),(∀ q,q∈fK T.x T.p T.n d k->U.par q=T.par q)->fK U.x U.p U.n d k=fK T.x T.p T.n d k
 | 0,_,_=>rfl
 | d+1,k,h=>by
   have e1:cK U.x U.n k=cK T.x T.n k:=hd k
   cases hk:cK T.x T.n k with
   | false=>rw[iH hk,iH (e1.trans hk)]
   | true =>
     have e2:fK T.x T.p T.n (d+1) k=k::fK T.x T.p T.n d (fq T.x T.p T.n k):=by show(if _ then _ else _)=_; rw[if_pos hk]
     have e3:fK U.x U.p U.n (d+1) k=k::fK U.x U.p U.n d (fq U.x U.p U.n k):=by show(if _ then _ else _)=_; rw[if_pos (e1.trans hk)]
     rw[e2]at h
     have h4:fq U.x U.p U.n k=fq T.x T.p T.n k:=h k (List.mem_cons_self ..)
     rw[e2,e3,h4,zL hd d _ fun q hq=>h q (List.mem_cons_of_mem _ hq)]
theorem Ng(hT:T.ok)(e:l=T.path pa)(hl:ll.Pairwise (· < ·) /\ ∀ k,k∈ll<->T.has k=true):(iC l ll (DK T l (yD l.length l.length)) ll.length).err id pa=T.err id pa:=by
 have hb:=KJ hT e l.length (Nat.le_refl _)
 have hget : ∀ k,k∈l -> ∃ x,x<l.length/\l.getD x 0=k:=fun k hk=>by
  obtain⟨x,hx,ex⟩:=List.getElem_of_mem hk
  exact⟨x,hx,by rw[List.getD_eq_getElem?_getD,List.getElem?_eq_getElem hx]; exact ex⟩
 have h0:Yl T (DK T l (yD l.length l.length)) l ll 0:=⟨hb.ok,hb.sub.has,fun k hk=>by
  obtain⟨x,hx,rfl⟩:=hget k hk
  have:=hb.has x (by omega) hx
  exact⟨this,hb.sub.par _ this⟩,fun q hq=>by omega,fun k hk => .inl (hb.only k hk)⟩
 have hr:=KL hT hl h0 ll.length (Nat.le_refl _)
 generalize iC l ll (DK T l (yD l.length l.length)) ll.length=V at hr
 have hd : ∀ k,V.has k=T.has k:=fun k=>by
  cases h1:T.has k with
  | false =>
    cases h2:V.has k with
    | false=>rfl
    | true=>rw[hr.sub k h2]at h1; cases h1
  | true =>
    obtain⟨q,hq,eq⟩:=List.getElem_of_mem ((hl.2 k).2 h1)
    have:=hr.has q hq hq
    rw[List.getD_eq_getElem?_getD,List.getElem?_eq_getElem hq]at this
    rw[<- eq]; exact this
 have hn:V.n=T.n:=by
  have h1:=KH hr.ok hr.sub
  have h2:=KH hT (fun k hk=>by rw[hd]; exact hk : ∀ k,T.has k=true->V.has k=true)
  omega
 have hp:V.path pa=T.path pa:=zL hd 4 pa fun q hq=>(hr.par q (by rw[e]; exact hq)).2
 show lJ V.x V.p V.n id pa=lJ T.x T.p T.n id pa
 unfold lJ
 have hp':fK V.x V.p V.n 4 pa=fK T.x T.p T.n 4 pa:=hp
 rw[show cK V.x V.n id=cK T.x T.n id from hd id,show cK V.x V.n pa=cK T.x T.n pa from hd pa,hp',hn]
end
end Rt
end Go.Proofs.YtahbiajdgealnaaDoor
namespace Go.Proofs.YtahbiajdgealnaaDoor
open Go.RowKit Go
set_option linter.unusedVariables false
namespace Fx
abbrev pV:=Exit->(Nat->Value)->List Deferred->World->Prop
def KM(n:Nat)(Q:pV):Exit->Act->World->Prop:=fun e a w => ∃ f,rR a n f/\Q e f a.defers w
def W0(ro:Option Nat)(m:Nat)(P:Program)(n:Nat)(c:Code)(Q:pV)(f:Nat->Value)(ds:List Deferred)(w:World):Prop := ∀ a,rR a n f->a.defers=ds->c.wpIn (FR ro) m P (KM n Q) a w
def KN(ro:Option Nat)(m:Nat)(P:Program)(n:Nat)(y:Code)(Q:pV):pV:=fun e f ds w=>match e with | .normal=>W0 ro m P n y Q f ds w|e=>Q e f ds w
def tJ(id:Nat)(Q:pV):pV:=fun e f ds w=>match e with | .exit id'=>if id'=id then Q .normal f ds w else Q (.exit id') f ds w|e=>Q e f ds w
def EI(I:(Nat->Value)->World->Prop)(μ:(Nat->Value)->World->Nat)(k:Nat)(ds:List Deferred)(Q:pV):pV:=fun e f ds' w=>match e with | .normal=>ds'=ds/\I f w/\μ f w<k|e=>Q e f ds' w
section
variable {ro:Option Nat} {m:Nat} {ds:List Deferred} {P:Program} {n:Nat} {Q:pV} {f:Nat->Value} {w:World}
theorem W0.seq{x y:Code}(h:W0 ro m P n x (KN ro m P n y Q) f ds w):W0 ro m P n (.seq x y) Q f ds w:=fun a ha hd =>
 wpIn_seq (wpIn_mono (h a ha hd) fun e a' w' hq=>by
  obtain⟨f',hf',hq⟩:=hq
  cases e <;> first|exact hq a' hf' rfl|exact⟨f',hf',hq⟩)
theorem W0.skip(h:Q .normal f ds w):W0 ro m P n .skip Q f ds w:=fun _ ha hd=>wpIn_skip ⟨f,ha,hd ▸ h⟩
theorem W0.ret(h:Q .ret f ds w):W0 ro m P n .ret Q f ds w:=fun _ ha hd=>wpIn_ret ⟨f,ha,hd ▸ h⟩
theorem W0.exit{id:Nat}(h:Q (.exit id) f ds w):W0 ro m P n (.exit id) Q f ds w:=fun _ ha hd=>wpIn_exit ⟨f,ha,hd ▸ h⟩
theorem W0.block{id:Nat}{c:Code}(h:W0 ro m P n c (tJ id Q) f ds w):W0 ro m P n (.block id c) Q f ds w:=fun a ha hd =>
 wpIn_block (wpIn_mono (h a ha hd) fun e a' w' hq=>by
  obtain⟨f',hf',hq⟩:=hq
  cases e <;> first
   | exact⟨f',hf',hq⟩
   | (simp only[tJ]at hq; simp only[Exit.inBlock]; split at hq <;> rename_i hid <;> simp only[hid,if_true,if_false] <;> exact⟨f',hf',hq⟩))
theorem W0.cond{c:Operand}{x y:Code}{b:Bool}(hc:ev f c = .bool b)(ht:b=true->W0 ro m P n x Q f ds w)(hf:b=false->W0 ro m P n y Q f ds w):W0 ro m P n (.cond c x y) Q f ds w:=fun a ha hd =>
 wpIn_cond_split (t:=b) (by rw[ha.ev]; exact hc) (fun e=>ht e a ha hd) (fun e=>hf e a ha hd)
theorem W0.loop{c:Code}(I:(Nat->Value)->World->Prop)(μ:(Nat->Value)->World->Nat)(h0:I f w)(hr : ∀ f w,I f w->W0 ro m P n c (EI I μ (μ f w) ds Q) f ds w):W0 ro m P n (.loop c) Q f ds w:=fun a ha hd =>
 wpIn_loop (fun a w => ∃ f,rR a n f/\a.defers=ds/\I f w) (fun a w=>μ (fun i=>a.tmps.getD i undef) w) ⟨f,ha,hd,h0⟩ (fun a w hI=>by
  obtain⟨f,hf,hd,hI⟩:=hI
  have e:(fun i=>a.tmps.getD i undef)=f:=funext hf.get
  refine wpIn_mono (hr f w hI a hf hd) (fun e' a' w' hq => ?_)
  obtain⟨f',hf',hq⟩:=hq
  cases e' <;> first
   | exact⟨f',hf',hq⟩
   | (have e'':(fun i=>a'.tmps.getD i undef)=f':=funext hf'.get
      exact⟨⟨f',hf',hq.1,hq.2.1⟩,by rw[e,e'']; exact hq.2.2⟩))
theorem W0.list{id:Nat}{ops:List Oper}(h:L P n ops.toArray (fun e f w=>Q e f ds w) ops f w)(hn:ops.all gI=true:=by rfl):W0 ro m P n (.region id ops.toArray false) Q f ds w:=fun a ha hd =>
 za ha h hn fun e a' w' ⟨f',h1,h2,h3⟩=>⟨f',h1,by rw[h2,hd]; exact h3⟩
theorem kI{y:Code}(h:W0 ro m P n y Q f ds w):KN ro m P n y Q .normal f ds w:=h
theorem U8{id:Nat}{y:Code}(h:Q (.exit id) f ds w):KN ro m P n y Q (.exit id) f ds w:=h
theorem C9{id:Nat}(h:Q .normal f ds w):tJ id Q .normal f ds w:=h
theorem U9{id:Nat}(h:Q .normal f ds w):tJ id Q (.exit id) f ds w:=by simp only[tJ,if_true]; exact h
theorem Yn{I:(Nat->Value)->World->Prop}{μ:(Nat->Value)->World->Nat}{k id:Nat}(h:Q (.exit id) f ds w):EI I μ k ds Q (.exit id) f ds w:=h
theorem Va{I:(Nat->Value)->World->Prop}{μ:(Nat->Value)->World->Nat}{k:Nat}(h:I f w)(hm:μ f w<k):EI I μ k ds Q .normal f ds w:=⟨rfl,h,hm⟩
def Ph(P:Program)(m:Nat)(fn:Func)(R:Ending->World->Prop):pV:=fun e f ds w => ∀ a,rR a fn.ntmps f->a.defers=ds->bodyPostM (FR none) m P fn R e a w
theorem Si{g:FuncId}{fn:Func}{c:Code}{args:Array Value}{R:Ending->World->Prop}(m:Nat)(hf:P.funcs[g]? = some fn)(hb:fn.body=some c)(hn:fn.ntmps=n)(ha:Nat.ble args.size n=true)(h:W0 none m P n c (Ph P m fn R) (start args) [] w):Calls P g args w R:=by
 have ha':args.size<=n:=Nat.le_of_ble_eq_true ha
 refine(callsIn_wide (n:=m)).1 (callsIn_of_wp_marks (F:=FR none) hf hb trivial ?_ rfl)
 refine wpIn_mono (h _ ⟨?_,?_⟩ rfl) fun e a w' ⟨f',hf',hq⟩=>hq a (by rw[hn]; exact hf') rfl
 ·simp[hn]; omega
 intro i
 simp only[start,Array.getD_eq_getD_getElem?,Array.getElem?_append,Array.getElem?_replicate]
 by_cases hi:i<args.size
 ·simp[hi]
 rw[if_neg hi]
 split
 ·rw[Array.getElem?_eq_none (by omega)]; rfl
 rw[Array.getElem?_eq_none (by omega)]
theorem leaveD{fn:Func}{R:Ending->World->Prop}{D:Nat}{v:Value}(hK:w.heap[D]? = some (.deferred (some [])))(hv:(uf fn f).run P (w.putObj D (.deferred none)) = .ok v (w.putObj D (.deferred none)))(hR:R (.returned v) (w.putObj D (.deferred none))) :
 Ph P m fn R .ret f [{ target := .collected D,args := #[] }] w:=fun a ha hd=>leave1 ha hd hK hv hR
variable {ops:List Oper} {cs:List Nat} {S:World->World->Prop}
theorem R.Vb(hok:iL n ops=true)(hsel:Region.noSelect ops.toArray=true)(Vd:ops.all gI=true)(hS : ∀ w,S w w)(hT : ∀ a b c,S a b->S b c->S a c){aQ:List (Nat × Nat × List Nat)} : ∀(k:Nat) (rem:List Nat) (listed:Array Bool) (a:Act) (f:Nat->Value) (w:World),rem.length=k->listed.size=ops.length->Bf ops.toArray .any listed ->
 (∀ i,i∈rem<->i<ops.length/\listed.getD i false=false)->rem.Nodup->(rem.Pairwise fun i j=>kr ops cs aQ i j=true)->rR a n f->a.defers=ds->R P n ops cs S (fun e f w=>Q e f ds w) rem f w->wpAnyIn (FR ro) m P .any ops.toArray (KM n Q) k listed a w:=by
 intro k
 induction k with
 | zero =>
   intro rem listed a f w hl hsz lH hmem hnd hpw ha hds h
   have:rem = []:=List.eq_nil_of_length_eq_zero hl
   subst this
   refine⟨?_,f,ha,by rw[hds]; exact h⟩
   rw[List.eq_nil_iff_forall_not_mem]
   intro j hj
   obtain⟨h1,h2,_,_⟩:=dO hj
   exact absurd ((hmem j).2 ⟨h2,h1⟩) (by simp)
 | succ k ih =>
   intro rem listed a f w hl hsz lH hmem hnd hpw ha hds h
   refine⟨fun hr => ?_,fun j hj => ?_⟩
   ·cases rem with
    | nil=>simp at hl
    | cons r WW =>
      exfalso
      obtain⟨h1,h2⟩:=(hmem r).1 (List.mem_cons_self ..)
      have:r∈Region.ready .any ops.toArray listed:=by
       refine mem_ready.2 ⟨getD_in (by omega) h2,opAt ops r,by unfold opAt; rw[List.getElem?_toArray,List.getD_eq_getElem?_getD,List.getElem?_eq_getElem h1]; rfl,fun e he hb => ?_⟩
       have Mf:bM (opAt ops r) e.on=true:=by
        unfold bM; rw[Array.any_eq_true']; exact⟨e,he,by rw[hb,Nat.beq_refl]; rfl⟩
       have hlt:=(dJ hok h1).2.2.2 e.on Mf
       cases hle:listed.getD e.on false with
       | true=>rfl
       | false =>
         have hm:=(hmem e.on).2 ⟨by omega,hle⟩
         rcases List.mem_cons.1 hm with e1|e1
         ·omega
         ·have hp:=(List.pairwise_cons.1 hpw).1 _ e1
          unfold kr at hp
          rw[Mf]at hp; simp at hp
      rw[hr]at this; simp at this
   ·obtain⟨h1,h2,h3,h4⟩:=dO hj
    have hjm:=(hmem j).2 ⟨h2,h1⟩
    obtain⟨pre,post,rfl⟩:=List.append_of_mem hjm
    have hb:=bubble (P:=P) (cs:=cs) (S:=S) (Q:=fun e f w=>Q e f ds w) hok hsel hS hT h2 (l:=post) pre (fun i hi=>by
     obtain⟨h5,h6⟩:=(hmem i).1 (List.mem_append_left _ hi)
     have hne:i≠j:=fun e=>by
      subst e
      exact(List.nodup_append.1 hnd).2.2 i hi i (List.mem_cons_self ..) rfl
     have hp:kr ops cs aQ i j=true:=(List.pairwise_append.1 hpw).2.2 i hi j (List.mem_cons_self ..)
     unfold kr at hp
     rw[Bool.and_eq_true,Bool.or_eq_true]at hp
     have PS:bM (opAt ops j) i=false:=by
      cases hq:bM (opAt ops j) i with
      | false=>rfl
      | true=>have:=h4 i hq; rw[h6]at this; cases this
     refine⟨h5,hne,PS,by simpa using hp.1,?_⟩
     rcases hp.2 with hp|hp
     ·rw[Bool.and_eq_true,Bool.or_eq_true]at hp
      refine⟨hp.1,?_⟩
      rcases hp.2 with q|q
      ·rw[Bool.or_eq_true]at q
       exact q.elim (fun q => .inl (Nat.eq_of_beq_eq_true q)) (fun q => .inr (.inl q))
      ·rw[Bool.and_eq_true]at q
       exact .inr (.inr ⟨Nat.eq_of_beq_eq_true q.1,Nat.eq_of_beq_eq_true q.2⟩)
     ·exfalso
      rw[List.any_eq_true]at hp
      obtain⟨c,_,hc⟩:=hp
      rw[Bool.and_eq_true,Bool.and_eq_true]at hc
      obtain⟨m,hm⟩:=fD hc.2
      cases m with
      | zero=>unfold reach at hm; simp at hm; exact hne hm.symm
      | succ m =>
        unfold reach at hm
        rw[Bool.or_eq_true]at hm
        rcases hm with hm|hm
        ·simp at hm; exact hne hm.symm
        ·rw[h3]at hm
         simp only at hm
         rw[Array.any_eq_true']at hm
         obtain⟨e,he,hm⟩:=hm
         rw[Bool.and_eq_true]at hm
         have Mf:bM (opAt ops j) e.on=true:=by
          unfold bM; rw[Array.any_eq_true']; exact⟨e,he,by rw[hm.1,Nat.beq_refl]; rfl⟩
         have:=lH.reach _ _ hm.2 (h4 e.on Mf)
         rw[h6]at this; cases this) f w h
    have hperm:(pre++post).length=k:=by simp at hl ⊢; omega
    have hnd':(pre++post).Nodup:=by
     refine hnd.sublist ?_
     exact List.Sublist.append_left (List.sublist_cons_self ..) pre
    have PU:(pre++post).Pairwise fun i j=>kr ops cs aQ i j=true:=hpw.sublist (List.Sublist.append_left (List.sublist_cons_self ..) pre)
    have hmem' : ∀ i,i∈pre++post<->i<ops.length/\(listed.setIfInBounds j true).getD i false=false:=fun i=>by
     by_cases e:j=i
     ·subst e
      rw[set_self (by omega)]
      constructor
      ·intro hm
       exfalso
       have hd:=List.nodup_append.1 hnd
       rcases List.mem_append.1 hm with q|q
       ·exact hd.2.2 j q j (List.mem_cons_self ..) rfl
       ·exact(List.nodup_cons.1 hd.2.1).1 q
      ·intro q; cases q.2
     ·rw[gQ e,<- hmem i]
      simp only[List.mem_append,List.mem_cons]
      constructor
      ·rintro (q|q)
       ·exact .inl q
       ·exact .inr (.inr q)
      ·rintro (q|q|q)
       ·exact .inl q
       ·exact absurd q.symm e
       ·exact .inr q
    have next : ∀(v:Value) (w':World),R P n ops cs S (fun e f w=>Q e f ds w) (pre++post) (put f (opAt ops j).dst v) w'->wpAnyIn (FR ro) m P .any ops.toArray (KM n Q) k (listed.setIfInBounds j true) (a.put (opAt ops j).dst v) w':=fun v w' hR =>
     ih (pre++post) _ _ _ w' hperm (by simp[hsz]) (lH.set hj) hmem' hnd' PU (ha.put (by
      cases hd:(opAt ops j).dst with
      | none=>rfl
      | some d=>have:=((dJ hok h2).1 d hd).2; simpa [inn,Nat.blt_eq] using this) v) (by rw[put_defers]; exact hds) hR
    have hnj:gI (opAt ops j)=true:=by
     rw[List.all_eq_true]at Vd
     refine Vd _ ?_
     unfold opAt
     rw[List.getD_eq_getElem?_getD,List.getElem?_eq_getElem h2]
     exact List.getElem_mem h2
    unfold wpOpIn
    rw[h3]
    simp only
    rw[ha.yf]
    unfold R at hb
    rcases hb with ⟨q1,q2⟩|⟨q1,⟨q2,v,q3,q4⟩|⟨q2,q3⟩⟩
    ·rw[if_neg (by rw[q1]; decide)]; exact⟨fun _ _=>trivial,next _ _ q2⟩
    ·rw[if_pos q1]
     refine Out.wpIn (K:=fun v' w'=>v'=v/\w'=w) ha hnj (.inl ⟨v,w,q3 w (.inr (.inr rfl)),rfl,rfl⟩) ?_
     rintro v' w' ⟨rfl,rfl⟩
     exact next _ _ q4
    ·rw[if_pos q1]
     exact Out.wpIn ha hnj q3 fun v w' hk=>next v w' hk.2
theorem W0.bH{f:Nat->Value}{w:World}{id:Nat}(l:List Nat)(cs:List Nat)(S:World->World->Prop)(hS : ∀ w,S w w)(hT : ∀ a b c,S a b->S b c->S a c)(aQ:List (Nat × Nat × List Nat))(hm:P.follows .mixedOrders=true)(hok:iL n ops=true)(hsel:Region.noSelect ops.toArray=true)(hp:uh ops l=true)(hpp:qb ops cs aQ l=true)
 (h : ∀ w1,Below w.heap.size w w1->w1.heap.size=w.heap.size->R P n ops cs S (fun e f w=>Q e f ds w) l f w1) (hn:ops.all gI=true:=by rfl):W0 ro m P n (.region id ops.toArray true) Q f ds w:=fun a ha hd=>by
 refine wpIn_region_any hm ?_
 unfold uh at hp
 rw[Bool.and_eq_true,Bool.and_eq_true,Bool.and_eq_true,List.all_eq_true,List.all_eq_true]at hp
 obtain⟨⟨⟨p1,p2⟩,p3⟩,p4⟩:=hp
 have hlen:=Nat.eq_of_beq_eq_true p1
 have TP:l.Nodup:=of_decide_eq_true p3
 have:=R.Vb (ro:=ro) (m:=m) (ds:=ds) (P:=P) (Q:=Q) (aQ:=aQ) hok hsel hn hS hT ops.length l (Array.replicate ops.length false) a f { w with drawn:=w.drawn+1 } hlen (by simp) (Bf.start _ _ _) (fun i=>by
  have hg : ∀ i,(Array.replicate ops.length false).getD i false=false:=fun i=>getD_replicate_false _ _
  constructor
  ·intro hi; exact⟨by simpa [Nat.blt_eq] using p2 i hi,hg i⟩
  ·intro hi
   obtain⟨k,hk,hk2⟩:=List.any_eq_true.1 (p4 i (by simpa using hi.1))
   rw[Nat.eq_of_beq_eq_true hk2]; exact hk) TP (nH hpp) ha hd (h { w with drawn:=w.drawn+1 } (Below.refl _ _).drew rfl)
 simpa using this
end
end Fx
namespace Pj
def FX{β:Type}(J:β->World->Prop):Prop := ∀ s W W',J s W->W.grownBy W' none->J s W'
def Sj{α:Type}(F:Fence)(n:Nat)(P:Program)(g:Nat)(lb:Array Value)(encs:α->Array Value)(Kp:World->World->Prop)(S:List α->Prop)(N:Nat)(Ip:World->Prop):Prop :=
 ∀(l:Nat) (J:List α->World->Prop) (W:World),Ip W->FX J ->
  (∀ pre x W1,J pre W1->pre.length<N->YieldAt F (n-1) P l (encs x) W1 fun e W'=>e = .returned (.bool true)/\J (pre ++ [x]) W'/\Kp W1 W') ->
  J [] W ->
  CallsIn F n P g (#[.func (.yield l) #[] #[]]++lb) W fun e W'=>(∃ v,e = .returned v) /\ ∃ xs,S xs/\J xs W'
def EJ{β:Type}(B:Nat)(I:β->World->Prop):Prop :=
 ∀ s W W' row,I s W->W.grownBy W' row->(∀ r,row=some r->B<=r /\ ∃ o:Obj,W.heap[r]? = some o/\o.isCells=false)->I s W'
variable {F:Fence} {n:Nat} {P:Program}
theorem EJ.putObj{β:Type}{B:Nat}{I:β->World->Prop}(h:EJ B I){s:β}{W:World}{l:Nat}{o:Obj}(o':Obj)(hs:I s W)(hB:B<=l)(hl:W.heap[l]? = some o)(ho:o.isCells=false):I s (W.putObj l o') :=
 h s W _ (some l) hs (grownBy_putObj' W l o') (fun r e=>by cases e; exact⟨hB,o,hl,ho⟩)
theorem EJ.alloc{β:Type}{B:Nat}{I:β->World->Prop}(h:EJ B I){s:β}{W:World}(o:Obj)(hs:I s W):I s (W.alloc o) :=
 h s W _ none hs (World.grownBy_alloc W o none) (fun r e=>by cases e)
def KeepsFrom(B:Nat)(W W':World):Prop:=W.heap.size<=W'.heap.size /\ ∀ k,B<=k->k<W.heap.size->W'.heap[k]? = W.heap[k]?
def Ve{α:Type}(B:Nat)(Kp:World->World->Prop)(I:List α->World->Prop)(xs:List α)(W:World):Exit->Act->World->Prop
 | .normal,_,W'=>KeepsFrom B W W'/\Kp W W'/\I xs W'
 | _,_,_=>False
theorem vV{α:Type}{g:Operand}{ps:Array Tmp}{assign body:Code}{Q:Exit->Act->World->Prop}{a:Act}{w:World}
 (hro:F.round=none) (h1:1<=n) {gf:Nat} {lb:Array Value} (hg:a.eval g = .func (.func gf) #[] lb) (hFg:F.fn gf) (eg : ∀ args w,(callFunc gf args).run P w = .ok (.enter gf args) w)
 {encs:α->Array Value} {Kp:World->World->Prop} {S:List α->Prop} {N:Nat} {Ip:World->Prop} (hseq:Sj F (n-1) P gf lb encs Kp S N Ip)
 (TW:Ip w) (Ai : ∀ W o,w.heap.size<=W.heap.size->Ip W->Ip (W.alloc o))
 (hKt : ∀ {A B C:World},Kp A B->Kp B C->Kp A C) (hKb : ∀(W:World) (l:Nat) (o o':Obj),w.heap.size<=l->W.heap[l]? = some o->o.isCells=false->Kp W (W.putObj l o')) (hps : ∀ x,(encs x).size=ps.size)
 (I:List α->World->Prop) (hI:EJ w.heap.size I) (h0:I [] w) (A₁:α->Act->Prop)
 (hassign : ∀(l:Nat) (x:α) (W:World),assign.wpIn (F.inRound l) (n-1-1) P (Exit.then (fun a' W'=>A₁ x a'/\W'=W) (fun _ _ _=>False)) { tmps:=(ps.zip (encs x)).foldl (fun t (p,v)=>t.setIfInBounds p v) a.tmps,defers := [] } W)
 (hbody : ∀(l:Nat) (pre:List α) (x:α) (W:World) (a':Act),A₁ x a'->I pre W->pre.length<N->w.heap.size<=W.heap.size->body.wpIn (F.inRound l) (n-1-1) P (Ve w.heap.size Kp I (pre ++ [x]) W) a' W)
 (hdone : ∀(D:Nat) (xs:List α) (W:World),w.heap.size<=D->S xs->I xs W->W.heap[D]? = some (.deferred (some []))->Q .normal { a with defers := { target := .collected D,args := #[] }::a.defers } W) :
 (Code.rangeFunc g ps assign body).wpIn F n P Q a w:=by
 refine wpIn_rangeFunc ?_
 intro fn hfn
 rw[hro]
 obtain⟨rec,hrec⟩ : ∃ rec:LoopState->Option Code->Loop,rec=fun st pe => { state:=st,pending:=pe,fn,tmps:=a.tmps,params:=ps,assign,body,defers:=w.heap.size }:=⟨_,rfl⟩
 obtain⟨W1,hW1⟩ : ∃ W1,(w.alloc (.deferred (some []))).alloc (.loop (rec .ready none))=W1:=⟨_,rfl⟩
 have hL1:W1.heap[w.heap.size+1]? = some (.loop (rec .ready none)):=by
  rw[<- hW1]; have:=World.alloc_heap_new (w.alloc (.deferred (some []))) (.loop (rec .ready none)); rwa [World.size_alloc]at this
 have hK1:W1.heap[w.heap.size]? = some (.deferred (some [])):=by
  rw[<- hW1]; exact(Below.heap_alloc _ _ _ (by simp)).trans (World.alloc_heap_new w _)
 have hI1:I [] W1:=by rw[<- hW1]; exact hI.alloc _ (hI.alloc _ h0)
 have hp1:Ip W1:=by rw[<- hW1]; exact Ai _ _ (by simp) (Ai _ _ (Nat.le_refl _) TW)
 refine⟨w.heap.size+1,[{ target := .collected w.heap.size,args := #[] }],W1,{ target := .fn (.func gf) lb,args := #[.func (.yield (w.heap.size+1)) #[] #[]] },W1,gf,
  #[.func (.yield (w.heap.size+1)) #[] #[]]++lb,W1,?_,?_,?_,?_,fun _=>h1,?_⟩
 ·rw[<- hW1,hrec]; exact run_enterLoop_outer _ _ _ _ _
 ·simp only[resolve,hg]
  simp[go_sem]
 ·intro f' hf'; simp[Target.leads]at hf'; subst hf'; exact hFg
 ·simp[invoke,go_sem,eg]
 refine(hseq (w.heap.size+1)
  (fun pre W=>I pre W/\W.heap[w.heap.size+1]? = some (.loop (rec .ready none))/\W.heap[w.heap.size]? = some (.deferred (some [])))
  W1 hp1
  (fun s A B hs hg'=>⟨hI s A B none hs.1 hg' (fun r e=>nomatch e),(hg'.block _ (Array.getElem?_eq_some_iff.1 hs.2.1).1 (fun e=>nomatch e)).trans hs.2.1,(hg'.block _ (Array.getElem?_eq_some_iff.1 hs.2.2).1 (fun e=>nomatch e)).trans hs.2.2⟩)
  ?_ ⟨hI1,hL1,hK1⟩).mono ?_
 ·-- one round
  rintro pre x W ⟨hi,hl,hk⟩ hlen
  have hlt:w.heap.size+1<W.heap.size:=(Array.getElem?_eq_some_iff.1 hl).1
  have hy:=run_yield (P:=P) (args:=encs x) hl (by rw[hrec]; exact hps x)
  rw[hrec]at hy
  refine⟨fn,_,assign,body,hy,roundIn_of_wpIn hfn (wpIn_mono (hassign _ x W) ?_)⟩
  rintro e1 a1 w1 hq1
  cases e1 with
  | exit id=>exact hq1.elim
  | goto t=>exact hq1.elim
  | ret=>exact hq1.elim
  | panic ch=>exact hq1.elim
  | outgrown=>exact hq1.elim
  | normal =>
  obtain⟨hA1,ew⟩:=hq1
  rw[ew]
  refine⟨_,run_beginRound hl (by rw[hrec]),?_⟩
  have hl2:(W.putObj (w.heap.size+1) (.loop { rec .ready none with state := .busy })).heap[w.heap.size+1]? = some (.loop { rec .ready none with state := .busy }):=World.putObj_heap_same hlt
  have hk2:(W.putObj (w.heap.size+1) (.loop { rec .ready none with state := .busy })).heap[w.heap.size]? = some (.deferred (some [])):=(World.putObj_heap_other (by omega)).trans hk
  have hw2:Kp W (W.putObj (w.heap.size+1) (.loop { rec .ready none with state := .busy })):=hKb _ _ _ _ (by omega) hl rfl
  refine wpIn_mono (hbody _ pre x _ a1 hA1 (hI.putObj _ hi (by omega) hl rfl) hlen (by simp; omega)) ?_
  rintro e a3 W3 hp
  cases e with
  | normal =>
    obtain⟨hk3,hkp3,hi3⟩:=hp
    have hl3:=(hk3.2 _ (by omega) (Array.getElem?_eq_some_iff.1 hl2).1).trans hl2
    have Yo:=(hk3.2 _ (by omega) (Array.getElem?_eq_some_iff.1 hk2).1).trans hk2
    have hr:=run_endRound (P:=P) none hl3
    rw[hrec]at hr hl3
    refine⟨_,_,hr,rfl,⟨hI.putObj _ hi3 (by omega) hl3 rfl,?_,(World.putObj_heap_other (by omega)).trans Yo⟩,hKt (hKt hw2 hkp3) (hKb _ _ _ _ (by omega) hl3 rfl)⟩
    rw[hrec]; exact World.putObj_heap_same (Array.getElem?_eq_some_iff.1 hl3).1
  | ret=>exact hp.elim
  | exit id=>exact hp.elim
  | goto t=>exact hp.elim
  | panic ch=>exact hp.elim
  | outgrown=>exact hp.elim
 rintro e W2 ⟨⟨v,rfl⟩,xs,hS,hi,hl,hk⟩
 exact⟨none,_,by have:=run_endLoop (P:=P) hl (by rw[hrec]; simp); rw[hrec]at this; exact this,hdone _ xs _ (Nat.le_refl _) hS (hI.putObj _ hi (by omega) hl rfl) ((World.putObj_heap_other (by omega)).trans hk)⟩
end Pj
namespace Fx
theorem Da{a:Act}{n p q:Nat}{u v:Value}{f:Nat->Value}(h:rR a n f)(hp:p<n)(hq:q<n):rR { tmps:=(#[p,q].zip #[u,v]).foldl (fun t (p,v)=>t.setIfInBounds p v) a.tmps,defers := [] } n (put (put f (some p) u) (some q) v):=by
 have h1:=(h.put (d:=some p) (by simpa [inn,Nat.blt_eq] using hp) u).put (d:=some q) (by simpa [inn,Nat.blt_eq] using hq) v
 have e:(#[p,q].zip #[u,v]).foldl (fun t (p,v)=>t.setIfInBounds p v) a.tmps=((a.put (some p) u).put (some q) v).tmps:=by simp[Array.zip,Act.put]
 rw[e]; exact⟨h1.size,h1.get⟩
theorem W0.Sk{P:Program}{n m:Nat}{Q:pV}{f:Nat->Value}{ds:List Deferred}{w:World}{α:Type}{g:Operand}{p q:Tmp}{assign body:Code}{gf:Nat}{lb:Array Value}(h1:1<=m)(hg:ev f g = .func (.func gf) #[] lb)(eg : ∀ args w,(callFunc gf args).run P w = .ok (.enter gf args) w)
 {eu Yp:α->Value} {Kp:World->World->Prop} {S:List α->Prop} {N:Nat} {Ip:World->Prop} (hseq:Pj.Sj (FR none) (m-1) P gf lb (fun x => #[eu x,Yp x]) Kp S N Ip)
 (TW:Ip w) (Ai : ∀ W o,w.heap.size<=W.heap.size->Ip W->Ip (W.alloc o)) (hKt : ∀ {A B C:World},Kp A B->Kp B C->Kp A C) (hKb : ∀(W:World) (l:Nat) (o o':Obj),w.heap.size<=l->W.heap[l]? = some o->o.isCells=false->Kp W (W.putObj l o')) (hp:p<n) (hq:q<n)
 (I:List α->World->Prop) (hI:Pj.EJ w.heap.size I) (h0:I [] w) (A:α->(Nat->Value)->Prop)
 (hassign : ∀(l:Nat) (x:α) (W:World),W0 (some l) (m-1-1) P n assign (fun e f' ds' W'=>e = .normal/\ds' = []/\A x f'/\W'=W) (put (put f (some p) (eu x)) (some q) (Yp x)) [] W)
 (hbody : ∀(l:Nat) (pre:List α) (x:α) (W:World) (f':Nat->Value),A x f'->I pre W->pre.length<N->w.heap.size<=W.heap.size->W0 (some l) (m-1-1) P n body (fun e f'' ds' W'=>e = .normal/\Pj.KeepsFrom w.heap.size W W'/\Kp W W'/\I (pre ++ [x]) W') f' [] W)
 (hdone : ∀(D:Nat) (xs:List α) (W:World),w.heap.size<=D->S xs->I xs W->W.heap[D]? = some (.deferred (some []))->Q .normal f ({ target := .collected D,args := #[] }::ds) W):W0 none m P n (.rangeFunc g #[p,q] assign body) Q f ds w:=fun a ha hd=>by
 refine Pj.vV (F:=FR none) rfl h1 (by rw[ha.ev]; exact hg) trivial eg hseq TW Ai hKt hKb (fun _=>rfl) I hI h0 (fun x a' => ∃ f',rR a' n f'/\a'.defers = []/\A x f') ?_ ?_ ?_
 ·intro l x W
  refine wpIn_mono (hassign l x W _ (Da ha hp hq) rfl) ?_
  rintro e a' w' ⟨f',hf',rfl,h2,h3,rfl⟩
  exact⟨⟨f',hf',h2,h3⟩,rfl⟩
 ·rintro l pre x W a' ⟨f',hf',h2,h3⟩ hi hl hs
  refine wpIn_mono (hbody l pre x W f' h3 hi hl hs a' hf' h2) ?_
  rintro e a'' w' ⟨f'',aeC,rfl,h4⟩
  exact h4
 ·intro D xs W h2 h3 h4 h5
  refine⟨f,⟨ha.size,ha.get⟩,?_⟩
  show Q .normal f (_::a.defers) W
  rw[hd]; exact hdone D xs W h2 h3 h4 h5
end Fx
end Go.Proofs.YtahbiajdgealnaaDoor
namespace Go.Proofs.YtahbiajdgealnaaDoor
open Go.RowKit Rt
open Fx (ah aj au ak aJ aA aO eZ av bF dI aK x_len dw bX dn bG Lv sN Ln Ws Qv Wl Rp Wc Qs Wr Sb Lk Wk rC rV sR)
set_option maxRecDepth 20000
namespace Rt
structure FY(sb:Nat)(v:Value)(W W':World):Prop where
 size:W.heap.size<=W'.heap.size
 b:W'.heap[sb]? = W.heap[sb]?
 g : ∀ g,v.ownBlock=some g->W'.heap[g]? = W.heap[g]?
theorem FY.trans{sb:Nat}{v:Value}{A B C:World}(h:FY sb v A B)(k:FY sb v B C):FY sb v A C:=⟨Nat.le_trans h.size k.size,k.b.trans h.b,fun g hg=>(k.g g hg).trans (h.g g hg)⟩
theorem FY.put{sb B:Nat}{v:Value}(hs:sb<B)(hv : ∀ g,v.ownBlock=some g->g<B)(W:World)(l:Nat)(o o':Obj)(hl:B<=l):FY sb v W (W.putObj l o'):=⟨by simp,World.putObj_heap_other (by omega),fun g hg=>World.putObj_heap_other (by have:=hv g hg; omega)⟩
theorem FY.bP{sb mb:Nat}{v:Value}{W W':World}(h:Fx.Stp mb W W')(h1:sb<W.heap.size)(h2:sb≠mb)(hv : ∀ g,v.ownBlock=some g->g<W.heap.size/\g≠mb):FY sb v W W':=⟨h.size,h.block sb h1 h2,fun g hg=>h.block g (hv g hg).1 (hv g hg).2⟩
theorem Sl{sb n c s:Nat}{a:Option Addr}{x:Nat->Value}{W W':World}(hA:Fx.qB W a n s x)(hs:0<s)(k:FY sb (.slice a n c) W W'):Fx.qB W' a n s x:=fun h0=>by
 obtain⟨b,off,e,hc⟩:=hA h0
 refine⟨b,off,e,fun i hi => ?_⟩
 have h1:=hc i hi
 have h2:=k.g b (by rw[e]; rfl)
 unfold World.cell? at h1 ⊢
 rw[h2]; exact h1
def Wh(sb:Nat)(a:Option Addr)(n c:Nat)(l:List Int)(W:World):Prop:=Fx.aP W sb 1 (fun _ => .slice a n c) 53/\Fx.qB W a n 1 (mP l)
theorem Wh.alloc{sb n c:Nat}{a:Option Addr}{l:List Int}{W:World}(h:Wh sb a n c l W)(o:Obj):Wh sb a n c l (W.alloc o) :=
 ⟨(Below.heap_alloc W o sb h.1.lt).trans h.1,fun h0=>by
   obtain⟨b,off,e,hc⟩:=h.2 h0
   refine⟨b,off,e,fun i hi => ?_⟩
   have h1:=hc i hi
   have h2:=Below.heap_alloc W o b (block_lt_of_cell h1)
   unfold World.cell? at h1 ⊢
   rw[h2]; exact h1⟩
theorem KO{tp mb B:Nat}{w3:World}{F:List Nat->cu}(h1:tp<w3.heap.size)(h2:mb<w3.heap.size):Pj.EJ w3.heap.size (fun(xs:List Nat) W=>mD W B tp mb (F xs)/\Fx.Stp mb w3 W):=fun s W W' row hs hg hr=>by
 have keep : ∀ k,k<w3.heap.size->W'.heap[k]? = W.heap[k]? := fun k hk=>hg.block k (Nat.lt_of_lt_of_le hk hs.2.size) fun e=>by
  have:=(hr k e.symm).1; omega
 exact⟨mD.keep hs.1 (keep tp h1) (keep mb h2),⟨hg.os.trans hs.2.os,hg.tape.trans hs.2.tape,hg.output.trans hs.2.output,Nat.le_trans hs.2.size hg.size,fun k hk hne=>(keep k hk).trans (hs.2.block k hk hne)⟩⟩
theorem Nh{w:World}{B E s n b m:Nat}{v:Value}{x:Nat->Value}{k:Nat->Int}{y:Nat->Value}(hO:Fx.Own w B E s v n x)(hM:Fx.Mp w b m k y){g:Nat}(hg:v.ownBlock=some g):g<w.heap.size/\g≠b:=⟨(hO.ge hg).2,fun e=>hM.kU (by rw[<- e]; exact hO.ty hg)⟩
theorem Sm{T:cu}{k:Int}(h : ∀ i,i<T.n->T.x i≠k):T.par k=0:=by
 have : ∀ n,(∀ i,i<n->T.x i≠k)->fq T.x T.p n k=0:=fun n=>by
  induction n with
  | zero=>exact fun _=>rfl
  | succ n ih=>exact fun h=>by unfold fq; rw[if_neg (h n (by omega))]; exact ih fun i hi=>h i (by omega)
 exact this _ h
structure JB(J:List Nat->World->Prop)(pre:List Nat)(w:World):Prop where
 ab:Pj.FX J
 j:J pre w
end Rt
theorem Yq(a:Option Addr)(n c:Nat)(w:World) :
 Calls Tryd.prog 168 #[.slice a (n) (c)] w fun e w' => ∃ sb,e = .returned (.func (.func 179) #[] #[(pt sb)])/\w.heap.size<=sb/\Fx.aP w' sb 1 (fun _ => .slice a n c) 53/\Below w.heap.size w w':=by
 refine Fx.enter Tryd.func168 rfl (n:=4) rfl (by rfl) ?_
 refine Ws (Wl (Fx.L.box (m:=1) (y:=fun _ => .slice a (n) (c)) (by rfl) rfl rfl (Fx.cells_one (by rfl)) rfl fun g1 w1 aZ m1 s1 z1 => ?_))
 have b1:=s1.below (Below.refl w.heap.size w) (Below.refl w.heap.size w).size (Below.refl w.heap.size w).size
 have kM:w.heap.size<=g1:=by rw[aZ]; exact(Below.refl w.heap.size w).size
 have mO:g1<w1.heap.size:=m1.lt
 clear aZ
 refine Lv (.nilFunc) (aj rfl rfl) (Ln (sN (Ws (Wl (Lv (.func (.func 179) #[] #[(pt g1)]) (Fx.jf (us := []) (vs := [(pt g1)]) rfl rfl rfl) (Lv (.func (.func 179) #[] #[(pt g1)]) (aj rfl rfl) (Ln (sN (Wr (⟨.func (.func 179) #[] #[(pt g1)],rV Tryd.results168 (by exact rfl),?_⟩))))))))))
 exact⟨g1,rfl,kM,m1,b1⟩
theorem Vf(J:List Nat->World->Prop)(ly sb c:Nat)(a:Option Addr)(l:List Int)(w:World)(hb:Fx.aP w sb 1 (fun _ => .slice a (l.length) (c)) 53)(hA:Fx.qB w a l.length 1 (mP l))(hJ:JB J [] w)(hl:l.length<=1000)
 (hY : ∀ pre x W1,J pre W1->pre.length<l.length->Go.YieldAt (Fx.FR none) 1 Tryd.prog ly #[.int .i64 (x:Nat),.int .u64 (l.getD x 0)] W1 fun e W'=>e = .returned (.bool true)/\J (pre ++ [x]) W'/\FY sb (.slice a l.length c) W1 W') :
  Calls Tryd.prog 179 #[.func (.yield ly) #[] #[],(pt sb)] w fun e w'=>(∃ v,e = .returned v) /\ ∃ xs,xs=yD l.length l.length/\J xs w':=by
 have lsb:=hb.lt
 have hJ:JB J (yD l.length (l.length-l.length)) w:=by rw[Nat.sub_self]; exact hJ
 refine Fx.enter Tryd.func179 rfl (n:=19) rfl (by rfl) ?_
 refine Ws (Wl (Lv (.slice a (l.length) (c)) (ak (x:=fun _ => .slice a (l.length) (c)) rfl rfl (by kernel_rfl) hb.aL (i:=0) (by omega) (by omega) rfl) (Lv (.int .i64 ((l.length:Int))) (x_len rfl rfl rfl (by kernel_rfl)) (Lv (.int .i64 ((l.length:Int)-1)) (Fx.bD rfl rfl rfl Fx.io) (Lv (.int .i64 ((l.length:Int)-1)) (aj rfl rfl) (Ln (sN (Fx.W.block (Fx.W.loop (fun f w_ => ∃ k:Nat,k<=l.length/\f 0 = .func (.yield ly) #[] #[]/\f 1=(pt sb)/\f 3 = .int .i64 ((k:Int)-1)/\Fx.aP w_ sb 1 (fun _ => .slice a (l.length) (c)) 53/\Fx.qB w_ a l.length 1 (mP l)/\JB J (yD l.length (l.length-k)) w_) (fun f _=>(intOf (f 3)+1).toNat) ⟨l.length,(Nat.le_refl _),(by rfl),(by rfl),Fx.ic,hb,hA,hJ⟩ ?_)))))))))
 rintro f1 w1 ⟨k,hk,h1,h2,h3,m1,m2,m3⟩
 refine Ws (Ws (Wl (Lv (.int .i64 ((k:Int)-1)) (ah rfl h3) ?_)))
 by_cases c8:0<=((k:Int)-1)
 ·refine Lv (.bool true) (Fx.gV rfl rfl rfl c8) (Ln (sN (Wc (b:=true) rfl (fun _=>Wk (sN (Ws (Fx.W.block (Ws (Fx.W.OC 2 ?_)))))) (fun h=>nomatch h))))
  refine Fx.Ly.v (.func (.yield ly) #[] #[]) (ah rfl h1) ?_
  refine Fx.Ly.v (.int .i64 ((k:Int)-1)) (ah rfl h3) ?_
  refine Fx.Ly.v (.slice a (l.length) (c)) (ak (x:=fun _ => .slice a (l.length) (c)) rfl h2 (by kernel_rfl) m1.aL (i:=0) (by omega) (by omega) rfl) ?_
  refine Fx.Ly.v (.int .i64 ((k:Int)-1)) (ah rfl h3) ?_
  obtain⟨Wi,Yr,eq1,m4⟩:=m2 (by omega)
  refine Fx.Ly.v ((pf Wi (k+Yr-1))) (av rfl (rfl.trans (congrArg (fun q=>Value.slice q (l.length) (c)) eq1)) rfl Tryd.underlying53 (s:=1) (by kernel_rfl) (by omega) (by omega) (by omega)) ?_
  refine Fx.Ly.v (.int .u64 (l.getD (k-1) 0)) (ak (x:=mP l) rfl rfl (by kernel_rfl) m4 (i:=k-1) (by omega) (by omega) rfl) ?_
  refine Fx.Ly.yield (l:=ly) (args := [.int .i64 ((k:Int)-1),.int .u64 (l.getD (k-1) 0)]) rfl rfl rfl (Fx.args2 rfl rfl) rfl (by have:=hY (yD l.length (l.length-k)) (k-1) _ m3.j (by rw[FW]; omega); rw[show(((k-1:Nat)):Int)=(k:Int)-1 by omega]at this; exact this) ?_
  rintro e9 w2 ⟨rfl,Xb,hk1⟩
  refine⟨.bool true,rfl,?_⟩
  have m5:Fx.aP w2 sb 1 (fun _ => .slice a (l.length) (c)) 53:=hk1.b.trans m1
  have m6:Fx.qB w2 a l.length 1 (mP l):=Sl m2 (by decide) hk1
  have m7:JB J (yD l.length (l.length-(k-1))) w2:=⟨m3.ab,by rw[show l.length-(k-1)=(l.length-k)+1 by omega]; unfold yD; rw[show l.length-1-(l.length-k)=k-1 by omega]; exact Xb⟩
  refine Fx.Ly.v (.bool false) (Fx.dZ rfl rfl) ?_
  refine Fx.Ly.nil ?_
  refine sN (Wc (b:=false) rfl (fun h=>nomatch h) (fun _=>Wk (Fx.dV (sN (Wl (Lv (.int .i64 ((k:Int)-1)) (ah rfl h3) (Lv (.int .i64 ((k:Int)-2)) (Fx.bD rfl rfl rfl Fx.io) (Lv (.int .i64 ((k:Int)-2)) (aj rfl rfl) (Ln (Fx.kg ⟨k-1,(by omega),h1,h2,Fx.ic,m5,m6,m7⟩ ?_))))))))))
  show(intOf ((.int .i64 ((k:Int)-2)))+1).toNat<_
  simp only[h3,intOf]; omega
 refine Lv (.bool false) (Fx.eY rfl rfl rfl c8) (Ln (sN (Wc (b:=false) rfl (fun h=>nomatch h) (fun _=>Fx.W.exit (Fx.dQ (Fx.jC (Fx.dR (⟨.tuple #[],Fx.jS Tryd.results179,?_⟩))))))))
 exact⟨⟨_,rfl⟩,_,rfl,by have:=m3.j; rw[show l.length-k=l.length by omega]at this; exact this⟩
theorem Sn(sb c:Nat)(a:Option Addr)(l:List Int)(hl:l.length<=1000) :
 Pj.Sj (Fx.FR none) 2 Tryd.prog 179 #[(pt sb)] (fun x:Nat => #[.int .i64 (x:Int),.int .u64 (l.getD x 0)]) (FY sb (.slice a l.length c)) (fun xs=>xs=yD l.length l.length) l.length (Wh sb a l.length c l) :=
 fun ly J W ⟨hb,hA⟩ hab hY h0=>callsIn_wide.2 (Vf J ly sb c a l W hb hA ⟨hab,h0⟩ hl hY)
namespace Rt
theorem FZ{l:List Int}{T:cu}(hT:T.ok)(h : ∀ k,k∈l->T.has k=true)(x:Nat):0<=l.getD x 0/\l.getD x 0<=18446744073709551615:=by
 by_cases hx:x<l.length
 ·have hm:l.getD x 0∈l:=by rw[List.getD_eq_getElem?_getD,List.getElem?_eq_getElem hx]; exact List.getElem_mem hx
  obtain⟨i,hi,e⟩:=dW (h _ hm)
  rw[<- e]; exact KI hT hi
 rw[List.getD_eq_getElem?_getD,List.getElem?_eq_none (by omega)]; decide
theorem F3{l:List Int}{T:cu}{pa:Int}(hT:T.ok)(e:l=T.path pa)(x:Nat):0<=l.getD x 0/\l.getD x 0<=18446744073709551615:=FZ hT (fun k hk=>by
 obtain⟨i,hi,ei⟩:=List.getElem_of_mem hk
 have:=cu.EH hT e hi
 rw[List.getD_eq_getElem?_getD,List.getElem?_eq_getElem hi]at this
 rw[<- ei]; exact this) x
theorem Ni{l:List Int}{T:cu}(hT:T.ok)(h : ∀ k,k∈l<->T.has k=true)(x:Nat):0<=l.getD x 0/\l.getD x 0<=18446744073709551615:=FZ hT (fun k hk=>(h k).1 hk) x
end Rt
theorem Sq(m:dD)(lp B:Nat)(w:World)(h:iT w B lp m)(id pa:Int)(hid:0<=id/\id<=18446744073709551615) :
 Calls Tryd.prog 153 #[(pt lp),.int .u64 (id),.int .u64 (pa)] w fun e w'=>e = .returned (.int .i64 (m.T.err id pa))/\Below w.heap.size w w':=by
 have hC:=h.c
 have hT:=h.t
 have hP:=h.p
 have hR:=h.r
 have hG:=h.g
 have hA:=h.a
 have hN:=h.ne
 have lC:=h.c.lt
 have lT:=h.t.lt
 have lP:=h.p.lt
 have lR:=h.r.lt
 have lG:=h.g.lt
 have lA:=h.a.lt
 refine Fx.Si 3 Tryd.func153 rfl (n:=55) rfl (by rfl) ?_
 refine Fx.W0.seq (Fx.W0.list (Fx.L.box (m:=1) (y:=fun _=>(pt lp)) (by rfl) rfl rfl (Fx.cells_one (by rfl)) rfl fun g1 w1 aZ m1 s1 z1 => ?_))
 have m2:=hC.aC s1 hC.ne
 have m3:=hT.up s1.old
 have m4:=hP.up s1.old
 have m5:=hR.up s1.old
 have m6:=hG.up s1.old
 have m7:=hA.up s1.old
 have b1:=s1.below (Below.refl w.heap.size w) (Below.refl w.heap.size w).size (Below.refl w.heap.size w).size
 have kM:w.heap.size<=g1:=by rw[aZ]; exact(Below.refl w.heap.size w).size
 have jk:lp≠g1:=by rw[aZ]; exact Nat.ne_of_lt (hC.lt)
 have nk:m.pb≠g1:=by rw[aZ]; exact Nat.ne_of_lt (hP.lt)
 have oC:m.rb≠g1:=by rw[aZ]; exact Nat.ne_of_lt (hR.lt)
 have oD:m.gb≠g1:=by rw[aZ]; exact Nat.ne_of_lt (hG.lt)
 have oF:m.ab≠g1:=by rw[aZ]; exact Nat.ne_of_lt (hA.lt)
 have mO:g1<w1.heap.size:=m1.lt
 clear aZ
 refine Lv (.int .i64 (0)) (aj rfl rfl) (Ln (Fx.kI (Fx.W0.seq (Fx.W0.list (Fx.L.call (by rfl) (rC (args := []) rfl rfl Tryd.func28 rfl rfl) rfl ((OY _).mono ?_))))))
 rintro e9 w2 ⟨rH,rJ,he,hg1,m8,hb1⟩
 refine⟨_,he,?_⟩
 clear he
 have nem.acd:m.mb≠rJ:=Nat.ne_of_lt (Nat.lt_of_lt_of_le m3.lt hg1)
 have s2:=Sb hb1
 have m9:=m2.aC s2 m2.ne
 have m10:=m3.up s2.old
 have m11:=m4.up s2.old
 have m12:=m5.up s2.old
 have m13:=m6.up s2.old
 have m14:=m7.up s2.old
 have m15:=m1.aC s2 m1.ne
 have b2:=s2.below b1 b1.size b1.size
 have m16:mD w2 (w.heap.size) rH rJ cu.zero:=m8.weak b1.size
 clear m8 hg1
 refine Fx.L.new (m:=1) (y:=fun _ => .pointer none) (by rfl) rfl (by kernel_rfl) rfl fun g2 w3 bS m17 s3 z2 => ?_
 have m18:=m9.aC s3 m9.ne
 have m19:=m10.up s3.old
 have m24:=m15.aC s3 m15.ne
 have qC:=m16.up s3.old
 have b3:=s3.below b2 b2.size b2.size
 have su:w.heap.size<=g2:=by rw[bS]; exact b2.size
 have Sr:lp≠g2:=by rw[bS]; exact Nat.ne_of_lt (m9.lt)
 have Yt:m.pb≠g2:=by rw[bS]; exact Nat.ne_of_lt (m11.lt)
 have Yu:m.rb≠g2:=by rw[bS]; exact Nat.ne_of_lt (m12.lt)
 have Yv:m.gb≠g2:=by rw[bS]; exact Nat.ne_of_lt (m13.lt)
 have Yw:m.ab≠g2:=by rw[bS]; exact Nat.ne_of_lt (m14.lt)
 have Yx:g1≠g2:=by rw[bS]; exact Nat.ne_of_lt (m15.lt)
 have vK:g2<w3.heap.size:=m17.lt
 clear bS
 refine Fx.L.bV (x:=fun _ => .pointer none) (u:=(pt rH)) (by rfl) rfl rfl rfl rfl (by rfl) (by kernel_rfl) m17 (i:=0) (by omega) fun w4 oZ s4 z3 => ?_
 have qU:Fx.aP w4 g2 1 (fun _=>(pt rH)) 85:=Fx.je oZ
 have aT:=Fx.gD.bP s4 m17.ty
 have qV:=m18.aU aT (by decide)
 have qD:=m19.aU aT (by decide)
 have nO:=m24.aU aT (by decide)
 have qW:=qC.aU aT (by decide)
 have b4:=s4.below b3 b3.size (by omega)
 refine Ln (Fx.kI (Fx.W0.seq (Fx.W0.list (Lv ((pt lp)) (ak (x:=fun _=>(pt lp)) rfl rfl (by kernel_rfl) nO.aL (i:=0) (by omega) (by omega) rfl) (Lv ((pt lp)) (aO rfl rfl) (Lv ((pf lp 18)) (au rfl rfl Tryd.underlying93 rfl (s:=1) (by kernel_rfl) rfl (by show _+18=_; omega)) (Lv ((pt m.tp)) (ak (x:=fM m) rfl rfl (by kernel_rfl) qV.aL (i:=18) (by omega) (by omega) rfl) (Lv (.int .u64 (pa)) (ah rfl rfl) (Fx.L.call (by rfl) (rC (args := [(pt m.tp),.int .u64 (pa)]) rfl rfl Tryd.func31 rfl rfl) rfl ((Ea pa qD).mono ?_))))))))))
 rintro e9 w5 ⟨Ak,pc1,he,nu,hb2⟩
 refine⟨_,he,?_⟩
 clear he
 have s5:=Sb hb2
 have oo:=nO.aC s5 nO.ne
 have tT:=qW.up s5.old
 have pq:=qU.aC s5 qU.ne
 have b5:=s5.below b4 b4.size b4.size
 obtain⟨l,hl⟩ : ∃ q,q=cu.path m.T pa:=⟨_,rfl⟩
 rw[<- hl]at nu ⊢
 have hl4:l.length<=4:=by rw[hl]; exact cu.tH
 refine Lv (.slice Ak (l.length) (pc1)) (aj rfl rfl) (Ln (Fx.kI (Fx.W0.seq (Fx.W0.seq (Fx.W0.list (Lv (.slice Ak (l.length) (pc1)) (ah rfl rfl) (Fx.L.call (by rfl) (rC (args := [.slice Ak (l.length) (pc1)]) rfl rfl Tryd.func168 rfl rfl) rfl ((Yq Ak l.length pc1 _).mono ?_))))))))
 rintro e9 w6 ⟨sb1,he,hg2,qX,hb3⟩
 refine⟨_,he,?_⟩
 clear he
 have s6:=Sb hb3
 have sM:=oo.aC s6 oo.ne
 have rT:=tT.up s6.old
 have vN:=pq.aC s6 pq.ne
 have uw:=nu.aC s6 (nu.iG (Nat.le_refl _))
 have b6:=s6.below b5 b5.size b5.size
 refine Ln (Fx.kI (Fx.W0.block ?_))
 have Vg:g1≠rJ:=rT.map.ne sM.ty
 have aeD:=sM.lt
 have Vh:g2≠rJ:=rT.map.ne vN.ty
 have aeE:=vN.lt
 have Pk:sb1≠rJ:=rT.map.ne qX.ty
 have Vi:=qX.lt
 have hgm:=rT.gm
 have Yy:=rT.lt
 have ltt:=rT.blk.lt
 have hov : ∀ g,(.slice Ak (l.length) (pc1):Value).ownBlock=some g->g<w6.heap.size/\g≠rJ:=fun g hg=>Nh uw rT.map hg
 refine Fx.W0.Sk (gf:=179) (lb := #[(pt sb1)]) (eu:=fun x:Nat => .int .i64 (x:Int)) (Yp:=fun x => .int .u64 (l.getD x 0)) (by decide) rfl (fun args w=>gP Tryd.func179 (by kernel_rfl) rfl args w) (Sn sb1 pc1 Ak l (by omega)) ⟨qX,Fx.Ru uw⟩ (fun W o _ hi=>hi.alloc o) (fun h k=>h.trans k) (fun W l o o' hl _ _=>FY.put Vi (fun g hg=>(hov g hg).1) W l o o' hl) (by decide) (by decide) (fun xs W=>mD W (w.heap.size) rH rJ (DK m.T l xs)/\Fx.Stp rJ w6 W) (KO ltt Yy) ⟨rT,Fx.Stp.refl _ _⟩ (fun x f=>f 3=(pt g1)/\f 7=(pt g2)/\f 10 = .int .u64 (l.getD x 0)) ?_ ?_ ?_
 ·intro ly x W
  exact Fx.W0.list (Lv (.int .u64 (l.getD x 0)) (aj rfl rfl) (Ln ⟨rfl,rfl,⟨rfl,rfl,rfl⟩,rfl⟩))
 ·rintro ly pre x W f9 ⟨q3,q7,q10⟩ ⟨T9,hs2⟩ hpl hWs
  have bW:Below w.heap.size w W:=hs2.below b6 b6.size hgm
  have hW:=h.up bW
  have Wj:=hW.p
  have hCW:=hW.c
  have Vj:=hW.t
  have H7:=sM.aC hs2 Vg
  have Vk:=H7.lt
  have EK:=vN.aC hs2 Vh
  have Vl:=EK.lt
  have lWm:rJ<W.heap.size:=Nat.lt_of_lt_of_le Yy hs2.size
  have Yz:w6.heap.size<=W.heap.size:=hs2.size
  have lCW:=hCW.lt
  have lPW:=Wj.lt
  have lTW:=Vj.lt
  have lh0:=h.t.lt
  have lh1:=h.p.lt
  refine Fx.W0.block ?_
  -- region 5 draws
  refine Fx.W0.bH [1,6,0,2,3,4,5,7,8] [4,0,4,0,0,4,0,4,3] Fx.Mk Fx.Mk.refl Fx.Mk.trans (aQ := [(8,0,[0]),(8,2,[7,5,4,3,2]),(8,5,[7,5]),(8,7,[7])]) (by kernel_rfl) (by kernel_rfl) (by kernel_rfl) (by kernel_rfl) (by kernel_rfl) fun jc bT fE => ?_
  have s7:Fx.Stp W.heap.size W jc:=Sb bT
  have nQ:=hCW.aC s7 hCW.ne
  have qY:=Wj.up s7.old
  have qM:=Vj.up s7.old
  have lM:=H7.aC s7 H7.ne
  have qN:=EK.aC s7 EK.ne
  have oI:=T9.up s7.old
  have b7:=(Fx.Stp.refl rJ W).then s7 (.inr (Fx.Stp.refl rJ W).size)
  refine Rp (.int .u64 (l.getD x 0)) (fun v1=>ah rfl q10) (Rp (.int .u64 (l.getD x 0)) (fun v1=>ah rfl q10) (Fx.R.s ((pt rH)) (ak (x:=fun _=>(pt rH)) rfl q7 (by kernel_rfl) qN.aL (i:=0) (by omega) (by omega) rfl) ?_))
  refine Fx.R.s ((pt lp)) (ak (x:=fun _=>(pt lp)) rfl q3 (by kernel_rfl) lM.aL (i:=0) (by omega) (by omega) rfl) ?_
  refine Rp ((pt lp)) (fun v1=>aO rfl rfl) (Rp ((pf lp 19)) (fun v1=>au rfl rfl Tryd.underlying93 rfl (s:=1) (by kernel_rfl) rfl (by show _+19=_; omega)) (Fx.R.s (.map (some m.pb)) (ak (x:=fM m) rfl rfl (by kernel_rfl) nQ.aL (i:=19) (by omega) (by omega) rfl) ?_))
  rcases Fx.kV m.T.x m.T.n (l.getD x 0)with ⟨dh,gY,iA⟩|fJ
  ·refine Fx.R.s (.int .u64 (m.T.p dh)) (Fx.nJ (z := .int .u64 (0)) rfl rfl rfl qY Tryd.underlying87 Tryd.underlying22 (by rfl) gY iA rfl) ?_
   refine Fx.R.fP (by rfl) ?_
   refine Fx.L.call (by rfl) (rC (args := [(pt rH),.int .u64 (l.getD x 0),.int .u64 (m.T.p dh)]) rfl rfl Tryd.func155 rfl rfl) rfl ((Ck (l.getD x 0) (m.T.p dh) oI (F3 h.t.inv hl x)).mono ?_)
   rintro e9 w7 ⟨he,sO,s8⟩
   refine⟨_,he,?_⟩
   clear he
   have hcm1:=oI.uX s8
   have m64:=nQ.bY hcm1
   have xD:=qY.bY hcm1 (by omega)
   have zm:=qM.bY hcm1 (by omega)
   have yA:=lM.bY hcm1
   have yB:=qN.bY hcm1
   have b8:=b7.then s8 (.inl rfl)
   refine Ln (Fx.R.nil (Fx.C9 ?_))
   have ep:m.T.par (l.getD x 0)=m.T.p dh:=sj hW.t.inv.inj gY iA
   refine⟨rfl,⟨b8.size,fun q hq hq2=>b8.block q hq2 (by omega)⟩,FY.bP b8 (by omega) Pk (fun g hg=>⟨Nat.lt_of_lt_of_le (hov g hg).1 Yz,(hov g hg).2⟩),?_,hs2.then b8 (.inl rfl)⟩
   rw[xU,ep]; exact sO
  refine Fx.R.s (.int .u64 (0)) (Fx.Fg (z := .int .u64 (0)) rfl rfl rfl qY Tryd.underlying87 Tryd.underlying22 (by rfl) fJ) ?_
  refine Fx.R.fP (by rfl) ?_
  refine Fx.L.call (by rfl) (rC (args := [(pt rH),.int .u64 (l.getD x 0),.int .u64 (0)]) rfl rfl Tryd.func155 rfl rfl) rfl ((Ck (l.getD x 0) 0 oI (F3 h.t.inv hl x)).mono ?_)
  rintro e9 w8 ⟨he,tX,s9⟩
  refine⟨_,he,?_⟩
  clear he
  have hcm2:=oI.uX s9
  have yK:=nQ.bY hcm2
  have vO:=qY.bY hcm2 (by omega)
  have xE:=qM.bY hcm2 (by omega)
  have sP:=lM.bY hcm2
  have zn:=qN.bY hcm2
  have b9:=b7.then s9 (.inl rfl)
  refine Ln (Fx.R.nil (Fx.C9 ?_))
  have ep:m.T.par (l.getD x 0)=0:=Sm fJ
  refine⟨rfl,⟨b9.size,fun q hq hq2=>b9.block q hq2 (by omega)⟩,FY.bP b9 (by omega) Pk (fun g hg=>⟨Nat.lt_of_lt_of_le (hov g hg).1 Yz,(hov g hg).2⟩),?_,hs2.then b9 (.inl rfl)⟩
  rw[xU,ep]; exact tX
 rintro D xs W hD rfl ⟨T9,hs2⟩ hK
 have bW:Below w.heap.size w W:=hs2.below b6 b6.size hgm
 have hW:=h.up bW
 have Wj:=hW.p
 have hCW:=hW.c
 have Vj:=hW.t
 have H7:=sM.aC hs2 Vg
 have Vk:=H7.lt
 have EK:=vN.aC hs2 Vh
 have Vl:=EK.lt
 have lWm:rJ<W.heap.size:=Nat.lt_of_lt_of_le Yy hs2.size
 have Yz:w6.heap.size<=W.heap.size:=hs2.size
 have lCW:=hCW.lt
 have lPW:=Wj.lt
 have lTW:=Vj.lt
 have lh0:=h.t.lt
 have lh1:=h.p.lt
 have lDW:=(Array.getElem?_eq_some_iff.1 hK).1
 have oW:=uw.aC hs2 (fun e=>(hov _ e).2 rfl)
 refine Fx.C9 (Fx.kI (Fx.W0.seq (Fx.W0.seq (Fx.W0.list (Lv ((pt lp)) (ak (x:=fun _=>(pt lp)) rfl rfl (by kernel_rfl) H7.aL (i:=0) (by omega) (by omega) rfl) ?_)))))
 refine Lv ((pt lp)) (aO rfl rfl) (Lv ((pf lp 18)) (au rfl rfl Tryd.underlying93 rfl (s:=1) (by kernel_rfl) rfl (by show _+18=_; omega)) (Lv ((pt m.tp)) (ak (x:=fM m) rfl rfl (by kernel_rfl) hCW.aL (i:=18) (by omega) (by omega) rfl) (Fx.L.call (by rfl) (rC (args := [(pt m.tp)]) rfl rfl Tryd.func32 rfl rfl) rfl ((JG Vj).mono ?_))))
 rintro e9 w9 ⟨Iw,yL,fG,he,xG,hq1,Vm,hb4⟩
 refine⟨_,he,?_⟩
 clear he
 have s10:=Sb hb4
 have vP:=EK.aC s10 EK.ne
 have yC:=T9.up s10.old
 have Ar:=oW.aC s10 (oW.iG (Nat.le_refl _))
 have b10:=(Fx.Stp.refl rJ W).then s10 (.inr (Fx.Stp.refl rJ W).size)
 refine Lv (.int .i64 ((fG.length:Int))) (x_len rfl rfl rfl (by kernel_rfl)) (Lv (.int .i64 (0)) (ah rfl rfl) (Ln (Fx.kI (Fx.W0.block (Fx.W0.loop (fun f w_ => ∃ i:Nat,i<=fG.length/\f 1 = .int .u64 (id)/\f 2 = .int .u64 (pa)/\f 7=(pt g2)/\f 8 = .slice Ak (l.length) (pc1)/\f 37 = .slice Iw (fG.length) (yL)/\f 38 = .int .i64 ((fG.length:Int))/\f 39 = .int .i64 ((i:Int))/\Fx.aP w_ g2 1 (fun _=>(pt rH)) 85/\mD w_ (w.heap.size) rH rJ (iC l fG (DK m.T l (yD l.length l.length)) i)/\Fx.Own w_ W.heap.size 22 1 (.slice Iw (fG.length) (yL)) fG.length (mP fG)/\Fx.Own w_ w4.heap.size 22 1 (.slice Ak (l.length) (pc1)) l.length (mP l)/\Fx.Stp rJ W w_) (fun f _=>((fG.length:Int)-intOf (f 39)).toNat) ⟨0,(by omega),Fx.ic,Fx.ic,(by rfl),(by rfl),(by rfl),Fx.ic,Fx.ic,vP,yC,xG,Ar,b10⟩ ?_)))))
 rintro f1 wo ⟨i,hi,h1,h2,h3,h4,h5,h6,h7,DF,Fw,GY,GZ,b11⟩
 refine Fx.W0.seq (Fx.W0.list ?_)
 by_cases c40:(i:Int)<(fG.length:Int)
 ·refine Lv (.bool true) (Fx.eG rfl h7 h6 c40) (Ln (Fx.kI (Fx.W0.seq (Fx.W0.cond (b:=true) rfl (fun _=>Fx.W0.skip (Fx.kI (Fx.W0.seq (Fx.W0.block (Fx.W0.seq (Fx.W0.list ?_)))))) (fun h=>nomatch h)))))
  obtain⟨BM,eq1⟩:=GY.addr (by omega)
  have Ci:Fx.Own wo W.heap.size 22 1 (.slice (some ⟨BM,0,none⟩) fG.length yL) fG.length (mP fG):=GY.oP (congrArg (fun q=>Value.slice q fG.length yL) eq1)
  refine Lv ((pf BM i)) (av rfl (h5.trans (congrArg (fun q=>Value.slice q (fG.length) (yL)) eq1)) h7 Tryd.underlying53 (s:=1) (by kernel_rfl) (by omega) (by omega) (by omega)) (Lv (.int .u64 (fG.getD i 0)) (ak (x:=mP fG) rfl rfl (by kernel_rfl) Ci.aL (i:=i) (by omega) (by omega) rfl) (Lv (.int .u64 (fG.getD i 0)) (aj rfl rfl) (Ln (Fx.kI (Fx.W0.seq (Fx.W0.list (Lv (.slice Ak (l.length) (pc1)) (ah rfl h4) (Lv (.int .u64 (fG.getD i 0)) (ah rfl rfl) (Fx.L.call (by rfl) (rC (args := [.slice Ak (l.length) (pc1),.int .u64 (fG.getD i 0)]) rfl rfl Tryd.func169 rfl rfl) rfl ((Xe l (fG.getD i 0) _ _ _ _ GZ (by omega)).mono ?_))))))))))
  rintro e9 Tq ⟨he,hb5⟩
  refine⟨_,he,?_⟩
  clear he
  have s11:=Sb hb5
  have D9:=DF.aC s11 DF.ne
  have G5:=Fw.up s11.old
  have Fy:=GZ.aC s11 (GZ.iG (Nat.le_refl _))
  have IC:=Ci.bO s11 (Nat.ne_of_lt (Ci.lt))
  have b12:=b11.then s11 (.inr b11.size)
  by_cases Ez:fG.getD i 0∈l
  ·skip
   refine Lv (.bool false) (Fx.dZ rfl (congrArg Value.bool (decide_eq_true Ez))) (Ln (Fx.kI (Fx.W0.cond (b:=false) rfl (fun h=>nomatch h) (fun _=>Fx.W0.skip (Fx.C9 (Fx.kI (Fx.W0.list (Lv (.int .i64 ((i:Int)+1)) (Fx.aS rfl h7 rfl Fx.io) (Lv (.int .i64 ((i:Int)+1)) (ah rfl rfl) (Ln ?_))))))))))
   have IE:Fx.Own Tq W.heap.size 22 1 (.slice Iw (fG.length) (yL)) fG.length (mP fG):=IC.oP (congrArg (fun q=>Value.slice q fG.length yL) eq1.symm)
   have F4:mD Tq (w.heap.size) rH rJ (iC l fG (DK m.T l (yD l.length l.length)) (i+1)):=by unfold iC; rw[if_pos Ez]; exact G5
   skip
   refine Fx.Va ⟨i+1,(by omega),(h1.trans Fx.ic),(h2.trans Fx.ic),h3,h4,h5,(h6.trans Fx.ic),Fx.ic,D9,F4,IE,Fy,b12⟩ ?_
   show((fG.length:Int)-intOf ((.int .i64 ((i:Int)+1)))).toNat<_
   simp only[h7,intOf]; omega
  skip
  refine Lv (.bool true) (Fx.eH rfl (congrArg Value.bool (decide_eq_false Ez))) (Ln (Fx.kI (Fx.W0.cond (b:=true) rfl (fun _=>Fx.W0.list (Lv ((pt rH)) (ak (x:=fun _=>(pt rH)) rfl h3 (by kernel_rfl) D9.aL (i:=0) (by omega) (by omega) rfl) ?_)) (fun h=>nomatch h))))
  refine Lv (.int .u64 (fG.getD i 0)) (ah rfl rfl) (Fx.L.call (by rfl) (rC (args := [(pt rH),.int .u64 (fG.getD i 0),.int .u64 (0)]) rfl rfl Tryd.func155 rfl rfl) rfl ((Ck (fG.getD i 0) 0 G5 (Ni h.t.inv hq1.2 i)).mono ?_))
  rintro e9 Tt ⟨he,H8,s12⟩
  refine⟨_,he,?_⟩
  clear he
  have tK:=G5.uX s12
  have DL:=D9.bY tK
  have KP:=Fy.bY tK
  have IG:=IC.bY tK
  have b13:=b12.then s12 (.inl rfl)
  refine Ln (Fx.C9 (Fx.kI (Fx.W0.list (Lv (.int .i64 ((i:Int)+1)) (Fx.aS rfl h7 rfl Fx.io) (Lv (.int .i64 ((i:Int)+1)) (ah rfl rfl) (Ln ?_))))))
  have LY:Fx.Own Tt W.heap.size 22 1 (.slice Iw (fG.length) (yL)) fG.length (mP fG):=IG.oP (congrArg (fun q=>Value.slice q fG.length yL) eq1.symm)
  have LZ:mD Tt (w.heap.size) rH rJ (iC l fG (DK m.T l (yD l.length l.length)) (i+1)):=by unfold iC; rw[if_neg Ez]; exact H8
  skip
  refine Fx.Va ⟨i+1,(by omega),(h1.trans Fx.ic),(h2.trans Fx.ic),h3,h4,h5,(h6.trans Fx.ic),Fx.ic,DL,LZ,LY,KP,b13⟩ ?_
  show((fG.length:Int)-intOf ((.int .i64 ((i:Int)+1)))).toNat<_
  simp only[h7,intOf]; omega
 refine Lv (.bool false) (Fx.dX rfl h7 h6 c40) (Ln (Fx.kI (Fx.W0.seq (Fx.W0.cond (b:=false) rfl (fun h=>nomatch h) (fun _=>Fx.W0.exit (Fx.U8 (Fx.Yn (Fx.U9 (Fx.kI (Fx.W0.seq ?_))))))))))
 have hil:i=fG.length:=by omega
 refine Fx.W0.list (Lv ((pt rH)) (ak (x:=fun _=>(pt rH)) rfl h3 (by kernel_rfl) DF.aL (i:=0) (by omega) (by omega) rfl) ?_)
 refine Lv (.int .u64 (id)) (ah rfl h1) (Lv (.int .u64 (pa)) (ah rfl h2) (Fx.L.call (by rfl) (rC (args := [(pt rH),.int .u64 (id),.int .u64 (pa)]) rfl rfl Tryd.func155 rfl rfl) rfl ((Ck id pa Fw hid).mono ?_)))
 rintro e9 Uv ⟨he,Db,s13⟩
 refine⟨_,he,?_⟩
 clear he
 have Sv:=Fw.uX s13
 have xV:=DF.bY Sv
 have vW:=GY.bY Sv
 have vX:=GZ.bY Sv
 have b14:=b11.then s13 (.inl rfl)
 refine Lv (.int .i64 (cu.err (iC l fG (DK m.T l (yD l.length l.length)) i) id pa)) (aj rfl rfl) (Ln (Fx.kI (Fx.W0.ret ?_)))
 have hKD:=(b14.block D lDW (by omega)).trans hK
 have eD:cu.err (iC l fG (DK m.T l (yD l.length l.length)) fG.length) id pa=m.T.err id pa:=Ng h.t.inv hl hq1
 refine Fx.leaveD hKD (rV Tryd.results153 (show Fx.DV Tryd.prog _ _ (.tmp 6) (.int .i64 (cu.err (iC l fG (DK m.T l (yD l.length l.length)) i) id pa))from rfl)) ⟨by rw[hil,eD],?_⟩
 exact(b14.below bW bW.size hgm).grown (grownBy_putObj' _ D _) (b14.below bW bW.size hgm).size fun r e=>by cases e; omega
end Go.Proofs.YtahbiajdgealnaaDoor
namespace Go.Proofs.YtahbiajdgealnaaDoor
open Go.RowKit
set_option linter.unusedVariables false
namespace Fx
abbrev H9:=List (Nat × List Nat)
def zM(ops:List Oper)(es:List Nat)(fwd:Bool)(i:Nat)(l:H9):Bool:=l.all fun x=>match es[x.1]? with|some e => !Nat.beq i e&&(if fwd then oM ops i x.2 e else oM ops e x.2 i)|none=>false
def EL(ops:List Oper)(es:List Nat)(pr po:List H9):Bool:=(List.range ops.length).all fun i=>zM ops es true i (pr.getD i [])&&zM ops es false i (po.getD i [])
def jY(es:List Nat)(listed:Array Bool)(j:Nat):Bool:=match es[j]? with|some e=>listed.getD e false|none=>false
def KQ(m:Nat->Bool)(j:Nat):Nat->Bool:=fun q=>bif Nat.beq q j then true else m q
section
variable {P:Program} {n:Nat} {Q:Post} {f:Nat->Value} {w:World} {ops:List Oper}
theorem Ia{i e:Nat}{p:List Nat}{listed:Array Bool}(hr:i∈Region.ready .any ops.toArray listed)(lH:Bf ops.toArray .any listed)(hne:i≠e)(h:oM ops i p e=true):listed.getD e false=true:=by
 obtain⟨h1,hi,hop,hall⟩:=dO hr
 obtain⟨mm,h⟩:=fD h
 cases mm with
 | zero=>unfold reach at h; exact absurd (by simpa using h) hne
 | succ mm =>
   unfold reach at h
   rw[Bool.or_eq_true]at h
   rcases h with h|h
   ·exact absurd (by simpa using h) hne
   ·rw[hop]at h
    simp only at h
    rw[Array.any_eq_true']at h
    obtain⟨e2,he1,he2⟩:=h
    rw[Bool.and_eq_true]at he2
    refine lH.reach _ _ he2.2 (hall e2.on ?_)
    unfold bM
    rw[Array.any_eq_true']
    exact⟨e2,he1,by rw[he2.1,Nat.beq_refl]; rfl⟩
theorem W.masks{id:Nat}(es:List Nat)(pr po:List H9)(vals:Gh->Nat->Value)(S:(Nat->Bool)->Gh->World->Prop)(hm:P.follows .mixedOrders=true)(hok:iL n ops=true)(hsel:Region.noSelect ops.toArray=true)(KR:EL ops es pr po=true)
 (hes:es.all (fun e=>Nat.blt e ops.length&&(match (opAt ops e).guard with|none=>true|_=>false))=true) (hnd:es.Nodup) (r0:Gh)
 (h0 : ∀ w1,Below w.heap.size w w1->w1.heap.size=w.heap.size->S (fun _=>false) r0 w1)
 (hq : ∀ i,i<ops.length->es.contains i=false -> ∀ r m w,(∀ x∈pr.getD i [],m x.1=true)->(∀ x∈po.getD i [],m x.1=false)->S m r w->if Region.wanted (opAt ops i) (yf ops.toArray (full ops f (vals r)))then Oper.quietUpon P (S m r) w (vals r i) ((execOp (ev (full ops f (vals r))) (opAt ops i)).run P w)else vals r i=undef)
 (he : ∀ j i,es[j]? = some i -> ∀ r m w (a:Act) (K:Act->World->Prop),(∀ x∈pr.getD i [],m x.1=true)->(∀ x∈po.getD i [],m x.1=false)->m j=false->S m r w->(∀ x∈(opAt ops i).op.operands,a.eval x=ev (full ops f (vals r)) x)->(∀ p w',S (KQ m j) (kJ r j p) w'->K (a.put (opAt ops i).dst (vals (kJ r j p) i)) w')->(opAt ops i).wp P a w K (lift n Q))
 (hd : ∀ i,i<ops.length -> ∀ j r p,(∀ x∈pr.getD i [],x.1≠j)->es[j]? ≠ some i->j<es.length->vals (kJ r j p) i=vals r i)
 (h : ∀ r m w',(∀ j,j<es.length->m j=true)->S m r w'->Q .normal (full ops f (vals r)) w'):W P n (.region id ops.toArray true) Q f w:=fun a ha=>by
 refine wp_region_any hm ?_
 have hw : ∀ i,i<ops.length->zM ops es true i (pr.getD i [])=true/\zM ops es false i (po.getD i [])=true:=fun i hi=>by
  unfold EL at KR
  rw[List.all_eq_true]at KR
  have:=KR i (by simpa using hi)
  rwa [Bool.and_eq_true]at this
 have hpr : ∀ i,i<ops.length -> ∀ x∈pr.getD i [],∃ e,es[x.1]? = some e/\i≠e/\oM ops i x.2 e=true:=fun i hi x hx=>by
  have h1:=(hw i hi).1
  unfold zM at h1
  rw[List.all_eq_true]at h1
  have h1:=h1 x hx
  cases he:es[x.1]? with
  | none=>rw[he]at h1; cases h1
  | some e =>
    rw[he]at h1
    simp only[if_true,Bool.and_eq_true]at h1
    exact⟨e,rfl,fun q=>by subst q; rw[Nat.beq_refl]at h1; exact absurd h1.1 (by simp),h1.2⟩
 have hpo : ∀ i,i<ops.length -> ∀ x∈po.getD i [],∃ e,es[x.1]? = some e/\oM ops e x.2 i=true:=fun i hi x hx=>by
  have h1:=(hw i hi).2
  unfold zM at h1
  rw[List.all_eq_true]at h1
  have h1:=h1 x hx
  cases he:es[x.1]? with
  | none=>rw[he]at h1; cases h1
  | some e =>
    rw[he]at h1
    simp only[Bool.and_eq_true]at h1
    exact⟨e,rfl,by simpa using h1.2⟩
 have IX : ∀ k i,es[k]? = some i->i<ops.length/\(opAt ops i).guard=none:=fun k i hk=>by
  rw[List.all_eq_true]at hes
  have:=hes i (List.mem_of_getElem? hk)
  rw[Bool.and_eq_true]at this
  refine⟨by simpa [Nat.blt_eq] using this.1,?_⟩
  cases hg:(opAt ops i).guard with
  | none=>rfl
  | some _=>rw[hg]at this; exact absurd this.2 (by simp)
 have key : ∀(fuel:Nat) (listed:Array Bool) (a:Act) (w1:World) (r:Gh),listed.size=ops.length->Bf ops.toArray .any listed->Fr a n (over ops f (vals r) listed)->S (jY es listed) r w1 ->
  (∀ fl:List Nat,fl=(List.range ops.length).filter (fun i => !listed.getD i false)->fl.length=fuel)->wpAny P .any ops.toArray (lift n Q) fuel listed a w1:=by
  intro fuel
  induction fuel with
  | zero =>
    intro listed a w1 r hsz lH ha hS hfl
    have hall : ∀ i,i<ops.length->listed.getD i false=true:=fun i hi=>by
     have h1:=List.eq_nil_of_length_eq_zero (hfl _ rfl)
     cases hq:listed.getD i false
     ·have:i∈(List.range ops.length).filter (fun i => !listed.getD i false):=by simp only[List.mem_filter,List.mem_range]; exact⟨hi,by rw[hq]; rfl⟩
      rw[h1]at this; cases this
     ·rfl
    have hnone:Region.ready .any ops.toArray listed = []:=by
     cases hq:Region.ready .any ops.toArray listed with
     | nil=>rfl
     | cons i l =>
       have hr:i∈Region.ready .any ops.toArray listed:=by rw[hq]; exact List.mem_cons_self
       obtain⟨h1,h2,_,_⟩:=dO hr
       rw[hall i h2]at h1; cases h1
    refine⟨hnone,full ops f (vals r),?_,h r _ w1 (fun j hj => ?_) hS⟩
    ·have:over ops f (vals r) listed=full ops f (vals r):=by
      funext s
      unfold over full
      cases hw:writer ops s with
      | none=>rfl
      | some i=>simp only; rw[if_pos (hall i (iY hw).2)]
     exact this ▸ ha
    ·unfold jY
     rw[List.getElem?_eq_getElem hj]
     exact hall _ (IX j _ (List.getElem?_eq_getElem hj)).1
  | succ fuel ih =>
    intro listed a w1 r hsz lH ha hS hfl
    have hcount : ∀ i,i∈Region.ready .any ops.toArray listed -> ∀ fl:List Nat,fl=(List.range ops.length).filter (fun j => !(listed.setIfInBounds i true).getD j false)->fl.length=fuel:=by
     intro i hr fl Px
     obtain⟨h1,h2,_,_⟩:=dO hr
     subst Px
     have e:(List.range ops.length).filter (fun j => !(listed.setIfInBounds i true).getD j false)=((List.range ops.length).filter (fun i => !listed.getD i false)).erase i:=by
      rw[List.Nodup.erase_eq_filter (List.Nodup.sublist List.filter_sublist List.nodup_range),List.filter_filter]
      apply List.filter_congr
      intro j hj
      by_cases e:i=j
      ·subst e; rw[set_self (by rw[hsz]; exact h2)]; simp
      ·rw[gQ e]
       have:(j != i)=true:=by simp; exact fun q=>e q.symm
       rw[this,Bool.true_and]
     rw[e,List.length_erase_of_mem (by simp only[List.mem_filter,List.mem_range]; exact⟨h2,by rw[h1]; rfl⟩),hfl _ rfl]
     rfl
    refine⟨fun hnone => ?_,fun i hr => ?_⟩
    ·exfalso
     have hlen:=hfl _ rfl
     exact(by
      have : ∃ i,i∈Region.ready .any ops.toArray listed:=by
       obtain⟨q,hq⟩ : ∃ q,q∈(List.range ops.length).filter (fun i => !listed.getD i false):=by
        cases hfe:(List.range ops.length).filter (fun i => !listed.getD i false)with
        | nil=>rw[hfe]at hlen; cases hlen
        | cons q l=>exact⟨q,List.mem_cons_self⟩
       have DW : ∀ m q,q<=m->q<ops.length->listed.getD q false=false -> ∃ i,i<ops.length/\listed.getD i false=false /\ ∀ j,j<i->listed.getD j false=true:=by
        intro m
        induction m with
        | zero=>intro q hm hq1 hq2; exact⟨q,hq1,hq2,fun j hj=>by omega⟩
        | succ m WS =>
          intro q hm hq1 hq2
          by_cases hall : ∀ j,j<q->listed.getD j false=true
          ·exact⟨q,hq1,hq2,hall⟩
          ·obtain⟨j,hj⟩:=Classical.not_forall.1 hall
           obtain⟨hj1,hj2⟩:=Classical.not_imp.1 hj
           exact WS j (by omega) (by omega) (by simpa using hj2)
       simp only[List.mem_filter,List.mem_range]at hq
       obtain⟨i,hi,hi1,hi2⟩:=DW q q (Nat.le_refl _) hq.1 (by simpa using hq.2)
       refine⟨i,mem_ready.2 ⟨getD_in (by rw[hsz]; exact hi) hi1,opAt ops i,?_,fun e he hb=>hi2 e.on ((dJ hok hi).2.2.2 e.on ?_)⟩⟩
       ·unfold opAt; rw[List.getElem?_toArray,List.getD_eq_getElem?_getD,List.getElem?_eq_getElem hi]; rfl
       ·unfold bM; rw[Array.any_eq_true']; exact⟨e,he,by rw[hb,Nat.beq_refl]; rfl⟩
      obtain⟨i,hi⟩:=this
      rw[hnone]at hi; cases hi)
    ·obtain⟨h1,hi,hop,hall⟩:=dO hr
     have hsz':(listed.setIfInBounds i true).size=ops.length:=by simpa using hsz
     have Br:=lH.set hr
     have hev:=Fa (f:=f) hok (v:=vals r) hr
     have hae : ∀ x∈(opAt ops i).op.operands,a.eval x=ev (full ops f (vals r)) x:=fun x hx=>by rw[ha.ev]; exact hev x hx
     have hex:execOp a.eval (opAt ops i)=execOp (ev (full ops f (vals r))) (opAt ops i):=execOp_congr _ (Region.noSelect_spec hsel i _ · · hop) hae
     have hwant:Region.wanted (opAt ops i) (yielded ops.toArray a.tmps)=Region.wanted (opAt ops i) (yf ops.toArray (full ops f (vals r))):=by rw[ha.yf]; exact uV hok hr
     have hpre : ∀ x∈pr.getD i [],jY es listed x.1=true:=fun x hx=>by
      obtain⟨e,h2,h3,h4⟩:=hpr i hi x hx
      unfold jY
      rw[h2]; exact Ia hr lH h3 h4
     have hpost : ∀ x∈po.getD i [],jY es listed x.1=false:=fun x hx=>by
      obtain⟨e,h2,h4⟩:=hpo i hi x hx
      unfold jY
      rw[h2]
      cases hle:listed.getD e false with
      | false=>exact hle
      | true =>
        obtain⟨mm,h4⟩:=fD h4
        have:=lH.reach _ _ h4 hle
        rw[h1]at this; cases this
     unfold wpOp
     simp only[hop]
     rw[hwant]
     by_cases hne:es.contains i=true
     ·have hmem:i∈es:=by simpa using hne
      obtain⟨j,hj⟩:=List.getElem?_of_mem hmem
      have hg:=(IX j i hj).2
      have hjl:j<es.length:=(List.getElem?_eq_some_iff.1 hj).1
      rw[if_pos (by unfold Region.wanted; rw[hg])]
      refine .inl (he j i hj r _ w1 a _ hpre hpost (by unfold jY; rw[hj]; exact h1) hS hae fun p w' hS' => ?_)
      have hsame:over ops f (vals r) listed=over ops f (vals (kJ r j p)) listed:=by
       funext s
       unfold over
       cases hw:writer ops s with
       | none=>rfl
       | some q =>
         simp only
         cases hlq:listed.getD q false
         ·rfl
         ·simp only[if_true]
          have hqi:=(iY hw).2
          refine(hd q hqi j r p (fun x hx e => ?_) (fun e => ?_) hjl).symm
          ·obtain⟨e2,h2,h3,h4⟩:=hpr q hqi x hx
           obtain⟨mm,h4⟩:=fD h4
           have h5:=lH.reach _ _ h4 hlq
           rw[e,hj]at h2
           rw[<- Option.some.inj h2,h1]at h5; cases h5
          ·rw[hj]at e
           rw[<- Option.some.inj e,h1]at hlq; cases hlq
      refine ih _ _ _ (kJ r j p) hsz' Br ?_ ?_ (hcount i hr)
      ·have:=(hsame ▸ ha).put (d:=(opAt ops i).dst) (by
        cases hd:(opAt ops i).dst with
        | none=>rfl
        | some d=>simp[inn,Nat.blt_eq,((dJ hok hi).1 d hd).2]) (vals (kJ r j p) i)
       rwa [rZ hok hsz hi]at this
      ·have e:jY es (listed.setIfInBounds i true)=KQ (jY es listed) j:=by
        funext q
        unfold KQ
        cases hb:Nat.beq q j with
        | true =>
          have:=Nat.eq_of_beq_eq_true hb
          subst this
          unfold jY
          rw[hj]; exact set_self (by rw[hsz]; exact hi)
        | false =>
          have hqj:q≠j:=fun z=>by rw[z,Nat.beq_refl]at hb; cases hb
          unfold jY
          cases hqe:es[q]? with
          | none=>rfl
          | some e2 =>
            have:i≠e2:=fun z=>by
             subst z
             have h9:=List.getElem?_eq_some_iff.1 hqe
             have h10:=List.getElem?_eq_some_iff.1 hj
             exact hqj ((List.getElem_inj hnd).1 (h9.2.trans h10.2.symm))
            exact gQ this
       rw[e]; exact hS'
     ·have hne':es.contains i=false:=by simpa using hne
      have hq1:=hq i hi hne' r _ w1 hpre hpost hS
      have hfin : ∀ w',S (jY es listed) r w'->wpAny P .any ops.toArray (lift n Q) fuel (listed.setIfInBounds i true) (a.put (opAt ops i).dst (vals r i)) w':=fun w' hS'=>by
       refine ih _ _ _ r hsz' Br ?_ ?_ (hcount i hr)
       ·have:=ha.put (d:=(opAt ops i).dst) (by
         cases hd:(opAt ops i).dst with
         | none=>rfl
         | some d=>simp[inn,Nat.blt_eq,((dJ hok hi).1 d hd).2]) (vals r i)
        rwa [rZ hok hsz hi]at this
       ·have e:jY es (listed.setIfInBounds i true)=jY es listed:=by
         funext q
         unfold jY
         cases hqe:es[q]? with
         | none=>rfl
         | some e2 =>
           have:i≠e2:=fun z=>by subst z; exact absurd (show es.contains i=true by simpa using List.mem_of_getElem? hqe) hne
           exact gQ this
        rw[e]; exact hS'
      by_cases hwt:Region.wanted (opAt ops i) (yf ops.toArray (full ops f (vals r)))=true
      ·rw[if_pos hwt]at hq1 ⊢
       refine .inl ?_
       unfold Oper.wp
       rw[hex]
       generalize (execOp (ev (full ops f (vals r))) (opAt ops i)).run P w1=res at hq1
       cases res with
       | ok nx w' =>
         cases nx <;> simp only[Oper.quietUpon]at hq1 <;> simp only[Oper.upon]
         case value u=>obtain⟨e1,e2⟩:=hq1; subst e1 e2; exact hfin _ hS
         case skip=>obtain⟨e1,e2⟩:=hq1; subst e1; rw[<- e2]; exact hfin _ hS
         case enter g args =>
          obtain⟨e1,hc⟩:=hq1
          subst e1
          exact hc.mono fun e w'' ⟨he',hw''⟩=>by subst he'; exact hfin _ hw''
       | halt x w'=>simp only[Oper.quietUpon]at hq1
      ·rw[if_neg hwt]at hq1 ⊢
       rw[<- hq1]
       exact hfin _ hS
 have hrep : ∀ i,(Array.replicate ops.toArray.size false).getD i false=false:=fun i=>by
  rw[Array.getD_eq_getD_getElem?]
  by_cases hi:i<ops.length
  ·simp[hi]
  ·simp[hi]
 have hstart:over ops f (vals r0) (Array.replicate ops.toArray.size false)=f:=by
  funext s
  unfold over
  cases writer ops s with
  | none=>rfl
  | some i=>simp only; rw[hrep]; simp
 have hdn:jY es (Array.replicate ops.toArray.size false)=fun _=>false:=by
  funext j
  unfold jY
  cases es[j]? with
  | none=>rfl
  | some e=>exact hrep e
 have:=key ops.toArray.size (Array.replicate ops.toArray.size false) a { w with drawn:=w.drawn+1 } r0 (by simp) (Bf.start _ _ _) (by rw[hstart]; exact ha) (by rw[hdn]; exact h0 _ (Below.refl _ _).drew rfl) (fun fl hfl=>by
  subst hfl
  rw[List.filter_eq_self.2 (fun i _=>by rw[hrep]; rfl)]
  simp)
 simpa using this
theorem cO{r:Gh}{k j:Nat}{p:Nat × Nat}(h:j≠k):kJ r k p j=r j:=by
 unfold kJ
 have:Nat.beq j k=false:=by
  cases hq:Nat.beq j k
  ·rfl
  ·exact absurd (Nat.eq_of_beq_eq_true hq) h
 rw[this]; rfl
theorem Dc{o:Oper}{ρ:Operand->Value}{T:TypeId}{m:Nat}{z:Nat->Value}(ho:o.op = .alloc T)(hz:((P.info? T).bind (·.zero)).map (·.cells)=some (ay m z))(w1:World) : ∃ w2,(execOp ρ o).run P w1 = .ok (.value (.pointer (some ⟨w1.heap.size,0,none⟩))) w2/\aP w2 w1.heap.size m z T/\Stp w1.heap.size w1 w2:=by
 obtain⟨zz,hz1,hz2⟩:=Option.map_eq_some_iff.1 hz
 obtain⟨ti,hi1,hz3⟩:=Option.bind_eq_some_iff.1 hz1
 refine⟨w1.alloc (.cells zz.cells T),?_,?_,Stp.alloc _ _⟩
 ·unfold execOp
  simp[ho,Instr.alloc,zeroValue,typeInfo,hi1,hz3,newVar,newRow]
 show(w1.alloc _).heap[w1.heap.size]? = _
 rw[alloc_at,if_pos rfl,hz2]
theorem Df{o:Oper}{ρ:Operand->Value}{T T':TypeId}{a v:Operand}{m g:Nat}{x y:Nat->Value}{u:Value}(ho:o.op = .store T' a v)(hsz:(P.info? T').map (·.size)=some m)(ea:ρ a = .pointer (some ⟨g,0,none⟩))(ev':ρ v=u)(hu:u.cells=ay m y)(h1 : ∀ j,j<m->(y j).oneCell'=true){w1:World}(hb:aP w1 g m x T) : ∃ w2,(execOp ρ o).run P w1 = .ok .skip w2/\aP w2 g m y T/\Stp g w1 w2:=by
 have hg:w1.heap[g]? = some (.cells (ay m x) T (0,0)):=hb
 have hall:(ay m y).all (·.oneCell')=true:=by
  rw[Array.all_eq_true_iff_forall_mem]
  intro q hqm
  obtain⟨j,hj,he⟩:=Array.getElem_of_mem hqm
  have hj':j<m:=by simpa [aV] using hj
  have h5:=dN y hj'
  rw[Array.getElem?_eq_getElem hj,he]at h5
  rw[Option.some.inj h5]; exact h1 j hj'
 have PE:(storeVar T' ⟨g,0,none⟩ u).run P w1 = .ok () (w1.setRow g (ay m y)):=by
  have h6:=run_storeCells_at (P:=P) g 0 T (ay m y).toList 0 (ay m x) w1 hg (by simp[aV]) (fun q hq=>(Array.all_eq_true_iff_forall_mem.1 hall) q (by simpa using hq))
  have h7:((ay m x).toList.take (0+0)++(ay m y).toList++(ay m x).toList.drop (0+0+(ay m y).toList.length)).toArray=ay m y:=by
   rw[List.drop_eq_nil_of_le (by simp[aV])]; simp
  rw[h7]at h6
  cases hq:P.info? T' with
  | none=>simp[hq]at hsz
  | some ti =>
    have hz':ti.size=m:=by simp[hq]at hsz; omega
    simp only[storeVar,sizeOf,typeInfo,Sem.run_bind,run_program,hq,hu,aV,hz',ne_eq,not_true_eq_false,if_false,Result.andThen_ok,Sem.run_pure,h6]
 obtain⟨s1,s2,s3⟩:=qQ (w:=w1) (cs:=ay m y) hg
 refine⟨_,?_,s2,s1⟩
 unfold execOp
 simp only[ho,ea,ev',Instr.storeAt,Instr.sureAddr,Sem.run_bind,Sem.run_pure,Result.andThen_ok,PE]
def uL(i1 i2:Nat)(vs:Array Value)(g1 g2:Nat):Nat->Value:=fun i=>bif Nat.beq i i1 then .pointer (some ⟨g1,0,none⟩)else bif Nat.beq i i2 then .pointer (some ⟨g2,0,none⟩)else vs.getD i undef
def AZ(ops:List Oper)(f:Nat->Value)(i1 i2:Nat)(vs:Array Value)(g1 g2:Nat):Nat->Value:=full ops f (uL i1 i2 vs g1 g2)
structure Nj(w:World)(m1 m2:Nat)(z1 y1 z2 y2:Nat->Value)(T1 T2:TypeId)(m:Nat->Bool)(r:Gh)(v:World):Prop where
 b:Below w.heap.size w v
 a:m 0=true->w.heap.size<=(r 0).1/\aP v (r 0).1 m1 (if m 2=true then y1 else z1) T1
 c:m 1=true->w.heap.size<=(r 1).1/\aP v (r 1).1 m2 (if m 3=true then y2 else z2) T2
 ne:m 0=true->m 1=true->(r 0).1≠(r 1).1
theorem Nj.up{m1 m2:Nat}{z1 y1 z2 y2:Nat->Value}{T1 T2:TypeId}{m:Nat->Bool}{r:Gh}{v v':World}(h:Nj w m1 m2 z1 y1 z2 y2 T1 T2 m r v)(hb:Below v.heap.size v v'):Nj w m1 m2 z1 y1 z2 y2 T1 T2 m r v' :=
 ⟨yS h.b hb,fun q=>⟨(h.a q).1,(h.a q).2.aC (Sb hb) (Nat.ne_of_lt (h.a q).2.lt)⟩,fun q=>⟨(h.c q).1,(h.c q).2.aC (Sb hb) (Nat.ne_of_lt (h.c q).2.lt)⟩,h.ne⟩
def EM(P:Program)(f':Nat->Value)(ops:Array Oper)(w:World)(es:List Nat)(vs:Array Value):List Oper->Nat->Prop
 | [],_=>True
 | o::l,i=>(es.contains i=true\/(if Region.wanted o (yf ops f')then QB P (ev f') o w (vs.getD i undef)else vs.getD i undef=undef))/\EM P f' ops w es vs l (i+1)
theorem zN{f':Nat->Value}{IZ:Array Oper}{es:List Nat}{vs:Array Value} : ∀ {l:List Oper} {k:Nat},EM P f' IZ w es vs l k -> ∀ i,i<l.length->(es.contains (k+i)=true\/(if Region.wanted (opAt l i) (yf IZ f')then QB P (ev f') (opAt l i) w (vs.getD (k+i) undef)else vs.getD (k+i) undef=undef))
 | [],_,_,i,hi=>absurd hi (by simp)
 | o::l,k,h,0,_=>h.1
 | o::l,k,h,i+1,hi=>by
   have:=zN h.2 i (by simpa using hi)
   rwa [show k+1+i=k+(i+1) by omega]at this
theorem xW{i j:Nat}(h:i≠j):Nat.beq i j=false:=by
 cases hq:Nat.beq i j
 ·rfl
 exact absurd (Nat.eq_of_beq_eq_true hq) h
def uM(l:H9)(j:Nat):Bool:=l.any fun x=>Nat.beq x.1 j
theorem nZ{l:H9}{j:Nat}(h:uM l j=true) : ∃ x∈l,x.1=j:=by
 unfold uM at h
 rw[List.any_eq_true]at h
 obtain⟨x,h1,h2⟩:=h
 exact⟨x,h1,Nat.eq_of_beq_eq_true h2⟩
theorem W.two{id:Nat}{T1 T2 Wm T2':TypeId}{a1 v1 a2 v2:Operand}{m1 m2:Nat}{z1 y1 z2 y2:Nat->Value}{u1 u2:Value}(i1 i2 s1 s2:Nat)(pr po:List H9)(vs:Array Value)(hm:P.follows .mixedOrders=true)(hok:iL n ops=true)(hsel:Region.noSelect ops.toArray=true)(KR:EL ops [i1,i2,s1,s2] pr po=true)
 (hes : [i1,i2,s1,s2].all (fun e=>Nat.blt e ops.length&&(match (opAt ops e).guard with|none=>true|_=>false))=true) (hnd:decide [i1,i2,s1,s2].Nodup=true)
 (hw1:uM (pr.getD s1 []) 0=true) (hw2:uM (pr.getD s2 []) 1=true) (hw3:uM (po.getD i1 []) 2=true) (hw4:uM (po.getD i2 []) 3=true)
 (o1:(opAt ops i1).op = .alloc T1) (o2:(opAt ops i2).op = .alloc T2) (n1:((P.info? T1).bind (·.zero)).map (·.cells)=some (ay m1 z1)) (n2:((P.info? T2).bind (·.zero)).map (·.cells)=some (ay m2 z2))
 (q1:(opAt ops s1).op = .store Wm a1 v1) (q2:(opAt ops s2).op = .store T2' a2 v2) (d1:(opAt ops s1).dst=none) (d2:(opAt ops s2).dst=none) (e1:(P.info? Wm).map (·.size)=some m1) (e2:(P.info? T2').map (·.size)=some m2)
 (ha1 : ∀ g1 g2,ev (AZ ops f i1 i2 vs g1 g2) a1 = .pointer (some ⟨g1,0,none⟩)) (ha2 : ∀ g1 g2,ev (AZ ops f i1 i2 vs g1 g2) a2 = .pointer (some ⟨g2,0,none⟩)) (hv1 : ∀ g1 g2,ev (AZ ops f i1 i2 vs g1 g2) v1=u1) (hv2 : ∀ g1 g2,ev (AZ ops f i1 i2 vs g1 g2) v2=u2)
 (hu1:u1.cells=ay m1 y1) (hu2:u2.cells=ay m2 y2) (h11 : ∀ j,j<m1->(y1 j).oneCell'=true) (h12 : ∀ j,j<m2->(y2 j).oneCell'=true)
 (hq : ∀ g1 g2,EM P (AZ ops f i1 i2 vs g1 g2) ops.toArray w [i1,i2,s1,s2] vs ops 0)
 (h : ∀ g1 g2 w' f',f'=AZ ops f i1 i2 vs g1 g2->w.heap.size<=g1->w.heap.size<=g2->g1≠g2->aP w' g1 m1 y1 T1->aP w' g2 m2 y2 T2->Below w.heap.size w w'->Q .normal f' w'):W P n (.region id ops.toArray true) Q f w:=by
 have hn:=of_decide_eq_true hnd
 simp only[List.nodup_cons,List.mem_cons,List.not_mem_nil,or_false,not_or]at hn
 obtain⟨⟨x12,x1s,x1t⟩,⟨x2s,x2t⟩,xst,_⟩:=hn
 refine W.masks [i1,i2,s1,s2] pr po (fun r=>uL i1 i2 vs (r 0).1 (r 1).1) (Nj w m1 m2 z1 y1 z2 y2 T1 T2) hm hok hsel KR hes (of_decide_eq_true hnd) (fun _=>(0,0)) (fun w1 hb _=>⟨hb,fun h=>(nomatch h),fun h=>(nomatch h),fun h=>(nomatch h)⟩) ?_ ?_ ?_ ?_
 ·intro i hi hni r m v _ _ hS
  rcases zN (hq (r 0).1 (r 1).1) i hi with h2|h2
  ·rw[Nat.zero_add]at h2; rw[h2]at hni; cases hni
  rw[Nat.zero_add]at h2
  have hni':i≠i1/\i≠i2/\i≠s1/\i≠s2:=by simpa using hni
  have hv':uL i1 i2 vs (r 0).1 (r 1).1 i=vs.getD i undef:=by unfold uL; rw[xW hni'.1,xW hni'.2.1]; rfl
  show if Region.wanted (opAt ops i) (yf ops.toArray (AZ ops f i1 i2 vs (r 0).1 (r 1).1))then Oper.quietUpon P _ v (uL i1 i2 vs (r 0).1 (r 1).1 i) ((execOp (ev (AZ ops f i1 i2 vs (r 0).1 (r 1).1)) (opAt ops i)).run P v)else uL i1 i2 vs (r 0).1 (r 1).1 i=undef
  rw[hv']
  by_cases hw:Region.wanted (opAt ops i) (yf ops.toArray (AZ ops f i1 i2 vs (r 0).1 (r 1).1))=true
  ·rw[if_pos hw]at h2 ⊢
   rcases h2 v hS.b with h3|⟨g,args,h3,h4⟩
   ·rw[h3]; exact⟨rfl,rfl⟩
   rw[h3]; exact⟨rfl,h4.mono fun e w2 ⟨he,hb2⟩=>⟨he,hS.up hb2⟩⟩
  rw[if_neg hw]at h2 ⊢; exact h2
 ·intro j i hj r m v a K hpr hpo hmj hS ha hK
  match j,hj with
  | 0,hj =>
    obtain rfl:i1=i:=by simpa using hj
    obtain⟨v2,hr,hb,hs⟩:=Dc (ρ:=a.eval) o1 n1 v
    unfold Oper.wp
    rw[hr]
    obtain⟨x,hx,ex⟩:=nZ hw3
    have hm2:m 2=false:=by rw[<- ex]; exact hpo x hx
    have:=hK (v.heap.size,0) v2 ⟨yS hS.b hs.old,fun _=>by
     rw[jI]
     exact⟨hS.b.size,by show aP v2 v.heap.size m1 (if m 2=true then y1 else z1) T1; rw[hm2]; exact hb⟩,fun q=>by
     have q:m 1=true:=q
     rw[cO (by decide)]
     exact⟨(hS.c q).1,(hS.c q).2.aC hs (Nat.ne_of_lt (hS.c q).2.lt)⟩,fun _ q=>by
     have q:m 1=true:=q
     rw[jI,cO (by decide)]
     exact Nat.ne_of_gt (hS.c q).2.lt⟩
    have hv':uL i1 i2 vs (kJ r 0 (v.heap.size,0) 0).1 (kJ r 0 (v.heap.size,0) 1).1 i1 = .pointer (some ⟨v.heap.size,0,none⟩):=by unfold uL; rw[Nat.beq_refl,jI]; rfl
    rw[hv']at this
    exact this
  | 1,hj =>
    obtain rfl:i2=i:=by simpa using hj
    obtain⟨v2,hr,hb,hs⟩:=Dc (ρ:=a.eval) o2 n2 v
    unfold Oper.wp
    rw[hr]
    obtain⟨x,hx,ex⟩:=nZ hw4
    have Xf:m 3=false:=by rw[<- ex]; exact hpo x hx
    have:=hK (v.heap.size,0) v2 ⟨yS hS.b hs.old,fun q=>by
     have q:m 0=true:=q
     rw[cO (by decide)]
     exact⟨(hS.a q).1,(hS.a q).2.aC hs (Nat.ne_of_lt (hS.a q).2.lt)⟩,fun _=>by
     rw[jI]
     exact⟨hS.b.size,by show aP v2 v.heap.size m2 (if m 3=true then y2 else z2) T2; rw[Xf]; exact hb⟩,fun q _=>by
     have q:m 0=true:=q
     rw[jI,cO (by decide)]
     exact Nat.ne_of_lt (hS.a q).2.lt⟩
    have hv':uL i1 i2 vs (kJ r 1 (v.heap.size,0) 0).1 (kJ r 1 (v.heap.size,0) 1).1 i2 = .pointer (some ⟨v.heap.size,0,none⟩):=by unfold uL; rw[xW (fun e=>x12 e.symm),Nat.beq_refl,jI]; rfl
    rw[hv']at this
    exact this
  | 2,hj =>
    obtain rfl:s1=i:=by simpa using hj
    obtain⟨x,hx,ex⟩:=nZ hw1
    have hm0:m 0=true:=by rw[<- ex]; exact hpr x hx
    have ea:a.eval a1 = .pointer (some ⟨(r 0).1,0,none⟩):=(ha a1 (by rw[q1]; simp[Op.operands])).trans (ha1 (r 0).1 (r 1).1)
    have ev':a.eval v1=u1:=(ha v1 (by rw[q1]; simp[Op.operands])).trans (hv1 (r 0).1 (r 1).1)
    obtain⟨Vn,hr,hb,hs⟩:=Df q1 e1 ea ev' hu1 h11 (hS.a hm0).2
    unfold Oper.wp
    rw[hr]
    show K (a.put (opAt ops s1).dst undef) _
    rw[d1]
    have:=hK (0,0) Vn ⟨hs.below hS.b hS.b.size (hS.a hm0).1,fun _=>by
     rw[cO (by decide)]
     exact⟨(hS.a hm0).1,by show aP Vn (r 0).1 m1 (if KQ m 2 2=true then y1 else z1) T1; exact hb⟩,fun q=>by
     have q:m 1=true:=q
     rw[cO (by decide)]
     exact⟨(hS.c q).1,(hS.c q).2.aC hs (fun e=>hS.ne hm0 q e.symm)⟩,fun _ q=>by
     have q:m 1=true:=q
     rw[cO (by decide),cO (by decide)]
     exact hS.ne hm0 q⟩
    rw[d1]at this
    exact this
  | 3,hj =>
    obtain rfl:s2=i:=by simpa using hj
    obtain⟨x,hx,ex⟩:=nZ hw2
    have hm1:m 1=true:=by rw[<- ex]; exact hpr x hx
    have ea:a.eval a2 = .pointer (some ⟨(r 1).1,0,none⟩):=(ha a2 (by rw[q2]; simp[Op.operands])).trans (ha2 (r 0).1 (r 1).1)
    have ev':a.eval v2=u2:=(ha v2 (by rw[q2]; simp[Op.operands])).trans (hv2 (r 0).1 (r 1).1)
    obtain⟨Vn,hr,hb,hs⟩:=Df q2 e2 ea ev' hu2 h12 (hS.c hm1).2
    unfold Oper.wp
    rw[hr]
    show K (a.put (opAt ops s2).dst undef) _
    rw[d2]
    have:=hK (0,0) Vn ⟨hs.below hS.b hS.b.size (hS.c hm1).1,fun q=>by
     have q:m 0=true:=q
     rw[cO (by decide)]
     exact⟨(hS.a q).1,(hS.a q).2.aC hs (hS.ne q hm1)⟩,fun _=>by
     rw[cO (by decide)]
     exact⟨(hS.c hm1).1,by show aP Vn (r 1).1 m2 (if KQ m 3 3=true then y2 else z2) T2; exact hb⟩,fun q _=>by
     have q:m 0=true:=q
     rw[cO (by decide),cO (by decide)]
     exact hS.ne q hm1⟩
    rw[d2]at this
    exact this
  | j+4,hj=>simp at hj
 ·intro i hi j r p hx hne hjl
  have hj:j=0\/j=1\/j=2\/j=3:=by simp at hjl; omega
  show uL i1 i2 vs (kJ r j p 0).1 (kJ r j p 1).1 i=uL i1 i2 vs (r 0).1 (r 1).1 i
  unfold uL
  rcases hj with rfl|rfl|rfl|rfl
  ·have:i≠i1:=fun e=>hne (by rw[e]; rfl)
   rw[xW this]; simp only[cond_false]; rw[cO (by decide)]
  ·have:i≠i2:=fun e=>hne (by rw[e]; rfl)
   rw[xW this]; simp only[cond_false]; rw[cO (by decide)]
  ·rw[cO (by decide),cO (by decide)]
  rw[cO (by decide),cO (by decide)]
 intro r m w' hall hS
 have m0:=hall 0 (by simp); have m1':=hall 1 (by simp); have m2':=hall 2 (by simp); have m3:=hall 3 (by simp)
 have ha:=hS.a m0; have hc:=hS.c m1'
 rw[m2']at ha; rw[m3]at hc
 exact h (r 0).1 (r 1).1 w' _ rfl ha.1 hc.1 (hS.ne m0 m1') ha.2 hc.2 hS.b
end
end Fx
end Go.Proofs.YtahbiajdgealnaaDoor
namespace Go.Proofs.YtahbiajdgealnaaDoor
open Go.RowKit Rt
open Fx (ah aj au ak aJ aA aO eZ av bF dI aK x_len dw bX dn bG Lv sN Ln Ws Qv Wl Rp Wc Qs Wr Sb Lk Wk rC rV sR)
set_option maxRecDepth 20000
namespace Rt
def jZ(v:EvM):Int:=1099511627776*v.o+v.seq
def jw(m:dD)(v:EvM):Int:=if 5<=m.own (bC v)\/140737488355328<v.bL then 6 else m.T.err (jZ v) v.node
def zO(m:dD)(v:EvM):dD := { m with T:=m.T.put (jZ v) v.node,R:=Fx.aH m.R m.T.n (upd (fun _=>0) (bC v) v.bL),own:=aY m.own (bC v) (m.own (bC v)+1) }
theorem KS{T:cu}{pa:Int}{id:Int}{w:World}{b n:Nat}{x:Nat->Int}(h:Fx.Mp w b n x (Fx.aH (vR T) T.n (.int .u64 pa))):Fx.Mp w b n x (vR (T.put id pa)):=h.mM fun i _=>⟨rfl,by show Fx.aH (vR T) T.n _ i = .int .u64 (Fx.aH T.p T.n pa i); unfold Fx.aH vR; split <;> rfl⟩
theorem Nk{R:Nat->Nat->Int}{j n b:Nat}{r:Nat->Int}{x:Nat->Int}{w:World}(h:Fx.Mp w b n x (Fx.aH (nX R) j (.agg (Fx.ay 54 (Fx.rv .i64 r))))):Fx.Mp w b n x (nX (Fx.aH R j r)):=wI _ _ _ _ h
end Rt
theorem Vo(o q:Int)(w:World)(ho:1<=o/\o<=6)(hq:1<=q/\q<1099511627776):Calls Tryd.prog 152 #[.int .i64 o,.int .u64 q] w fun e w'=>e = .returned (.int .u64 (1099511627776*o+q))/\w'=w:=by
 have h:=Yj o.toNat q.toNat w (by omega) (by omega)
 rw[show((o.toNat:Nat):Int)=o by omega,show((q.toNat:Nat):Int)=q by omega]at h
 exact h
theorem KT(m:dD)(lp B:Nat)(w:World)(h:iT w B lp m)(v:EvM)(hv:bZ v=true)(h0:m.T.err (jZ v) v.node=0)(a:Nat)(ha:a<6)(hra:bC v=a)(YA:0<=m.own a/\m.own a<=1000)(hid:0<=jZ v/\jZ v<=18446744073709551615)(gl:Nat)(gi:Nat)(ge:Nat)(gk:Nat)(hl:Fx.aP w gl 1 (fun _=>(pt lp)) 44)(hi:Fx.aP w gi 1 (fun _ => .int .u64 (jZ v)) 22)(he:Fx.aP w ge 14 (aW v) 28)(hk:Fx.aP w gk 1 (fun _ => .int .i64 (a:Int)) 3) :
 Calls Tryd.prog 154 #[(pt gl),(pt gi),(pt ge),(pt gk)] w fun e w'=>e = .returned (.tuple #[])/\iT w' B lp (zO m v)/\Fx.jB (xR m lp) w w':=by
 have hC:=h.c
 have hT:=h.t
 have hP:=h.p
 have hR:=h.r
 have hG:=h.g
 have hA:=h.a
 have hN:=h.ne
 have lC:=h.c.lt
 have lT:=h.t.lt
 have lP:=h.p.lt
 have lR:=h.r.lt
 have lG:=h.g.lt
 have lA:=h.a.lt
 have OE:=hl.lt
 have lgi:=hi.lt
 have LX:=he.lt
 have lgk:=hk.lt
 have hnz : ∀ i,i<m.T.n->m.T.x i≠jZ v:=fun i hi e=>by have:=(D6 h0).2.1; rw[fQ hi e]at this; cases this
 refine Fx.enter Tryd.func154 rfl (n:=42) rfl (by rfl) ?_
 refine Ws ?_
 -- region 0 draws
 refine Fx.W.bH [5,0,1,2,3,4,6,7] [4,0,0,4,4,0,4,3] Fx.Mk Fx.Mk.refl Fx.Mk.trans (aQ := [(7,0,[3,2,1,0]),(7,3,[3]),(7,4,[4]),(7,6,[6])]) (by kernel_rfl) (by kernel_rfl) (by kernel_rfl) (by kernel_rfl) (by kernel_rfl) fun jc bT fE => ?_
 have s1:Fx.Stp w.heap.size w jc:=Sb bT
 have m1:=hC.aC s1 hC.ne
 have m2:=hT.up s1.old
 have m3:=hP.up s1.old
 have m4:=hR.up s1.old
 have m5:=hG.up s1.old
 have m6:=hA.up s1.old
 have m7:=hl.aC s1 hl.ne
 have m8:=hi.aC s1 hi.ne
 have m9:=he.aC s1 he.ne
 have m10:=hk.aC s1 hk.ne
 have b1:=(Fx.jB.refl (xR m lp) w).then s1 (.inr (Fx.jB.refl (xR m lp) w).size)
 refine Rp ((pf ge 9)) (fun v1=>au rfl rfl Tryd.underlying28 rfl (s:=1) (by kernel_rfl) rfl (by show _+9=_; omega)) (Fx.R.s ((pt lp)) (ak (x:=fun _=>(pt lp)) rfl rfl (by kernel_rfl) m7.aL (i:=0) (by omega) (by omega) rfl) ?_)
 refine Rp ((pt lp)) (fun v1=>aO rfl rfl) (Rp ((pf lp 18)) (fun v1=>au rfl rfl Tryd.underlying93 rfl (s:=1) (by kernel_rfl) rfl (by show _+18=_; omega)) (Fx.R.s ((pt m.tp)) (ak (x:=fM m) rfl rfl (by kernel_rfl) m1.aL (i:=18) (by omega) (by omega) rfl) ?_))
 refine Fx.R.s (.int .u64 (jZ v)) (ak (x:=fun _ => .int .u64 (jZ v)) rfl rfl (by kernel_rfl) m8.aL (i:=0) (by omega) (by omega) rfl) ?_
 refine Fx.R.s (.int .u64 (v.node)) (ak (x:=aW v) rfl rfl (by kernel_rfl) m9.aL (i:=9) (by omega) (by omega) rfl) ?_
 refine Fx.R.fP (by rfl) ?_
 refine Fx.L.call (by rfl) (rC (args := [(pt m.tp),.int .u64 (jZ v),.int .u64 (v.node)]) rfl rfl Tryd.func155 rfl rfl) rfl ((Ck (jZ v) v.node m2 hid).mono ?_)
 rintro e9 w1 ⟨he,m11,s2⟩
 refine⟨_,he,?_⟩
 clear he
 have hcm1:=m2.uX s2
 have m12:=m1.bY hcm1
 have m13:=m3.bY hcm1 ((Ne.symm hN.mp))
 have m14:=m4.bY hcm1 ((Ne.symm hN.mr))
 have m15:=m5.bY hcm1 ((Ne.symm hN.mg))
 have m16:=m6.bY hcm1 ((Ne.symm hN.ma))
 have m17:=m7.bY hcm1
 have m18:=m8.bY hcm1
 have m19:=m9.bY hcm1
 have m20:=m10.bY hcm1
 have b2:=b1.then s2 (.inl (.inr (.inl rfl)))
 have m21:mD w1 B m.tp m.mb (m.T.put (jZ v) v.node):=by rw[<- cu.wJ h0]; exact m11
 refine Ln (Fx.R.nil (sN (Ws ?_)))
 -- region 1 draws
 refine Fx.W.bH [5,0,1,2,3,4,6,7] [4,0,0,4,4,0,4,3] Fx.Mk Fx.Mk.refl Fx.Mk.trans (aQ := [(7,0,[0]),(7,3,[3]),(7,4,[4]),(7,6,[6])]) (by kernel_rfl) (by kernel_rfl) (by kernel_rfl) (by kernel_rfl) (by kernel_rfl) fun sI fU mR => ?_
 have s3:Fx.Stp w1.heap.size w1 sI:=Sb fU
 have m22:=m12.aC s3 m12.ne
 have m23:=m13.up s3.old
 have m24:=m14.up s3.old
 have qC:=m15.up s3.old
 have oZ:=m16.up s3.old
 have qU:=m17.aC s3 m17.ne
 have qV:=m18.aC s3 m18.ne
 have qD:=m19.aC s3 m19.ne
 have sJ:=m20.aC s3 m20.ne
 have mH:=m21.up s3.old
 have b3:=b2.then s3 (.inr b2.size)
 refine Rp ((pf ge 9)) (fun v1=>au rfl rfl Tryd.underlying28 rfl (s:=1) (by kernel_rfl) rfl (by show _+9=_; omega)) (Fx.R.s ((pt lp)) (ak (x:=fun _=>(pt lp)) rfl rfl (by kernel_rfl) qU.aL (i:=0) (by omega) (by omega) rfl) ?_)
 refine Rp ((pt lp)) (fun v1=>aO rfl rfl) (Rp ((pf lp 19)) (fun v1=>au rfl rfl Tryd.underlying93 rfl (s:=1) (by kernel_rfl) rfl (by show _+19=_; omega)) (Fx.R.s (.map (some m.pb)) (ak (x:=fM m) rfl rfl (by kernel_rfl) m22.aL (i:=19) (by omega) (by omega) rfl) ?_))
 refine Fx.R.s (.int .u64 (jZ v)) (ak (x:=fun _ => .int .u64 (jZ v)) rfl rfl (by kernel_rfl) qV.aL (i:=0) (by omega) (by omega) rfl) ?_
 refine Fx.R.s (.int .u64 (v.node)) (ak (x:=aW v) rfl rfl (by kernel_rfl) qD.aL (i:=9) (by omega) (by omega) rfl) ?_
 refine Fx.R.fP (by rfl) ?_
 refine Fx.L.GJ (by rfl) rfl rfl rfl rfl rfl m23 Tryd.underlying87 Tryd.underlying22 hnz fun w2 m32 s4 z1 => ?_
 have hcm2:=m23.uX s4
 have mI:=m22.bY hcm2
 have nO:=m24.bY hcm2 ((Ne.symm hN.pr))
 have qW:=qC.bY hcm2 ((Ne.symm hN.pg))
 have nu:=oZ.bY hcm2 ((Ne.symm hN.pa))
 have vL:=qU.bY hcm2
 have vM:=qV.bY hcm2
 have qE:=qD.bY hcm2
 have qm:=sJ.bY hcm2
 have nP:=mH.bY hcm2 (hN.mp)
 have b4:=b3.then s4 (.inl (.inr (.inr (.inl rfl))))
 have oH:Fx.Mp w2 m.pb ((m.T.put (jZ v) v.node).n) ((m.T.put (jZ v) v.node).x) (vR (m.T.put (jZ v) v.node)):=KS m32
 refine Ln (Fx.R.nil (sN (Ws ?_)))
 -- region 2 draws
 refine Fx.W.bH [0,2,3,7,8,1,4,5,6,9,10] [4,4,0,0,0,4,0,0,0,0,3] Fx.Mk Fx.Mk.refl Fx.Mk.trans (aQ := [(10,0,[0]),(10,1,[1]),(10,5,[5])]) (by kernel_rfl) (by kernel_rfl) (by kernel_rfl) (by kernel_rfl) (by kernel_rfl) fun GU oV BS => ?_
 have s5:Fx.Stp w2.heap.size w2 GU:=Sb oV
 have oo:=mI.aC s5 mI.ne
 have tT:=nO.up s5.old
 have pq:=qW.up s5.old
 have qX:=nu.up s5.old
 have uZ:=vL.aC s5 vL.ne
 have zl:=vM.aC s5 vM.ne
 have sK:=qE.aC s5 qE.ne
 have ny:=qm.aC s5 qm.ne
 have qo:=nP.up s5.old
 have tV:=oH.up s5.old
 have b5:=b4.then s5 (.inr b4.size)
 refine Fx.R.s ((pt lp)) (ak (x:=fun _=>(pt lp)) rfl rfl (by kernel_rfl) uZ.aL (i:=0) (by omega) (by omega) rfl) ?_
 refine Rp ((pt lp)) (fun v1=>aO rfl rfl) (Rp ((pf lp 21)) (fun v1=>au rfl rfl Tryd.underlying93 rfl (s:=6) (by kernel_rfl) rfl (by show _+21=_; omega)) (Rp ((pt lp)) (fun v1=>aO rfl rfl) (Rp ((pf lp 21)) (fun v1=>au rfl rfl Tryd.underlying93 rfl (s:=6) (by kernel_rfl) rfl (by show _+21=_; omega)) (Fx.R.s (.int .i64 ((a:Int))) (ak (x:=fun _ => .int .i64 (a:Int)) rfl rfl (by kernel_rfl) ny.aL (i:=0) (by omega) (by omega) rfl) ?_))))
 refine Rp ((pf lp (a+21))) (fun v1=>bF rfl rfl rfl Tryd.underlying91 (s:=1) (by kernel_rfl) (by omega) (by omega) (by omega)) (Fx.R.s (.int .i64 (m.own a)) (ak (x:=fM m) rfl rfl (by kernel_rfl) oo.aL (i:=a+21) (by omega) (by omega) (AU (p:=a) (by omega) (by omega))) ?_)
 refine Rp (.int .i64 ((m.own a)+1)) (fun v1=>Fx.aS rfl rfl rfl Fx.io) (Rp ((pf lp (a+21))) (fun v1=>bF rfl rfl rfl Tryd.underlying91 (s:=1) (by kernel_rfl) (by omega) (by omega) (by omega)) (Fx.R.fP (by rfl) ?_))
 refine Fx.L.bV (x:=fM m) (u := .int .i64 ((m.own a)+1)) (by rfl) rfl rfl rfl rfl (by rfl) (by kernel_rfl) oo (i:=a+21) (by omega) fun w3 sM s6 z2 => ?_
 have rT:Fx.aP w3 lp 29 (fM { m with own:=aY m.own a (m.own a+1) }) 93:=sM.to (M4 ha (by omega) _)
 have aT:=Fx.gD.bP s6 oo.ty
 have vN:=tT.aU aT trivial
 have uw:=pq.aU aT trivial
 have nQ:=qX.aU aT trivial
 have qY:=uZ.aU aT (by decide)
 have qM:=zl.aU aT (by decide)
 have lM:=sK.aU aT (by decide)
 have qN:=ny.aU aT (by decide)
 have oI:=qo.aU aT (by decide)
 have sO:=tV.aU aT trivial
 have b6:=b5.then s6 (.inl (.inl rfl))
 refine Ln (Fx.R.nil (sN (Ws (Wl (Lv (.agg (Fx.ay 54 (Fx.rv .i64 (fun _=>0)))) (bX (vs := []) (places := #[(0,6),(6,6),(12,6),(18,36)]) (m:=54) (x:=Fx.rv .i64 (fun _=>0)) rfl rfl Tryd.underlying82 (by kernel_rfl) (by kernel_rfl) (by rfl)) (Fx.L.new (m:=54) (y:=Fx.rv .i64 (fun _=>0)) (by rfl) rfl (by kernel_rfl) rfl fun g1 w4 aZ m64 s7 z3 => ?_))))))
 have xD:=vN.up s7.old
 have zm:=uw.up s7.old
 have yA:=nQ.up s7.old
 have yB:=qY.aC s7 qY.ne
 have tX:=qM.aC s7 qM.ne
 have yK:=lM.aC s7 lM.ne
 have vO:=qN.aC s7 qN.ne
 have xE:=oI.up s7.old
 have sP:=sO.up s7.old
 have zn:=rT.aC s7 rT.ne
 have b7:=b6.then s7 (.inr b6.size)
 have kM:w.heap.size<=g1:=by rw[aZ]; exact b6.size
 have YB:m.rb≠g1:=by rw[aZ]; exact Nat.ne_of_lt (vN.lt)
 have YC:m.gb≠g1:=by rw[aZ]; exact Nat.ne_of_lt (uw.lt)
 have YD:m.ab≠g1:=by rw[aZ]; exact Nat.ne_of_lt (nQ.lt)
 have YE:gl≠g1:=by rw[aZ]; exact Nat.ne_of_lt (qY.lt)
 have YF:gi≠g1:=by rw[aZ]; exact Nat.ne_of_lt (qM.lt)
 have YG:ge≠g1:=by rw[aZ]; exact Nat.ne_of_lt (lM.lt)
 have YH:gk≠g1:=by rw[aZ]; exact Nat.ne_of_lt (qN.lt)
 have YI:m.pb≠g1:=by rw[aZ]; exact Nat.ne_of_lt (sO.lt)
 have YJ:lp≠g1:=by rw[aZ]; exact Nat.ne_of_lt (rT.lt)
 have mO:g1<w4.heap.size:=m64.lt
 clear aZ
 refine Fx.L.dY (x:=Fx.rv .i64 (fun _=>0)) (y:=Fx.rv .i64 (fun _=>0)) (by rfl) rfl rfl rfl rfl (fun _ _=>rfl) (by kernel_rfl) m64 (i:=0) (by omega) fun w5 xG s8 z4 => ?_
 have Aq:Fx.aP w5 g1 54 (Fx.rv .i64 (fun _=>0)) 82:=Fx.dF xG
 have dL:=Fx.gD.bP s8 m64.ty
 have Ce:=xD.aU dL trivial
 have Cg:=zm.aU dL trivial
 have Ch:=yA.aU dL trivial
 have vP:=yB.aU dL (by decide)
 have yC:=tX.aU dL (by decide)
 have Ar:=yK.aU dL (by decide)
 have DF:=vO.aU dL (by decide)
 have Fw:=xE.aU dL (by decide)
 have GY:=sP.aU dL trivial
 have GZ:=zn.aU dL (by decide)
 have b8:=b7.then s8 (.inr kM)
 refine Ln (sN (Ws (Wl (Lv (.int .i64 ((a:Int))) (ak (x:=fun _ => .int .i64 (a:Int)) rfl rfl (by kernel_rfl) DF.aL (i:=0) (by omega) (by omega) rfl) (Lv ((pf ge 11)) (au rfl rfl Tryd.underlying28 rfl (s:=1) (by kernel_rfl) rfl (by show _+11=_; omega)) (Lv (.int .i64 (v.bL)) (ak (x:=aW v) rfl rfl (by kernel_rfl) Ar.aL (i:=11) (by omega) (by omega) rfl) (Lv ((pt g1)) (au rfl rfl Tryd.underlying82 rfl (s:=6) (by kernel_rfl) rfl rfl) (Lv ((pf g1 a)) (bF rfl rfl rfl Tryd.underlying79 (s:=1) (by kernel_rfl) (by omega) (by omega) (by omega)) (Fx.L.bV (x:=Fx.rv .i64 (fun _=>0)) (u := .int .i64 (v.bL)) (by rfl) rfl rfl rfl rfl (by rfl) (by kernel_rfl) Aq (i:=a) (by omega) fun w6 Ci s9 z5 => ?_)))))))))
 have D9:Fx.aP w6 g1 54 (Fx.rv .i64 (upd (fun _=>0) a v.bL)) 82:=Ci.to (Fx.zY _ _ _ _)
 have mo:=Fx.gD.bP s9 Aq.ty
 have G5:=Ce.aU mo trivial
 have Fy:=Cg.aU mo trivial
 have IC:=Ch.aU mo trivial
 have IE:=vP.aU mo (by decide)
 have F4:=yC.aU mo (by decide)
 have H8:=Ar.aU mo (by decide)
 have DL:=DF.aU mo (by decide)
 have KP:=Fw.aU mo (by decide)
 have IG:=GY.aU mo trivial
 have LY:=GZ.aU mo (by decide)
 have b9:=b8.then s9 (.inr kM)
 refine Ln (sN ?_)
 -- region 5 draws
 refine Fx.W.bH [0,1,2,3,4,5,6] [4,0,0,4,4,4,3] Fx.Mk Fx.Mk.refl Fx.Mk.trans (aQ := [(6,0,[0]),(6,3,[3]),(6,4,[4]),(6,5,[5])]) (by kernel_rfl) (by kernel_rfl) (by kernel_rfl) (by kernel_rfl) (by kernel_rfl) fun Qp Cb OO => ?_
 have s10:Fx.Stp w6.heap.size w6 Qp:=Sb Cb
 have LZ:=G5.up s10.old
 have Db:=Fy.up s10.old
 have xV:=IC.up s10.old
 have vW:=IE.aC s10 IE.ne
 have vX:=F4.aC s10 F4.ne
 have Dh:=H8.aC s10 H8.ne
 have xX:=DL.aC s10 DL.ne
 have xY:=KP.up s10.old
 have xZ:=IG.up s10.old
 have vY:=LY.aC s10 LY.ne
 have yO:=D9.aC s10 D9.ne
 have b10:=b9.then s10 (.inr b9.size)
 refine Fx.R.s ((pt lp)) (ak (x:=fun _=>(pt lp)) rfl rfl (by kernel_rfl) vW.aL (i:=0) (by omega) (by omega) rfl) ?_
 refine Rp ((pt lp)) (fun v1=>aO rfl rfl) (Rp ((pf lp 20)) (fun v1=>au rfl rfl Tryd.underlying93 rfl (s:=1) (by kernel_rfl) rfl (by show _+20=_; omega)) (Fx.R.s (.map (some m.rb)) (ak (x:=fM { m with own:=aY m.own a (m.own a+1) }) rfl rfl (by kernel_rfl) vY.aL (i:=20) (by omega) (by omega) rfl) ?_))
 refine Fx.R.s (.int .u64 (jZ v)) (ak (x:=fun _ => .int .u64 (jZ v)) rfl rfl (by kernel_rfl) vX.aL (i:=0) (by omega) (by omega) rfl) ?_
 refine Fx.R.s (.agg (Fx.ay 54 (Fx.rv .i64 (upd (fun _=>0) a v.bL)))) (aK (x:=Fx.rv .i64 (upd (fun _=>0) a v.bL)) (y:=Fx.rv .i64 (upd (fun _=>0) a v.bL)) rfl rfl (by kernel_rfl) (by kernel_rfl) yO.aL (i:=0) (by omega) (by omega) (fun j _=>by rw[Nat.zero_add])) ?_
 refine Fx.R.fP (by rfl) ?_
 refine Fx.L.GJ (by rfl) rfl rfl rfl rfl rfl LZ Tryd.underlying88 Tryd.underlying22 hnz fun w7 Di s11 z6 => ?_
 have tK:=LZ.uX s11
 have A8:=Db.bY tK ((Ne.symm hN.rg))
 have EN:=xV.bY tK ((Ne.symm hN.ra))
 have Nl:=vW.bY tK
 have Nn:=vX.bY tK
 have Np:=Dh.bY tK
 have Vp:=xX.bY tK
 have KU:=xY.bY tK (hN.mr)
 have KV:=xZ.bY tK (hN.pr)
 have yP:=vY.bY tK
 have KW:=yO.bY tK
 have b11:=b10.then s11 (.inl (.inr (.inr (.inr (.inl rfl)))))
 have Ib:Fx.Mp w7 m.rb ((m.T.put (jZ v) v.node).n) ((m.T.put (jZ v) v.node).x) (nX (Fx.aH m.R m.T.n (upd (fun _=>0) a v.bL))):=Nk Di
 refine Ln (Fx.R.nil (⟨.tuple #[],Fx.jS Tryd.results154,?_⟩))
 unfold zO; rw[hra]
 exact⟨rfl,{ c:=yP,t:=KU,p:=KV,r:=Ib,g:=A8,a:=EN,ne:=⟨hN.mp,hN.mr,hN.mg,hN.ma,hN.pr,hN.pg,hN.pa,hN.rg,hN.ra,hN.ga⟩,lB:=h.lB,pB:=h.pB,rB:=h.rB,gB:=h.gB,aB:=h.aB },b11⟩
theorem Nq(m:dD)(lp B:Nat)(w:World)(h:iT w B lp m)(v:EvM)(hv:bZ v=true)(YA : ∀ a,a<6->0<=m.own a/\m.own a<=1000) :
 Calls Tryd.prog 145 #[(pt lp),.agg (Fx.ay 14 (aW v))] w fun e w'=>Iz w B lp m (zO m v) (jw m v) e w':=by
 have hC:=h.c
 have hT:=h.t
 have hP:=h.p
 have hR:=h.r
 have hG:=h.g
 have hA:=h.a
 have hN:=h.ne
 have lC:=h.c.lt
 have lT:=h.t.lt
 have lP:=h.p.lt
 have lR:=h.r.lt
 have lG:=h.g.lt
 have lA:=h.a.lt
 obtain⟨a,ha,ho⟩ : ∃ a:Nat,a<6/\v.o=(a:Int)+1:=eF (ig hv)
 have hra:bC v=a:=by unfold bC; omega
 have hbd:=kX hv
 have hid:0<=jZ v/\jZ v<=18446744073709551615:=by unfold jZ; omega
 have hoa:=YA a ha
 refine Fx.enter Tryd.func145 rfl (n:=38) rfl (by rfl) ?_
 refine Ws (Wl (Fx.L.box (m:=1) (y:=fun _=>(pt lp)) (by rfl) rfl rfl (Fx.cells_one (by rfl)) rfl fun g1 w1 aZ m1 s1 z1 => ?_))
 have m2:=hC.aC s1 hC.ne
 have b1:=s1.below (Below.refl w.heap.size w) (Below.refl w.heap.size w).size (Below.refl w.heap.size w).size
 have kM:w.heap.size<=g1:=by rw[aZ]; exact(Below.refl w.heap.size w).size
 have jk:lp≠g1:=by rw[aZ]; exact Nat.ne_of_lt (hC.lt)
 have mO:g1<w1.heap.size:=m1.lt
 clear aZ
 refine Fx.L.box (m:=14) (y:=aW v) (by rfl) rfl rfl (Fx.aN _ _) rfl fun g2 w2 bS m3 s2 z2 => ?_
 have m4:=m2.aC s2 m2.ne
 have m5:=m1.aC s2 m1.ne
 have b2:=s2.below b1 b1.size b1.size
 have su:w.heap.size<=g2:=by rw[bS]; exact b1.size
 have O9:lp≠g2:=by rw[bS]; exact Nat.ne_of_lt (m2.lt)
 have Kt:g1≠g2:=by rw[bS]; exact Nat.ne_of_lt (m1.lt)
 have vK:g2<w2.heap.size:=m3.lt
 clear bS
 refine Lv (.nilFunc) (aj rfl rfl) (Lv (.int .i64 (0)) (aj rfl rfl) (Ln (sN (Ws ?_))))
 -- region 1 draws
 refine Fx.W.two (T1:=22) (T2:=3) (Wm:=22) (T2':=3) (a1 := .tmp 6) (v1 := .tmp 13) (a2 := .tmp 7) (v2 := .tmp 16) (m1:=1) (m2:=1) (z1:=Fx.rv .u64 (fun _=>0)) (y1:=fun _ => .int .u64 (jZ v)) (z2:=Fx.rv .i64 (fun _=>0)) (y2:=fun _ => .int .i64 ((a:Int))) (u1 := .int .u64 (jZ v)) (u2 := .int .i64 ((a:Int))) 8 9 10 11 [[],[],[],[],[],[],[],[],[],[],[(0,[8]),(1,[9])],[(0,[8]),(1,[9]),(2,[10])]] [[(2,[0]),(3,[0])],[(2,[1]),(3,[1])],[(2,[2]),(3,[2])],[(2,[3]),(3,[3])],[(2,[4]),(3,[4])],[(3,[5])],[(3,[6])],[(3,[7])],[(2,[8]),(3,[8])],[(2,[9]),(3,[9])],[(3,[10])],[]] #[(pt g2),.int .i64 (v.o),(pf g2 1),.int .u64 (v.seq),.int .u64 (jZ v),(pt g2),.int .i64 (v.o),.int .i64 ((a:Int)),undef,undef,undef,undef] (by kernel_rfl) (by kernel_rfl) (by kernel_rfl) (by kernel_rfl) (by kernel_rfl) (by kernel_rfl) (by kernel_rfl) (by kernel_rfl) (by kernel_rfl) (by kernel_rfl) rfl rfl (by kernel_rfl) (by kernel_rfl) rfl rfl rfl rfl (by kernel_rfl) (by kernel_rfl) (fun g3 g4=>(show Fx.ev _ (.tmp 6)=(pt g3)from by kernel_rfl)) (fun g3 g4=>(show Fx.ev _ (.tmp 7)=(pt g4)from by kernel_rfl)) (fun g3 g4=>(show Fx.ev _ (.tmp 13) = .int .u64 (jZ v)from by kernel_rfl)) (fun g3 g4=>(show Fx.ev _ (.tmp 16) = .int .i64 ((a:Int))from by kernel_rfl)) (Fx.cells_one (by rfl)) (Fx.cells_one (by rfl)) (fun _ _=>rfl) (fun _ _=>rfl) (fun g3 g4 => ?_) ?_
 ·refine⟨?_,?_,?_,?_,?_,?_,?_,?_,?_,?_,?_,?_,trivial⟩
  ·exact .inr (Fx.gW (v:=(pt g2)) (by kernel_rfl) (by kernel_rfl) (Fx.Bu fun v1 hv1=>au rfl (show Fx.ev _ (.tmp 3)=(pt g2)from by kernel_rfl) Tryd.underlying28 rfl (s:=1) (by kernel_rfl) rfl rfl))
  ·exact .inr (Fx.gW (v := .int .i64 (v.o)) (by kernel_rfl) (by kernel_rfl) (Fx.Bu fun v1 hv1=>ak (x:=aW v) rfl (show Fx.ev _ (.tmp 9)=(pt g2)from by kernel_rfl) (by kernel_rfl) (m3.aL.below hv1 (by have:=m3.lt; omega)) (i:=0) (by omega) (by omega) rfl))
  ·exact .inr (Fx.gW (v:=(pf g2 1)) (by kernel_rfl) (by kernel_rfl) (Fx.Bu fun v1 hv1=>au rfl (show Fx.ev _ (.tmp 3)=(pt g2)from by kernel_rfl) Tryd.underlying28 rfl (s:=1) (by kernel_rfl) rfl (by show _+1=_; omega)))
  ·exact .inr (Fx.gW (v := .int .u64 (v.seq)) (by kernel_rfl) (by kernel_rfl) (Fx.Bu fun v1 hv1=>ak (x:=aW v) rfl (show Fx.ev _ (.tmp 11)=(pf g2 1)from by kernel_rfl) (by kernel_rfl) (m3.aL.below hv1 (by have:=m3.lt; omega)) (i:=1) (by omega) (by omega) rfl))
  ·exact .inr (Fx.gW (v := .int .u64 (jZ v)) (by kernel_rfl) (by kernel_rfl) (Fx.qbC (fun v1 hv1=>rC (args := [.int .i64 (v.o),.int .u64 (v.seq)]) rfl (Fx.args2 (show Fx.ev _ (.tmp 10) = .int .i64 (v.o)from by kernel_rfl) (show Fx.ev _ (.tmp 12) = .int .u64 (v.seq)from by kernel_rfl)) Tryd.func152 rfl rfl) (fun v1 hv1=>(Vo v.o v.seq _ (by omega) (by omega)).mono fun e v2 h=>⟨h.1,(by rw[h.2]; exact Below.refl _ _)⟩)))
  ·exact .inr (Fx.gW (v:=(pt g2)) (by kernel_rfl) (by kernel_rfl) (Fx.Bu fun v1 hv1=>au rfl (show Fx.ev _ (.tmp 3)=(pt g2)from by kernel_rfl) Tryd.underlying28 rfl (s:=1) (by kernel_rfl) rfl rfl))
  ·exact .inr (Fx.gW (v := .int .i64 (v.o)) (by kernel_rfl) (by kernel_rfl) (Fx.Bu fun v1 hv1=>ak (x:=aW v) rfl (show Fx.ev _ (.tmp 14)=(pt g2)from by kernel_rfl) (by kernel_rfl) (m3.aL.below hv1 (by have:=m3.lt; omega)) (i:=0) (by omega) (by omega) rfl))
  ·exact .inr (Fx.gW (v := .int .i64 ((a:Int))) (by kernel_rfl) (by kernel_rfl) (Fx.Bu fun v1 hv1=>Fx.bD rfl (show Fx.ev _ (.tmp 15) = .int .i64 (v.o)from by kernel_rfl) (show Fx.ev _ (.const (.int .i64 (1))) = .int .i64 (1)from by kernel_rfl) Fx.io))
  ·exact .inl rfl
  ·exact .inl rfl
  ·exact .inl rfl
  exact .inl rfl
 rintro g3 g4 w3 f1 hf1 uY wH ne1 m6 m7 hb1
 have s3:=Sb hb1
 have acg:lp≠g3:=Nat.ne_of_lt (Nat.lt_of_lt_of_le (m4.lt) uY)
 have ach:g1≠g3:=Nat.ne_of_lt (Nat.lt_of_lt_of_le (m5.lt) uY)
 have aci:g2≠g3:=Nat.ne_of_lt (Nat.lt_of_lt_of_le (m3.lt) uY)
 have acj:lp≠g4:=Nat.ne_of_lt (Nat.lt_of_lt_of_le (m4.lt) wH)
 have acn:g1≠g4:=Nat.ne_of_lt (Nat.lt_of_lt_of_le (m5.lt) wH)
 have aco:g2≠g4:=Nat.ne_of_lt (Nat.lt_of_lt_of_le (m3.lt) wH)
 have m8:=m4.aC s3 m4.ne
 have m9:=m5.aC s3 m5.ne
 have m10:=m3.aC s3 m3.ne
 have b3:=s3.below b2 b2.size b2.size
 have uY:w.heap.size<=g3:=Nat.le_trans b2.size uY
 have LW:g3<w3.heap.size:=m6.lt
 have wH:w.heap.size<=g4:=Nat.le_trans b2.size wH
 have M6:g4<w3.heap.size:=m7.lt
 have q1:f1 2=(pt g1):=by rw[hf1]; kernel_rfl
 have q2:f1 3=(pt g2):=by rw[hf1]; kernel_rfl
 have q3:f1 4 = .nilFunc:=by rw[hf1]; kernel_rfl
 have q4:f1 5 = .int .i64 (0):=by rw[hf1]; kernel_rfl
 have q5:f1 6=(pt g3):=by rw[hf1]; kernel_rfl
 have q6:f1 7=(pt g4):=by rw[hf1]; kernel_rfl
 clear hf1
 refine sN (Ws (Ws ?_))
 -- region 2 draws
 refine Fx.W.bH [0,2,3,1,4,5,6,7,8,9,10,11] [4,4,0,0,0,4,0,0,0,4,0,0] Fx.Mk Fx.Mk.refl Fx.Mk.trans (aQ := []) (by kernel_rfl) (by kernel_rfl) (by kernel_rfl) (by kernel_rfl) (by kernel_rfl) fun jc bT fE => ?_
 have s4:Fx.Stp w3.heap.size w3 jc:=Sb bT
 have m11:=m8.aC s4 m8.ne
 have m12:=m9.aC s4 m9.ne
 have m13:=m10.aC s4 m10.ne
 have m14:=m6.aC s4 m6.ne
 have m15:=m7.aC s4 m7.ne
 have b4:=s4.below b3 b3.size b3.size
 refine Fx.R.s ((pt lp)) (ak (x:=fun _=>(pt lp)) rfl q1 (by kernel_rfl) m12.aL (i:=0) (by omega) (by omega) rfl) ?_
 refine Rp ((pt lp)) (fun v1=>aO rfl rfl) (Rp ((pf lp 21)) (fun v1=>au rfl rfl Tryd.underlying93 rfl (s:=6) (by kernel_rfl) rfl (by show _+21=_; omega)) (Fx.R.s (.int .i64 ((a:Int))) (ak (x:=fun _ => .int .i64 ((a:Int))) rfl q6 (by kernel_rfl) m15.aL (i:=0) (by omega) (by omega) rfl) ?_))
 refine Rp ((pf lp (a+21))) (fun v1=>bF rfl rfl rfl Tryd.underlying91 (s:=1) (by kernel_rfl) (by omega) (by omega) (by omega)) (Fx.R.s (.int .i64 (m.own a)) (ak (x:=fM m) rfl rfl (by kernel_rfl) m11.aL (i:=a+21) (by omega) (by omega) (AU (p:=a) (by omega) (by omega))) ?_)
 by_cases c23:5<=(m.own a)
 ·refine Rp (.bool true) (fun v1=>Fx.gV rfl rfl rfl c23) (Rp (.bool true) (fun v1=>ah rfl rfl) (Fx.R.skip (by rfl) (Fx.R.skip (by rfl) (Fx.R.skip (by rfl) (Rp (.bool true) (fun v1=>aA rfl rfl rfl) (Fx.R.nil (sN (Wc (b:=true) rfl (fun _=>Ws (Wl (Lv (.nilFunc) (aj rfl rfl) ?_))) (fun h=>nomatch h)))))))))
  refine Lv (.int .i64 (6)) (aj rfl rfl) (Ln (sN (Wr (sR (⟨.tuple #[.nilFunc,.int .i64 (6)],Fx.cB Tryd.results145 (by exact rfl) (by exact rfl),?_⟩)))))
  have hEq:jw m v=6:=by unfold jw; rw[hra]; exact if_pos (.inl (by omega))
  exact⟨⟨.nilFunc,0,#[],by rw[hEq],rfl,fun e0=>absurd (hEq.symm.trans e0) (by first|decide|omega|assumption)⟩,b4⟩
 refine Rp (.bool false) (fun v1=>Fx.eY rfl rfl rfl c23) (Rp (.bool false) (fun v1=>ah rfl rfl) (Rp ((pf g2 11)) (fun v1=>au rfl q2 Tryd.underlying28 rfl (s:=1) (by kernel_rfl) rfl (by show _+11=_; omega)) (Fx.R.s (.int .i64 (v.bL)) (ak (x:=aW v) rfl rfl (by kernel_rfl) m13.aL (i:=11) (by omega) (by omega) rfl) ?_)))
 by_cases O7:140737488355328<v.bL
 ·refine Rp (.bool true) (fun v1=>Fx.iy rfl rfl rfl O7) (Rp (.bool true) (fun v1=>aJ rfl rfl rfl) (Fx.R.nil (sN (Wc (b:=true) rfl (fun _=>Ws (Wl (Lv (.nilFunc) (aj rfl rfl) ?_))) (fun h=>nomatch h)))))
  refine Lv (.int .i64 (6)) (aj rfl rfl) (Ln (sN (Wr (sR (⟨.tuple #[.nilFunc,.int .i64 (6)],Fx.cB Tryd.results145 (by exact rfl) (by exact rfl),?_⟩)))))
  have hEq:jw m v=6:=by unfold jw; rw[hra]; exact if_pos (.inr (by omega))
  exact⟨⟨.nilFunc,0,#[],by rw[hEq],rfl,fun e0=>absurd (hEq.symm.trans e0) (by first|decide|omega|assumption)⟩,b4⟩
 refine Rp (.bool false) (fun v1=>dw rfl rfl rfl O7) (Rp (.bool false) (fun v1=>aJ rfl rfl rfl) (Fx.R.nil (sN (Wc (b:=false) rfl (fun h=>nomatch h) (fun _=>Wk (sN (Ws (Ws (Wl (Lv ((pt lp)) (ak (x:=fun _=>(pt lp)) rfl q1 (by kernel_rfl) m12.aL (i:=0) (by omega) (by omega) rfl) ?_))))))))))
 refine Lv (.int .u64 (jZ v)) (ak (x:=fun _ => .int .u64 (jZ v)) rfl q5 (by kernel_rfl) m14.aL (i:=0) (by omega) (by omega) rfl) (Lv ((pf g2 9)) (au rfl q2 Tryd.underlying28 rfl (s:=1) (by kernel_rfl) rfl (by show _+9=_; omega)) (Lv (.int .u64 (v.node)) (ak (x:=aW v) rfl rfl (by kernel_rfl) m13.aL (i:=9) (by omega) (by omega) rfl) (Fx.L.call (by rfl) (rC (args := [(pt lp),.int .u64 (jZ v),.int .u64 (v.node)]) rfl rfl Tryd.func153 rfl rfl) rfl ((Sq m lp B _ (h.up b4) (jZ v) v.node hid).mono ?_))))
 rintro e w4 ⟨he,hb2⟩
 refine⟨.int .i64 (m.T.err (jZ v) v.node),by rw[he],?_⟩
 clear he
 have s5:=Sb hb2
 have m17:=m12.aC s5 m12.ne
 have m18:=m13.aC s5 m13.ne
 have m19:=m14.aC s5 m14.ne
 have m20:=m15.aC s5 m15.ne
 have b5:=s5.below b4 b4.size b4.size
 refine Lv (.int .i64 (m.T.err (jZ v) v.node)) (aj rfl rfl) (Ln (sN (Ws (Wl (Lv (.int .i64 (m.T.err (jZ v) v.node)) (ah rfl rfl) ?_)))))
 by_cases Io:(m.T.err (jZ v) v.node)=0
 ·refine Lv (.bool false) (Fx.gu rfl rfl rfl Io) (Ln (sN (Wc (b:=false) rfl (fun h=>nomatch h) (fun _=>Wk (sN (Ws (Wl (Lv (.func (.func 154) #[] #[(pt g1),(pt g3),(pt g2),(pt g4)]) (Fx.jf (us := []) (vs := [(pt g1),(pt g3),(pt g2),(pt g4)]) rfl rfl (Fx.Ot q1 q5 q2 q6)) (Lv (.func (.func 154) #[] #[(pt g1),(pt g3),(pt g2),(pt g4)]) (aj rfl rfl) (Lv (.int .i64 (0)) (aj rfl rfl) (Ln (sN (Wr (⟨.tuple #[.func (.func 154) #[] #[(pt g1),(pt g3),(pt g2),(pt g4)],.int .i64 (0)],Fx.cB Tryd.results145 (by exact rfl) (by exact rfl),?_⟩))))))))))))))
  have hEq:jw m v=0:=by unfold jw; rw[hra,if_neg (by omega)]; exact Io
  exact⟨⟨_,154,#[(pt g1),(pt g3),(pt g2),(pt g4)],by rw[hEq],rfl,fun _=>⟨rfl,⟨_,_,Tryd.func154,rfl,rfl⟩,fun w2 hb2=>(KT m lp B w2 ((h.up b5).up hb2) v hv Io a ha hra (YA a ha) hid _ _ _ _ (m17.aC (Sb hb2) (Nat.ne_of_lt m17.lt)) (m19.aC (Sb hb2) (Nat.ne_of_lt m19.lt)) (m18.aC (Sb hb2) (Nat.ne_of_lt m18.lt)) (m20.aC (Sb hb2) (Nat.ne_of_lt m20.lt))).mono fun _ _ hc=>⟨hc.1,hc.2.1,hc.2.2.mono fun _ hk => .inl hk⟩⟩⟩,b5⟩
 refine Lv (.bool true) (Fx.jd rfl rfl rfl Io) (Ln (sN (Wc (b:=true) rfl (fun _=>Ws (Wl (Lv (.int .i64 (m.T.err (jZ v) v.node)) (ah rfl rfl) ?_))) (fun h=>nomatch h))))
 refine Lv (.nilFunc) (aj rfl rfl) (Lv (.int .i64 (m.T.err (jZ v) v.node)) (aj rfl rfl) (Ln (sN (Wr (sR (⟨.tuple #[.nilFunc,.int .i64 (m.T.err (jZ v) v.node)],Fx.cB Tryd.results145 (by exact rfl) (by exact rfl),?_⟩))))))
 have hEq:jw m v=m.T.err (jZ v) v.node:=by unfold jw; rw[hra,if_neg (by omega)]
 exact⟨⟨.nilFunc,0,#[],by rw[hEq],rfl,fun e0=>absurd (hEq.symm.trans e0) (by first|decide|omega|assumption)⟩,b5⟩
end Go.Proofs.YtahbiajdgealnaaDoor
namespace Go.Proofs.YtahbiajdgealnaaDoor
open Go.RowKit Go
set_option linter.unusedVariables false
namespace Rt
section
variable {x p:Nat->Int} {n d e:Nat} {k v:Int}
theorem A9 : ∀ {d:Nat} {v:Int},fI x p n d v -> ∀ k,k∈fK x p n d v->(fK x p n d k).length<=(fK x p n d v).length
 | 0,v,h,k,hk=>by cases hk
 | d+1,v,h,k,hk=>by
   cases hv:cK x n v with
   | false=>rw[iH hv]at hk; cases hk
   | true =>
     have e:fK x p n (d+1) v=v::fK x p n d (fq x p n v):=by show(if _ then _ else _)=_; rw[if_pos hv]
     have hs:fI x p n d (fq x p n v):=h hv
     rw[e]at hk
     rcases List.mem_cons.1 hk with rfl|hk
     ·exact Nat.le_refl _
     ·have h1:=A9 hs k hk
      have h2:fI x p n d k:=by
       refine sF (d:=d) ?_ (Nat.le_trans h1 qj)
       exact yc hs k hk
      have h3:=(Aj h2 (Nat.le_succ d)).1
      rw[h3,e,List.length_cons]; omega
where yc : ∀ {d:Nat} {v:Int},fI x p n d v -> ∀ k,k∈fK x p n d v->fI x p n d k
 | 0,v,h,k,hk=>by cases hk
 | d+1,v,h,k,hk=>by
   cases hv:cK x n v with
   | false=>rw[iH hv]at hk; cases hk
   | true =>
     have e:fK x p n (d+1) v=v::fK x p n d (fq x p n v):=by show(if _ then _ else _)=_; rw[if_pos hv]
     have hs:fI x p n d (fq x p n v):=h hv
     rw[e]at hk
     rcases List.mem_cons.1 hk with rfl|hk
     ·exact h
     ·exact(Aj (yc hs k hk) (Nat.le_succ d)).2
theorem zP : ∀ {d:Nat} {v:Int},fI x p n d v->(fK x p n d v).Nodup
 | 0,v,h=>List.nodup_nil
 | d+1,v,h=>by
   cases hv:cK x n v with
   | false=>rw[iH hv]; exact List.nodup_nil
   | true =>
     have e:fK x p n (d+1) v=v::fK x p n d (fq x p n v):=by show(if _ then _ else _)=_; rw[if_pos hv]
     have hs:fI x p n d (fq x p n v):=h hv
     rw[e,List.nodup_cons]
     refine⟨fun hm => ?_,zP hs⟩
     have h1:=A9 hs v hm
     have h2:=(Aj (A9.yc hs v hm) (Nat.le_succ d)).1
     rw[e]at h2
     rw[<- h2,List.length_cons]at h1
     omega
end
section
variable {T:cu} {l:List Int} {k:Int}
theorem cu.rM(h:T.ok)(k:Int):(T.path k).Nodup:=zP (h.stop k)
theorem cu.tL(h:T.ok)(e:l=T.path k) : ∀ v,v∈l->T.has v=true:=fun v hv=>by
 obtain⟨i,hi,ei⟩:=List.getElem_of_mem hv
 have:=cu.EH h e hi
 rw[List.getD_eq_getElem?_getD,List.getElem?_eq_getElem hi]at this
 rw[<- ei]; exact this
theorem uN(h:l.Nodup){i j:Nat}(hi:i<l.length)(hj:j<l.length)(e:l.getD i 0=l.getD j 0):i=j:=by
 rw[List.getD_eq_getElem?_getD,List.getD_eq_getElem?_getD,List.getElem?_eq_getElem hi,List.getElem?_eq_getElem hj]at e
 exact(List.getElem_inj h).1 e
end
def iK(f:(Nat->Int)->(Nat->Int) × Int)(r:Nat->Nat->Int):Nat->Int
 | 0=>0
 | i+1=>if iK f r i=0 then(f (r i)).2 else iK f r i
section
variable {f:(Nat->Int)->(Nat->Int) × Int} {r:Nat->Nat->Int} {i n:Nat}
theorem zQ(h:iK f r i=0)(h0:(f (r i)).2=0):iK f r (i+1)=0:=by unfold iK; rw[if_pos h,h0]
theorem rO(h:iK f r i=0)(h0 : ¬ (f (r i)).2=0) : ∀ n,i<n->iK f r n=(f (r i)).2
 | 0,hn=>absurd hn (Nat.not_lt_zero _)
 | n+1,hn=>by
   unfold iK
   by_cases e:i=n
   ·subst e; rw[if_pos h]
   ·rw[rO h h0 n (by omega),if_neg h0]
end
def tN(m:dD)(k:Int):Nat->Int:=m.R (m.idx k)
def bR(m:dD)(f:(Nat->Int)->(Nat->Int) × Int)(l:List Int):Int:=iK f (fun i=>tN m (l.getD i 0)) l.length
open Classical in
noncomputable def kY(m:dD)(f:(Nat->Int)->(Nat->Int) × Int)(l:List Int):dD := { m with R:=fun i=>if m.T.x i∈l then(f (m.R i)).1 else m.R i }
def vE(l:List Int)(S:Nat->Bool)(v:Int):Nat->Bool
 | 0=>false
 | n+1=>vE l S v n || (S n&&decide (l.getD n 0=v))
theorem kP{l:List Int}{S:Nat->Bool}{v:Int} : ∀ {n:Nat},vE l S v n=true <-> ∃ q,q<n/\S q=true/\l.getD q 0=v
 | 0=>⟨fun h=>(nomatch h),fun⟨q,h,_⟩=>absurd h (Nat.not_lt_zero _)⟩
 | n+1=>by
   unfold vE
   rw[Bool.or_eq_true,kP,Bool.and_eq_true,decide_eq_true_iff]
   constructor
   ·rintro (⟨q,h1,h2,h3⟩|⟨h1,h2⟩)
    ·exact⟨q,by omega,h2,h3⟩
    ·exact⟨n,by omega,h1,h2⟩
   ·rintro ⟨q,h1,h2,h3⟩
    by_cases e:q=n
    ·subst e; exact .inr ⟨h2,h3⟩
    ·exact .inl ⟨q,by omega,h2,h3⟩
def pW(m:dD)(f:(Nat->Int)->(Nat->Int) × Int)(l:List Int)(S:Nat->Bool):Nat->Nat->Int:=fun i=>if vE l S (m.T.x i) l.length=true then(f (m.R i)).1 else m.R i
theorem EO(m:dD)(f:(Nat->Int)->(Nat->Int) × Int)(l:List Int):pW m f l (fun _=>false)=m.R:=by
 funext i
 unfold pW
 rw[if_neg]
 rw[kP]
 rintro ⟨q,_,h,_⟩; cases h
theorem Ic{m:dD}(hT:m.T.ok){f:(Nat->Int)->(Nat->Int) × Int}{l:List Int}{S:Nat->Bool}{q j:Nat}(hq:q<l.length)(hj:j<m.T.n)(ej:m.T.x j=l.getD q 0) : ∀ i,i<m.T.n->Fx.aH (pW m f l S) j (f (m.R j)).1 i=pW m f l (Fx.aH S q true) i:=fun i hi=>by
 unfold Fx.aH
 by_cases e:i=j
 ·subst e
  rw[if_pos rfl]
  unfold pW
  rw[if_pos]
  rw[kP]
  exact⟨q,hq,by show(if q=q then true else S q)=true; rw[if_pos rfl],ej.symm⟩
 ·rw[if_neg e]
  unfold pW
  have:vE l S (m.T.x i) l.length=true<->vE l (fun i=>if i=q then true else S i) (m.T.x i) l.length=true:=by
   rw[kP,kP]
   constructor
   ·rintro ⟨r,h1,h2,h3⟩
    exact⟨r,h1,by show(if r=q then true else S r)=true; split <;> first|rfl|exact h2,h3⟩
   ·rintro ⟨r,h1,h2,h3⟩
    by_cases er:r=q
    ·subst er
     exact absurd (hT.inj i j hi hj (by rw[ej,<- h3])) e
    ·exact⟨r,h1,by have h2:(if r=q then true else S r)=true:=h2; rw[if_neg er]at h2; exact h2,h3⟩
  by_cases c:vE l S (m.T.x i) l.length=true
  ·rw[if_pos c,if_pos (this.1 c)]
  ·rw[if_neg c,if_neg (fun h=>c (this.2 h))]
theorem KX{m:dD}{f:(Nat->Int)->(Nat->Int) × Int}{l:List Int}{S:Nat->Bool}(h : ∀ q,q<l.length->S q=true):pW m f l S=(kY m f l).R:=by
 funext i
 show _=if m.T.x i∈l then(f (m.R i)).1 else m.R i
 unfold pW
 have:vE l S (m.T.x i) l.length=true<->m.T.x i∈l:=by
  rw[kP]
  constructor
  ·rintro ⟨q,h1,_,h3⟩
   rw[<- h3,List.getD_eq_getElem?_getD,List.getElem?_eq_getElem h1]; exact List.getElem_mem h1
  ·intro hm
   obtain⟨q,hq,e⟩:=List.getElem_of_mem hm
   exact⟨q,hq,h q hq,by rw[List.getD_eq_getElem?_getD,List.getElem?_eq_getElem hq]; exact e⟩
 by_cases c:m.T.x i∈l
 ·rw[if_pos (this.2 c),if_pos c]
 rw[if_neg (fun h=>c (this.1 h)),if_neg c]
def kZ(m:dD)(f:(Nat->Int)->(Nat->Int) × Int)(l:List Int):Nat->Value:=fun q => .agg (Fx.ay 54 (Fx.rv .i64 (f (tN m (l.getD q 0))).1))
theorem zR{m:dD}{f:(Nat->Int)->(Nat->Int) × Int}{l:List Int}{w:World}{b i:Nat}{r:Nat->Int}(h:Fx.Mp w b (i+1) (Fx.aH (fun q=>l.getD q 0) i (l.getD i 0)) (Fx.aH (kZ m f l) i (.agg (Fx.ay 54 (Fx.rv .i64 r)))))(e:r=(f (tN m (l.getD i 0))).1):Fx.Mp w b (i+1) (fun q=>l.getD q 0) (kZ m f l):=h.mM fun q hq=>by
 unfold Fx.aH
 by_cases c:q=i
 ·subst c; rw[if_pos rfl,if_pos rfl,e]; exact⟨rfl,rfl⟩
 ·rw[if_neg c,if_neg c]; exact⟨rfl,rfl⟩
end Rt
end Go.Proofs.YtahbiajdgealnaaDoor
