/-
  What the proof of the law rests on, part 2: walks of functions, and plain laws; each says its conditions itself.
-/
import Derived.Sort.LotA
import Derived.Sort.LotB
import Derived.Sort.LotC
import Derived.Sort.LotD3
import Derived.Test.YtahbiajdgealnaaDoorRows
import Derived.Sort.LotD1
import Derived.Test.YtahbiajdgealnaaDoorZA1
namespace Go.Proofs.YtahbiajdgealnaaDoor
open Go.RowKit Rt
open Fx (ah aj au ak aJ aA aO eZ av bF dI aK x_len dw bX dn bG Lv sN Ln Ws Qv Wl Rp Wc Qs Wr Sb Lk Wk rC rV sR)
abbrev pt(g:Nat):Value := .pointer (some ⟨g,0,none⟩)
abbrev pf(g o:Nat):Value := .pointer (some ⟨g,o,none⟩)
theorem Fx.ic{k:IntKind}{a b:Int}(h:a=b:=by first|rfl|omega):Value.int k a = .int k b:=congrArg _ h
theorem Fx.io{a c:Int}(h : -9223372036854775808<=c/\c<=9223372036854775807:=by omega)(e:a=c:=by omega):IntKind.i64.wrap a=c:=Fx.wQ h e
theorem Fx.aP.ne{w:World}{g n:Nat}{x:Nat->Value}{T:TypeId}(h:Fx.aP w g n x T):g≠w.heap.size:=Nat.ne_of_lt h.lt
section
set_option maxRecDepth 20000
namespace Rt
def cK(x:Nat->Int):Nat->Int->Bool
 | 0,_=>false
 | n+1,k=>cK x n k || decide (x n=k)
def fq(x p:Nat->Int):Nat->Int->Int
 | 0,_=>0
 | n+1,k=>if x n=k then p n else fq x p n k
section
variable {x p:Nat->Int} {n j:Nat} {k:Int}
theorem fQ : ∀ {n:Nat},j<n->x j=k->cK x n k=true
 | n+1,h,e=>by
   unfold cK
   by_cases c:j=n
   ·subst c; rw[decide_eq_true e,Bool.or_true]
   ·rw[fQ (show j<n by omega) e,Bool.true_or]
theorem qh : ∀ {n:Nat},(∀ i,i<n->x i≠k)->cK x n k=false
 | 0,_=>rfl
 | n+1,h=>by unfold cK; rw[qh fun i hi=>h i (by omega),decide_eq_false (h n (by omega))]; rfl
theorem dW : ∀ {n:Nat},cK x n k=true -> ∃ j,j<n/\x j=k
 | n+1,h=>by
   unfold cK at h
   rw[Bool.or_eq_true]at h
   rcases h with h|h
   ·obtain⟨j,hj,e⟩:=dW h; exact⟨j,by omega,e⟩
   ·exact⟨n,by omega,of_decide_eq_true h⟩
theorem sj(hi : ∀ a b,a<n->b<n->x a=x b->a=b)(hj:j<n)(e:x j=k):fq x p n k=p j:=by
 induction n with
 | zero=>omega
 | succ n ih =>
   unfold fq
   by_cases c:j=n
   ·subst c; rw[if_pos e]
   ·rw[if_neg fun e2=>c (hi j n (by omega) (by omega) (e.trans e2.symm))]
    exact ih (fun a b ha hb=>hi a b (by omega) (by omega)) (by omega)
def fK(x p:Nat->Int)(n:Nat):Nat->Int->List Int
 | 0,_ => []
 | d+1,k=>if cK x n k=true then k::fK x p n d (fq x p n k)else []
def fI(x p:Nat->Int)(n:Nat):Nat->Int->Prop
 | 0,k=>cK x n k=false
 | d+1,k=>cK x n k=true->fI x p n d (fq x p n k)
theorem iH{d:Nat}(h:cK x n k=false):fK x p n d k = []:=by cases d with
 | zero=>rfl
 | succ d=>unfold fK; rw[if_neg (by rw[h]; decide)]
theorem ze{d:Nat}(h:fI x p n d k)(hk:cK x n k=true) : ∃ e,d=e+1/\fI x p n e (fq x p n k)/\fK x p n d k=k::fK x p n e (fq x p n k):=by
 cases d with
 | zero=>have h:cK x n k=false:=h; rw[hk]at h; cases h
 | succ d=>exact⟨d,rfl,h hk,by show(if _ then _ else _)=_; rw[if_pos hk]⟩
end
structure JF(q:Nat)(J:List Int->World->Prop)(pre:List Int)(w:World):Prop where
 ab:TT.Fj q J
 j:J pre w
theorem JF.aC{q:Nat}{J:List Int->World->Prop}{pre:List Int}{w w':World}(h:JF q J pre w)(hs:Fx.Stp q w w'):JF q J pre w' :=
 ⟨h.ab,h.ab _ w w' (some q) h.j ⟨hs.os,hs.tape,hs.output,hs.size,fun k hk hne=>hs.block k hk (fun e=>hne (by rw[e]))⟩ (fun r e=>(Option.some.inj e).symm)⟩
theorem JF.up{q:Nat}{J:List Int->World->Prop}{pre:List Int}{w w':World}(h:JF q J pre w)(hb:Below w.heap.size w w'):JF q J pre w' :=
 ⟨h.ab,h.ab _ w w' none h.j ⟨hb.os,hb.tape,hb.output,hb.size,fun k hk _=>hb.block k hk⟩ (fun r e=>by cases e)⟩
structure Jh(tp mb bt q:Nat)(w w':World):Prop where
 size:w.heap.size<=w'.heap.size
 t:w'.heap[tp]? = w.heap[tp]?
 m:w'.heap[mb]? = w.heap[mb]?
 b:w'.heap[bt]? = w.heap[bt]?
 q:w'.heap[q]? = w.heap[q]?
end Rt
theorem wZ(x p:Nat->Int)(n tp mb:Nat)(k:Int)(w:World)(hT:Fx.aP w tp 1 (fun _ => .map (some mb)) 116)(hM:Fx.Mp w mb n x (fun j => .int .u64 (p j))) :
 Calls Tryd.prog 72 #[(pt tp),.int .u64 (k)] w fun e w'=>e = .returned (.bool (cK x n k))/\w'=w:=by
 have WZ:=hT.lt
 refine Fx.enter Tryd.func72 rfl (n:=19) rfl (by rfl) ?_
 refine Ws (Wl (Lv (.bool false) (aj rfl rfl) (Ln (sN (Ws (Ws (Wl (Lv ((pt tp)) (ah rfl rfl) (Lv (.bool false) (Fx.nG rfl rfl rfl (by kernel_rfl)) (Ln (sN (Wc (b:=false) rfl (fun h=>nomatch h) (fun _=>Wk (sN (Ws (Wl (Lv ((pt tp)) (ah rfl rfl) (Lv ((pt tp)) (aO rfl rfl) (Lv ((pt tp)) (au rfl rfl Tryd.underlying116 rfl (s:=1) (by kernel_rfl) rfl rfl) (Lv (.map (some mb)) (ak (x:=fun _ => .map (some mb)) rfl rfl (by kernel_rfl) hT.aL (i:=0) (by omega) (by omega) rfl) (Lv (.int .u64 (k)) (ah rfl rfl) ?_)))))))))))))))))))))
 rcases Fx.kV x n k with ⟨dh,gY,iA⟩|fJ
 ·refine Lv (.tuple #[.int .u64 (p dh),.bool true]) (Fx.wY (z := .int .u64 (0)) rfl rfl rfl hM Tryd.underlying87 Tryd.underlying22 (by rfl) gY iA rfl) (Lv (.tuple #[.int .u64 (p dh),.bool true]) (ah rfl rfl) (Lv (.int .u64 (p dh)) (Fx.aD rfl rfl rfl) (Lv (.bool true) (Fx.aD rfl rfl rfl) (Lv (.int .u64 (p dh)) (aj rfl rfl) (Lv (.bool true) (aj rfl rfl) (Ln (sN (Ws (Wl (Lv (.bool true) (ah rfl rfl) (Lv (.bool true) (aj rfl rfl) (Ln (sN (Wr (⟨.bool true,rV Tryd.results72 (by exact rfl),?_⟩)))))))))))))))
  exact⟨congrArg (fun q=>Ending.returned (Value.bool q)) (Eq.symm (fQ gY iA)),rfl⟩
 refine Lv (.tuple #[.int .u64 (0),.bool false]) (Fx.wX (z := .int .u64 (0)) rfl rfl rfl hM Tryd.underlying87 Tryd.underlying22 (by rfl) fJ) (Lv (.tuple #[.int .u64 (0),.bool false]) (ah rfl rfl) (Lv (.int .u64 (0)) (Fx.aD rfl rfl rfl) (Lv (.bool false) (Fx.aD rfl rfl rfl) (Lv (.int .u64 (0)) (aj rfl rfl) (Lv (.bool false) (aj rfl rfl) (Ln (sN (Ws (Wl (Lv (.bool false) (ah rfl rfl) (Lv (.bool false) (aj rfl rfl) (Ln (sN (Wr (⟨.bool false,rV Tryd.results72 (by exact rfl),?_⟩)))))))))))))))
 exact⟨congrArg (fun q=>Ending.returned (Value.bool q)) (Eq.symm (qh fJ)),rfl⟩
theorem W9(tp:Nat)(k:Int)(w:World) :
 Calls Tryd.prog 50 #[(pt tp),.int .u64 (k)] w fun e w' => ∃ bt q,e = .returned (.func (.func 71) #[] #[(pt bt),(pt q)])/\w.heap.size<=bt/\w.heap.size<=q/\Fx.aP w' bt 1 (fun _=>(pt tp)) 85/\Fx.aP w' q 1 (fun _ => .int .u64 k) 22/\Below w.heap.size w w':=by
 refine Fx.enter Tryd.func50 rfl (n:=6) rfl (by rfl) ?_
 refine Ws (Wl (Fx.L.box (m:=1) (y:=fun _=>(pt tp)) (by rfl) rfl rfl (Fx.cells_one (by rfl)) rfl fun g1 w1 aZ m1 s1 z1 => ?_))
 have b1:=s1.below (Below.refl w.heap.size w) (Below.refl w.heap.size w).size (Below.refl w.heap.size w).size
 have kM:w.heap.size<=g1:=by rw[aZ]; exact(Below.refl w.heap.size w).size
 have mO:g1<w1.heap.size:=m1.lt
 clear aZ
 refine Fx.L.box (m:=1) (y:=fun _ => .int .u64 (k)) (by rfl) rfl rfl (Fx.cells_one (by rfl)) rfl fun g2 w2 bS m2 s2 z2 => ?_
 have m3:=m1.aC s2 m1.ne
 have b2:=s2.below b1 b1.size b1.size
 have su:w.heap.size<=g2:=by rw[bS]; exact b1.size
 have xg:g1≠g2:=by rw[bS]; exact Nat.ne_of_lt (m1.lt)
 have vK:g2<w2.heap.size:=m2.lt
 clear bS
 refine Lv (.nilFunc) (aj rfl rfl) (Ln (sN (Ws (Wl (Lv (.func (.func 71) #[] #[(pt g1),(pt g2)]) (Fx.jf (us := []) (vs := [(pt g1),(pt g2)]) rfl rfl rfl) (Lv (.func (.func 71) #[] #[(pt g1),(pt g2)]) (aj rfl rfl) (Ln (sN (Wr (⟨.func (.func 71) #[] #[(pt g1),(pt g2)],rV Tryd.results50 (by exact rfl),?_⟩))))))))))
 exact⟨g1,g2,rfl,kM,su,m3,m2,b2⟩
theorem TY(J:List Int->World->Prop)(l tp mb bt q n d0:Nat)(x p:Nat->Int)(k:Int)(w:World)(hT:Fx.aP w tp 1 (fun _ => .map (some mb)) 116)(hM:Fx.Mp w mb n x (fun j => .int .u64 (p j)))(hB:Fx.aP w bt 1 (fun _=>(pt tp)) 85)(hQ:Fx.aP w q 1 (fun _ => .int .u64 (k)) 22)(hinj : ∀ a b,a<n->b<n->x a=x b->a=b)(um:fI x p n d0 k)(hJ:JF q J [] w)(hd:bt≠q/\tp≠q)
 (hY : ∀ pre v W1,J pre W1->pre.length<(fK x p n d0 k).length->Go.YieldAt (Fx.FR none) 1 Tryd.prog l #[.int .u64 v] W1 fun e W'=>e = .returned (.bool true)/\J (pre ++ [v]) W'/\Jh tp mb bt q W1 W') :
  Calls Tryd.prog 71 #[.func (.yield l) #[] #[],(pt bt),(pt q)] w fun e w'=>(∃ v,e = .returned v) /\ ∃ xs,xs=fK x p n d0 k/\J xs w':=by
 obtain⟨hd1,hd2⟩:=hd
 have lq:=hQ.lt
 refine Fx.enter Tryd.func71 rfl (n:=18) rfl (by rfl) ?_
 refine Fx.W.block (Fx.W.BA (fun d f w_ => ∃ pre:List Int,∃ cur:Int,fI x p n d cur/\pre++fK x p n d cur=fK x p n d0 k/\f 0 = .func (.yield l) #[] #[]/\f 1=(pt bt)/\f 2=(pt q)/\Fx.aP w_ tp 1 (fun _ => .map (some mb)) 116/\Fx.Mp w_ mb n x (fun j => .int .u64 (p j))/\Fx.aP w_ bt 1 (fun _=>(pt tp)) 85/\Fx.aP w_ q 1 (fun _ => .int .u64 (cur)) 22/\JF q J pre w_) (d0) ⟨[],k,um,(List.nil_append _),(by rfl),(by rfl),(by rfl),hT,hM,hB,hQ,hJ⟩ ?_)
 rintro d f1 w1 ⟨pre,cur,hst,hpa,h1,h2,h3,m1,m2,m3,m4,m5⟩
 refine Ws (Ws (Fx.W.OC 2 (Fx.Ly.v ((pt tp)) (ak (x:=fun _=>(pt tp)) rfl h2 (by kernel_rfl) m3.aL (i:=0) (by omega) (by omega) rfl) ?_)))
 refine Fx.Ly.v (.int .u64 (cur)) (ak (x:=fun _ => .int .u64 (cur)) rfl h3 (by kernel_rfl) m4.aL (i:=0) (by omega) (by omega) rfl) ?_
 by_cases c6:(cK x n cur)=true
 ·refine Fx.Ly.call (by rfl) (rC (args := [(pt tp),.int .u64 (cur)]) rfl rfl Tryd.func72 rfl rfl) rfl ((wZ x p n tp mb cur _ m1 m2).mono ?_)
  rintro e v1 ⟨he,hv1⟩
  subst v1
  refine⟨.bool true,by rw[he,c6],?_⟩
  clear he
  refine Fx.Ly.v (.bool true) (ah rfl rfl) ?_
  refine Fx.Ly.v (.func (.yield l) #[] #[]) (ah rfl h1) ?_
  refine Fx.Ly.v (.int .u64 (cur)) (ak (x:=fun _ => .int .u64 (cur)) rfl h3 (by kernel_rfl) m4.aL (i:=0) (by omega) (by omega) rfl) ?_
  obtain⟨d1,ed1,Xa,hp1⟩:=ze hst c6
  refine Fx.Ly.yield (l:=l) (args := [.int .u64 (cur)]) rfl rfl rfl (Fx.args1 rfl) rfl (hY pre cur _ m5.j (by have:=congrArg List.length hpa; rw[hp1,List.length_append,List.length_cons]at this; omega)) ?_
  rintro e9 w2 ⟨rfl,Xb,hk1⟩
  refine⟨.bool true,rfl,?_⟩
  have m6:Fx.aP w2 tp 1 (fun _ => .map (some mb)) 116:=(hk1.t).trans m1
  have m7:Fx.Mp w2 mb n x (fun j => .int .u64 (p j)):=m2.keep hk1.m
  have m8:Fx.aP w2 bt 1 (fun _=>(pt tp)) 85:=(hk1.b).trans m3
  have m9:Fx.aP w2 q 1 (fun _ => .int .u64 (cur)) 22:=(hk1.q).trans m4
  have m10:JF q J (pre ++ [cur]) w2:=⟨m5.ab,Xb⟩
  refine Fx.Ly.v (.bool true) (aA rfl rfl rfl) ?_
  refine Fx.Ly.nil ?_
  refine sN (Wc (b:=true) rfl (fun _=>Wk (sN (Fx.W.block ?_))) (fun h=>nomatch h))
  obtain⟨jz,hjz,xk⟩:=dW c6
  -- region 1 draws
  refine Fx.W.bH [0,1,2,3,4,5,6] [4,0,0,4,4,3,3] Fx.Mk Fx.Mk.refl Fx.Mk.trans (aQ := [(5,0,[3,2,1,0]),(6,0,[0]),(5,3,[3]),(6,3,[3]),(5,4,[4]),(6,4,[4]),(6,5,[5])]) (by kernel_rfl) (by kernel_rfl) (by kernel_rfl) (by kernel_rfl) (by kernel_rfl) fun jc bT fE => ?_
  have s1:Fx.Stp w2.heap.size w2 jc:=Sb bT
  have m11:=m6.aC s1 m6.ne
  have m12:=m7.up s1.old
  have m13:=m8.aC s1 m8.ne
  have m14:=m9.aC s1 m9.ne
  have m15:=m10.up s1.old
  refine Fx.R.s ((pt tp)) (ak (x:=fun _=>(pt tp)) rfl h2 (by kernel_rfl) m13.aL (i:=0) (by omega) (by omega) rfl) ?_
  refine Rp ((pt tp)) (fun v1=>aO rfl rfl) (Rp ((pt tp)) (fun v1=>au rfl rfl Tryd.underlying116 rfl (s:=1) (by kernel_rfl) rfl rfl) (Fx.R.s (.map (some mb)) (ak (x:=fun _ => .map (some mb)) rfl rfl (by kernel_rfl) m11.aL (i:=0) (by omega) (by omega) rfl) ?_))
  refine Fx.R.s (.int .u64 (cur)) (ak (x:=fun _ => .int .u64 (cur)) rfl h3 (by kernel_rfl) m14.aL (i:=0) (by omega) (by omega) rfl) ?_
  refine Fx.R.fP (by rfl) ?_
  refine Lv (.int .u64 (p jz)) (Fx.nJ (z := .int .u64 (0)) rfl rfl rfl m12 Tryd.underlying87 Tryd.underlying22 (by rfl) hjz xk rfl) (Ln (Fx.R.fP (by rfl) (Fx.L.bV (x:=fun _ => .int .u64 (cur)) (u := .int .u64 (p jz)) (by rfl) rfl rfl h3 rfl (by rfl) (by kernel_rfl) m14 (i:=0) (by omega) fun w3 m16 s2 z1 => ?_)))
  have m17:Fx.aP w3 q 1 (fun _ => .int .u64 (p jz)) 22:=Fx.je m16
  have aT:=Fx.gD.bP s2 m14.ty
  have m18:=m11.aU aT (by decide)
  have m19:=m12.aU aT trivial
  have m20:=m13.aU aT (by decide)
  have m21:=m15.aC s2
  refine Ln (Fx.R.nil (Fx.dV ?_))
  have m22:Fx.aP w3 q 1 (fun _ => .int .u64 (fq x p n cur)) 22:=by rw[sj hinj hjz xk]; exact m17
  skip
  refine Fx.kg ⟨d1,(by omega),(pre ++ [cur]),(fq x p n cur),Xa,(by rw[List.append_assoc]; rw[hp1]at hpa; exact hpa),h1,h2,h3,m18,m19,m20,m22,m21⟩ (by decide)
 rw[Bool.not_eq_true]at c6
 refine Fx.Ly.call (by rfl) (rC (args := [(pt tp),.int .u64 (cur)]) rfl rfl Tryd.func72 rfl rfl) rfl ((wZ x p n tp mb cur _ m1 m2).mono ?_)
 rintro e v1 ⟨he,hv1⟩
 subst v1
 refine⟨.bool false,by rw[he,c6],?_⟩
 clear he
 refine Fx.Ly.v (.bool false) (ah rfl rfl) ?_
 refine Fx.Ly.skip (by rfl) rfl ?_
 refine Fx.Ly.skip (by rfl) rfl ?_
 refine Fx.Ly.skip (by rfl) rfl ?_
 refine Fx.Ly.v (.bool false) (aJ rfl rfl rfl) ?_
 refine Fx.Ly.nil ?_
 refine sN (Wc (b:=false) rfl (fun h=>nomatch h) (fun _=>Fx.W.exit (Fx.dQ (Fx.jC (Fx.dR (⟨.tuple #[],Fx.jS Tryd.results71,?_⟩))))))
 exact⟨⟨_,rfl⟩,pre,(by rw[iH c6,List.append_nil]at hpa; exact hpa),m5.j⟩
end
end Go.Proofs.YtahbiajdgealnaaDoor
namespace Go.Proofs.YtahbiajdgealnaaDoor
open Go.RowKit Go Rt
set_option linter.unusedVariables false
namespace Rt
def mP(l:List Int):Nat->Value:=fun i => .int .u64 (l.getD i 0)
theorem Mg{l:List Int}{v:Int}{z:Nat->Value} : ∀ j,j<(l.length+1)*1->Fx.qA (mP l) (l.length*1) (Fx.aX z (0*1) 1 (fun _ => .int .u64 v)) j=mP (l ++ [v]) j:=fun j hj=>by
 unfold Fx.qA mP
 by_cases h:j<l.length*1
 ·rw[if_pos h,List.getD_eq_getElem?_getD,List.getD_eq_getElem?_getD,List.getElem?_append_left (by omega)]
 ·rw[if_neg h]
  obtain rfl:j=l.length:=by omega
  unfold Fx.aX
  rw[if_pos (by omega)]; simp
structure PI(gl bt q B:Nat)(w0:World)(pre:List Int)(w:World):Prop where
 ex : ∃ a c,Fx.aP w gl 1 (fun _ => .slice a pre.length c) 53/\Fx.Own w B 22 1 (.slice a pre.length c) pre.length (mP pre)/\(∀ r,(Value.slice a pre.length c).ownBlock=some r->r≠bt/\r≠q/\r≠gl)
 be:Below B w0 w
 lb:bt<w.heap.size
 lq:q<w.heap.size
theorem KeepsOthers.bP{g:Nat}{w w':World}(h:Fx.Stp g w w')(hg : ∀ o,w.heap[g]? = some o->o.isCells=true):KeepsOthers w w' :=
 ⟨h.size,fun k o hk ho=>by
  by_cases e:k=g
  ·subst e; rw[hg o hk]at ho; cases ho
  ·exact(h.block k (Array.getElem?_eq_some_iff.1 hk).1 e).trans hk⟩
theorem KeepsOthers.oO{w w':World}{v:Value}(h:w.grownBy w' v.ownBlock)(hg : ∀ r o,v.ownBlock=some r->w.heap[r]? = some o->o.isCells=true):KeepsOthers w w' :=
 ⟨h.size,fun k o hk ho=>by
  refine(h.block k (Array.getElem?_eq_some_iff.1 hk).1 fun e => ?_).trans hk
  rw[hg k o e.symm hk]at ho; cases ho⟩
theorem sD{w:World}{g:Nat}{T:TypeId}(h:Fx.Ty w g T) : ∀ o,w.heap[g]? = some o->o.isCells=true:=fun o ho=>by
 obtain⟨cs,h⟩:=h
 rw[h]at ho; cases ho; rfl
theorem Jh.trans{tp mb bt q:Nat}{A B C:World}(h:Jh tp mb bt q A B)(k:Jh tp mb bt q B C):Jh tp mb bt q A C:=⟨Nat.le_trans h.size k.size,k.t.trans h.t,k.m.trans h.m,k.b.trans h.b,k.q.trans h.q⟩
theorem Jh.of{tp mb bt q:Nat}{A B:World}(hs:A.heap.size<=B.heap.size)(h : ∀ k,k=tp\/k=mb\/k=bt\/k=q->B.heap[k]? = A.heap[k]?):Jh tp mb bt q A B:=⟨hs,h _ (.inl rfl),h _ (.inr (.inl rfl)),h _ (.inr (.inr (.inl rfl))),h _ (.inr (.inr (.inr rfl)))⟩
theorem PI.own{gl bt q B B2:Nat}{w0:World}(hB:B<=w0.heap.size)(hq:gl≠q)(hqB:B<=q)(hB2:B<=B2):TT.GQ q B2 (PI gl bt q B w0):=fun s W W' row hs hg hr=>by
 obtain⟨⟨aa,cc,m,o,hne⟩,hbe,hlb,hlq⟩:=hs
 have hcell : ∀ r T,Fx.Ty W r T->r≠q->row≠some r:=fun r T ht hrq e=>by
  rcases hr r e with h1|⟨_,ob,h1,h2⟩
  ·exact hrq h1
  ·rw[sD ht ob h1]at h2; cases h2
 refine⟨⟨aa,cc,?_,?_,hne⟩,hbe.grown hg (Nat.le_trans hB hbe.size) fun r e => ?_,Nat.lt_of_lt_of_le hlb hg.size,Nat.lt_of_lt_of_le hlq hg.size⟩
 ·exact(hg.block gl m.lt fun e=>hcell gl _ m.ty hq e.symm).trans m
 ·refine World.ownsRow.kept o hg ?_
  cases hb:(Value.slice aa s.length cc).ownBlock with
  | none=>exact .inl rfl
  | some r=>exact .inr fun e=>hcell r _ (o.ty hb) (hne r hb).2.1 e.symm
 ·rcases hr r e with rfl|⟨h1,_⟩
  ·exact hqB
  ·omega
end Rt
open Rt
theorem Mh(tp mb bt q n d0:Nat)(x p:Nat->Int)(k:Int)(hinj : ∀ a b,a<n->b<n->x a=x b->a=b)(um:fI x p n d0 k)(hd:bt≠q/\tp≠q) :
 TT.TU (Fx.FR none) 2 Tryd.prog 71 #[(pt bt),(pt q)] (fun v:Int => #[.int .u64 v]) (Jh tp mb bt q) (fun xs=>xs=fK x p n d0 k) (fK x p n d0 k).length q
  (fun w=>Fx.aP w tp 1 (fun _ => .map (some mb)) 116/\Fx.Mp w mb n x (fun j => .int .u64 (p j))/\Fx.aP w bt 1 (fun _=>(pt tp)) 85/\Fx.aP w q 1 (fun _ => .int .u64 k) 22) :=
 fun l J W ⟨hT,hM,hB,hQ⟩ hab hY h0=>callsIn_wide.2 (TY J l tp mb bt q n d0 x p k W hT hM hB hQ hinj um ⟨hab,h0⟩ hd hY)
set_option maxRecDepth 10000 in
theorem DZ(x p:Nat->Int)(n tp mb d0:Nat)(k:Int)(w:World)(hT:Fx.aP w tp 1 (fun _ => .map (some mb)) 116)(hM:Fx.Mp w mb n x (fun j => .int .u64 (p j)))(hinj : ∀ a b,a<n->b<n->x a=x b->a=b)(um:fI x p n d0 k)(hlen:(fK x p n d0 k).length<=1000000) :
 Calls Tryd.prog 31 #[(pt tp),.int .u64 k] w fun e w' => ∃ a c,e = .returned (.slice a (fK x p n d0 k).length c)/\Fx.Own w' w.heap.size 22 1 (.slice a (fK x p n d0 k).length c) (fK x p n d0 k).length (mP (fK x p n d0 k))/\Below w.heap.size w w':=by
 have WZ:=hT.lt
 have lmb:=hM.lt
 refine(callsIn_wide (n:=3)).1 (callsIn_of_wp_marks (F:=Fx.FR none) Tryd.func31 rfl trivial ?_ rfl)
 have ha:Fx.rR { tmps := #[(pt tp),.int .u64 k]++Array.replicate (Tryd.f31.ntmps-2) undef,defers := [] } 15 (Fx.start #[(pt tp),.int .u64 k]):=by
  refine⟨by rfl,fun i => ?_⟩
  simp only[Fx.start,Array.getD_eq_getD_getElem?,Array.getElem?_append,Array.getElem?_replicate]
  by_cases hi:i<2
  ·simp[hi]
  ·have h2 : ¬ i<(#[(pt tp),.int .u64 k]:Array Value).size:=by simpa using hi
   rw[if_neg h2]
   split
   ·rw[Array.getElem?_eq_none (by simpa using hi)]; rfl
   ·rw[Array.getElem?_eq_none (by simpa using hi)]
 refine wpIn_seq (Fx.za (Q:=fun e f1 w1=>e = .normal/\f1 0=(pt tp)/\f1 1 = .int .u64 k/\f1 4=(pt w.heap.size)/\Fx.aP w1 w.heap.size 1 (fun _ => .slice none 0 0) 53/\Below w.heap.size w w1) ha ?_ (by rfl) ?_)
 ·refine Fx.L.new (m:=1) (y:=fun _ => .slice none 0 0) (by rfl) rfl (by kernel_rfl) rfl fun g1 w1 aZ m1 s1 z1 => ?_
  subst aZ
  exact Fx.Ln ⟨rfl,rfl,rfl,rfl,m1,s1.old⟩
 rintro e a1 w1 ⟨f1,ha1,hd1,rfl,h0,h1,h4,m1,b1⟩
 have OE:=m1.lt
 refine wpIn_seq (wpIn_seq (Fx.za (Q:=fun e f2 w2=>e = .normal/\f2 4=(pt w.heap.size)/\Below w1.heap.size w1 w2 /\ ∃ bt q,f2 8 = .func (.func 71) #[] #[(pt bt),(pt q)]/\w1.heap.size<=bt/\w1.heap.size<=q/\Fx.aP w2 bt 1 (fun _=>(pt tp)) 85/\Fx.aP w2 q 1 (fun _ => .int .u64 k) 22) ha1 ?_ (by rfl) ?_))
 ·refine Fx.Lv ((pt tp)) (Fx.ah rfl h0) (Fx.Lv (.int .u64 k) (Fx.ah rfl h1) (Fx.L.call (by rfl) (Fx.rC (args := [(pt tp),.int .u64 k]) rfl rfl Tryd.func50 rfl rfl) rfl ((W9 tp k _).mono ?_)))
  rintro e w2 ⟨bt,q,he,lb,lq,mb',mq',hb⟩
  exact⟨_,he,Fx.Ln ⟨rfl,h4,hb,bt,q,rfl,lb,lq,mb',mq'⟩⟩
 rintro e a2 w2 ⟨f2,ha2,hd2,rfl,h4,b2,bt,q,h8,lbt,lq,Xc,mq⟩
 have hds:a2.defers = []:=hd2.trans hd1
 have tbt:=Xc.lt
 have tq:=mq.lt
 have bq:bt≠q:=fun e=>by
  subst e
  have:=Xc.symm.trans mq
  simp only[Option.some.injEq,Obj.cells.injEq]at this
  exact absurd this.2.1 (by decide)
 have m2:=m1.aC (Fx.Sb b2) (Nat.ne_of_lt m1.lt)
 have s1:=b1.size
 have s2:=b2.size
 have b12:Below w.heap.size w w2:=b1.trans (b2.mono s1)
 have T9:Fx.aP w2 tp 1 (fun _ => .map (some mb)) 116:=(b12.block tp WZ).trans hT
 have hM2:Fx.Mp w2 mb n x (fun j => .int .u64 (p j)):=hM.keep (b12.block mb lmb)
 have hgq:w.heap.size≠q:=by omega
 refine wpIn_block (TT.vI (F:=Fx.FR none) rfl (by decide) (gf:=71) (lb := #[(pt bt),(pt q)]) ?hg trivial (fun args w=>gP Tryd.func71 (by kernel_rfl) rfl args w)
  (Mh tp mb bt q n d0 x p k hinj um ⟨bq,by omega⟩) tq ⟨T9,hM2,Xc,mq⟩ ?Ai (fun h k=>h.trans k) ?hKb (fun _=>rfl) (PI w.heap.size bt q w.heap.size w) (PI.own (Nat.le_refl _) hgq (by omega) (by omega))
  ⟨⟨none,0,m2,Fx.Own.nil _ _ _ _ _,fun r e=>by cases e⟩,b12,tbt,tq⟩ (fun v a => ∃ f,Fx.rR a 15 f/\f 4=(pt w.heap.size)/\f 5 = .int .u64 v) ?assign ?body ?done)
 case hg=>rw[ha2.ev]; exact h8
 case Ai =>
  rintro W o hw ⟨i1,i2,i3,i4⟩
  exact⟨(Below.heap_alloc W o tp i1.lt).trans i1,i2.keep (Below.heap_alloc W o mb i2.lt),(Below.heap_alloc W o bt i3.lt).trans i3,(Below.heap_alloc W o q i4.lt).trans i4⟩
 case hKb =>
  intro W l o o' hl _ _ _
  exact Jh.of (by simp) fun r hr=>World.putObj_heap_other (by omega)
 case assign =>
  intro l v W
  have hp:=ha2.put (d:=some 9) rfl (.int .u64 v)
  refine Fx.za (ro:=some l) (n:=15) (f:=Fx.put f2 (some 9) (.int .u64 v)) (Q:=fun e f w'=>e = .normal/\f 4=(pt w.heap.size)/\f 5 = .int .u64 v/\w'=W) (Fx.BJ hp) ?_ (by rfl) ?_
  ·exact Fx.Lv (.int .u64 v) (Fx.aj rfl rfl) (Fx.Ln ⟨rfl,h4,rfl,rfl⟩)
  ·rintro e a' w' ⟨f',hf',_,rfl,g4,g5,rfl⟩
   exact⟨⟨f',hf',g4,g5⟩,rfl⟩
 case body =>
  rintro l pre v W a' ⟨f',hf',g4,g5⟩ ⟨⟨aa,cc,m3,o3,hne⟩,hbe,hpb,hpq⟩ hpl
  have hbs:=hbe.size
  have uY:=m3.lt
  refine wpIn_block (Fx.za (ro:=some l) (Q:=fun e f w'=>e = .normal/\KeepsOthers W w'/\Jh tp mb bt q W w'/\PI w.heap.size bt q w.heap.size w (pre ++ [v]) w') hf' ?_ (by rfl) ?_)
  ·refine Fx.Lv (.slice aa pre.length cc) (Fx.ak (x:=fun _ => .slice aa pre.length cc) rfl g4 (by kernel_rfl) m3.aL (i:=0) (by omega) (by omega) rfl) (Fx.Lv (.int .u64 v) (Fx.ah rfl g5) (Fx.L.wV (vs := [(0,.int .u64 v)]) (s:=1) (zc:=fun _ => .int .u64 0) (y:=Fx.aX (fun j => .int .u64 0) (0*1) 1 (fun _ => .int .u64 v)) (by rfl) rfl rfl Tryd.underlying53 (by kernel_rfl) (by rfl) (by rfl) (by kernel_rfl) (by rw[Fx.aG (off:=0*1) (s:=1) (y:=fun _ => .int .u64 v) rfl (Fx.cells_one (by rfl)) (by rfl)]; rfl) rfl fun g4' w4 gT m4 s4 z4 => ?_))
   have m5:=m3.aC s4 (Nat.ne_of_lt m3.lt)
   have o5:=o3.aC s4 (o3.iG (Nat.le_refl _))
   have hB4:w.heap.size<=w4.heap.size:=Nat.le_trans hbs s4.size
   refine Fx.L.app (B:=w.heap.size) (s:=1) (bytes:=8) (k:=pre.length) (m:=1) (v := .slice aa pre.length cc) (x:=mP pre) (by rfl) rfl rfl rfl Tryd.underlying53 (by kernel_rfl) (by kernel_rfl) rfl rfl o5 m4.aL (fun j hj=>by unfold Fx.aX; split <;> rfl) (by omega) (by omega) (by omega) hB4 fun g6 oG w6 ho1 hg1 P7 hlt1 => ?_
   have m6:=m5.grown hg1 (fun e=>(hne _ e).2.2 rfl)
   refine Fx.L.bV (x:=fun _ => .slice aa pre.length cc) (u := .slice (some ⟨g6,0,none⟩) (pre.length+1) oG) (by rfl) rfl rfl g4 rfl (by rfl) (by kernel_rfl) m6 (i:=0) (by omega) fun w7 m7 s7 z7 => ?_
   have e4 : ∀ r,r<W.heap.size->r≠w.heap.size->(∀ z,(Value.slice aa pre.length cc).ownBlock=some z->z≠r)->w7.heap[r]? = W.heap[r]? := fun r h1 h2 h3 =>
    (s7.block r (Nat.lt_of_lt_of_le (Nat.lt_of_lt_of_le h1 s4.size) hg1.size) h2).trans ((hg1.block r (Nat.lt_of_lt_of_le h1 s4.size) fun e=>h3 r e.symm rfl).trans (s4.block r h1 (Nat.ne_of_lt h1)))
   have hg6:g6≠bt/\g6≠q/\g6≠w.heap.size:=by
    rcases P7 with h|h
    ·exact hne g6 h
    ·have:=s4.size; have:=hbe.block
     refine⟨?_,?_,?_⟩
     ·omega
     ·omega
     ·omega
   have mC:Fx.aP w7 w.heap.size 1 (fun _ => .slice (some ⟨g6,0,none⟩) (pre.length+1) oG) 53:=Fx.aP.congr m7 (by
    intro j hj
    obtain rfl:j=0:=by omega
    rfl)
   refine Fx.Ln ⟨rfl,?_,?_,⟨?_,?_,?_,?_⟩⟩
   ·refine(KeepsOthers.bP s4 fun o ho => ?_).trans ((KeepsOthers.oO hg1 fun r o e ho=>sD (o5.ty e) o ho).trans (KeepsOthers.bP s7 (sD m6.ty)))
    have:=(Array.getElem?_eq_some_iff.1 ho).1; omega
   ·refine Jh.of (Nat.le_trans s4.size (Nat.le_trans hg1.size s7.size)) fun r hr=>e4 r ?_ ?_ fun z hz => ?_
    ·rcases hr with rfl|rfl|rfl|rfl <;> omega
    ·rcases hr with rfl|rfl|rfl|rfl <;> omega
    ·have h1:=(o3.ge hz).1; have h2:=hne z hz
     rcases hr with rfl|rfl|rfl|rfl
     ·omega
     ·omega
     ·exact h2.1
     ·exact h2.2.1
   ·refine⟨some ⟨g6,0,none⟩,oG,?_,?_,fun r e => ?_⟩
    ·rw[List.length_append]; exact mC
    ·rw[List.length_append]; exact(ho1.congr Mg).aC s7 (fun e=>hg6.2.2 (Option.some.inj e))
    ·obtain rfl:g6=r:=Option.some.inj e
     exact hg6
   ·refine s7.below ((s4.below hbe hbs hbs).grown hg1 hB4 fun r e=>(o5.ge e).1) (Nat.le_trans hB4 hg1.size) (Nat.le_refl _)
   ·exact Nat.lt_of_lt_of_le hpb (Nat.le_trans s4.size (Nat.le_trans hg1.size s7.size))
   ·exact Nat.lt_of_lt_of_le hpq (Nat.le_trans s4.size (Nat.le_trans hg1.size s7.size))
  ·rintro e a5 w5 ⟨f5,_,_,rfl,q1,q2,q3⟩
   exact⟨q1,q2,q3⟩
 case done =>
  rintro D xs W hD rfl ⟨⟨aa,cc,m3,o3,hne⟩,hbe,hpb,hpq⟩ hK
  have hcD : ∀ g,g<w2.heap.size->g≠D:=fun g h e=>by omega
  have hkc : ∀ {g T},Fx.Ty W g T->g≠D:=fun ht e=>by
   have:=sD ht _ (e ▸ hK); cases this
  have hDn:(w.heap.size:Nat)≠D:=by omega
  show Code.wpIn _ _ _ _ _ _ _
  refine wpIn_seq (Fx.za (Q:=fun e f w'=>e = .normal/\f 4=(pt w.heap.size)/\Fx.Stp w.heap.size W w'/\Fx.aP w' w.heap.size 1 (fun _ => .slice aa (fK x p n d0 k).length cc) 53) (f:=f2) ⟨ha2.size,ha2.get⟩ ?_ (by rfl) ?_)
  ·refine Fx.Lv (.slice aa (fK x p n d0 k).length cc) (Fx.ak (x:=fun _ => .slice aa (fK x p n d0 k).length cc) rfl h4 (by kernel_rfl) m3.aL (i:=0) (by omega) (by omega) rfl) (Fx.L.bV (x:=fun _ => .slice aa (fK x p n d0 k).length cc) (u := .slice aa (fK x p n d0 k).length cc) (by rfl) rfl rfl h4 rfl (by rfl) (by kernel_rfl) m3 (i:=0) (by omega) fun w7 m7 s7 z7 => ?_)
   exact Fx.Ln ⟨rfl,h4,s7,Fx.aP.congr m7 fun j hj=>by
    obtain rfl:j=0:=by omega
    rfl⟩
  rintro e a7 w7 ⟨f7,ha7,hd7,rfl,q4,s7,m7⟩
  have hK7:w7.heap[D]? = some (.deferred (some [])):=(s7.block D (Array.getElem?_eq_some_iff.1 hK).1 (Ne.symm hDn)).trans hK
  have m8:Fx.aP (w7.putObj D (.deferred none)) w.heap.size 1 (fun _ => .slice aa (fK x p n d0 k).length cc) 53:=(World.putObj_heap_other hDn).trans m7
  refine wpIn_ret (Fx.leave1 ha7 (hd7.trans (by rw[hds])) hK7 (Fx.rV Tryd.results31 ⟨_,q4,Fx.GA m8.aL (by kernel_rfl) (i:=0) (by omega) (by omega) rfl⟩) ⟨aa,cc,rfl,?_,?_⟩)
  ·have o7:=o3.aC s7 (fun e=>(hne _ e).2.2 rfl)
   exact World.ownsRow.kept o7 (grownBy_putObj' w7 D _) (.inr fun e=>by
    exact hkc (o3.ty e) rfl)
  ·exact(s7.below hbe hbe.size (Nat.le_refl _)).grown (grownBy_putObj' w7 D _) (Nat.le_trans hbe.size s7.size) fun r e=>by cases e; omega
end Go.Proofs.YtahbiajdgealnaaDoor
namespace Go.Proofs.YtahbiajdgealnaaDoor
open Go.RowKit Go
set_option linter.unusedVariables false
namespace Rt
section
variable {x p x' p':Nat->Int} {n n' j d e:Nat} {k id pa:Int}
theorem qj : ∀ {d:Nat} {k:Int},(fK x p n d k).length<=d
 | 0,k=>Nat.le_refl _
 | d+1,k=>by
   unfold fK
   split
   ·rw[List.length_cons]; exact Nat.succ_le_succ qj
   ·exact Nat.zero_le _
theorem sF : ∀ {d e:Nat} {k:Int},fI x p n d k->(fK x p n d k).length<=e->fI x p n e k
 | 0,0,k,h,_=>h
 | 0,e+1,k,h,_=>fun h2=>by
   have h:cK x n k=false:=h
   rw[h]at h2; cases h2
 | d+1,0,k,h,hl=>by
   show cK x n k=false
   cases hk:cK x n k with
   | false=>rfl
   | true =>
     unfold fK at hl
     rw[if_pos hk,List.length_cons]at hl
     omega
 | d+1,e+1,k,h,hl=>fun hk=>by
   unfold fK at hl
   rw[if_pos hk,List.length_cons]at hl
   exact sF (h hk) (by omega)
theorem BL : ∀ {d:Nat} {k:Int},fI x p n d k->fK x p n (d+1) k=fK x p n d k
 | 0,k,h=>by
   have h:cK x n k=false:=h
   rw[iH h,iH h]
 | d+1,k,h=>by
   cases hk:cK x n k with
   | false=>rw[iH hk,iH hk]
   | true =>
     show(if cK x n k=true then k::fK x p n (d+1) (fq x p n k)else [])=(if cK x n k=true then k::fK x p n d (fq x p n k)else [])
     rw[if_pos hk,if_pos hk,BL (h hk)]
theorem D5{d:Nat}{k:Int}(h:fI x p n d k):fI x p n (d+1) k:=sF h (Nat.le_succ_of_le qj)
theorem Aj{d e:Nat}{k:Int}(h:fI x p n d k)(hde:d<=e):fK x p n e k=fK x p n d k/\fI x p n e k:=by
 induction hde with
 | refl=>exact⟨rfl,h⟩
 | step _ ih=>exact⟨(BL ih.2).trans ih.1,D5 ih.2⟩
theorem zf(hh : ∀ k,cK x' n' k=cK x n k)(hp : ∀ k,cK x n k=true->fq x' p' n' k=fq x p n k) : ∀(d:Nat) (k:Int),fK x' p' n' d k=fK x p n d k
 | 0,_=>rfl
 | d+1,k=>by
   unfold fK
   rw[hh]
   cases hk:cK x n k with
   | false=>rfl
   | true=>rw[if_pos rfl,if_pos rfl,hp k hk,zf hh hp d]
structure uo(n:Nat)(x p:Nat->Int):Prop where
 inj : ∀ a b,a<n->b<n->x a=x b->a=b
 pos : ∀ j,j<n->0<x j/\x j<=18446744073709551615
 stop : ∀ k,fI x p n 4 k
 small:n<=32
 par : ∀ j,j<n->p j=0 \/ ∃ i,i<j/\x i=p j
theorem uo.zero(x p:Nat->Int):uo 0 x p:=⟨fun a b h=>by omega,fun j h=>by omega,fun k h=>(nomatch h),by omega,fun j h=>by omega⟩
theorem uo.P8(h:uo n x p):cK x n 0=false:=qh fun i hi e=>by have:=h.pos i hi; omega
theorem uo.Ua(h:uo n x p)(d:Nat):fK x p n d 0 = []:=iH h.P8
theorem uo.len(h:uo n x p)(k:Int):(fK x p n 4 k).length<=1000000:=Nat.le_trans qj (by omega)
def lJ(x p:Nat->Int)(n:Nat)(id pa:Int):Int :=
 if id=0 then 1 else if cK x n id=true then 14 else if ¬ pa=0/\cK x n pa=false then 9 else if 32<=n\/4<=(fK x p n 4 pa).length then 6 else 0
inductive P9 (n:Nat) (x p:Nat->Int) (id pa:Int):Int->Nat->(Nat->Int)->(Nat->Int)->Prop
 | no {c:Int} (hc:lJ x p n id pa=c) (h0:c≠0):P9 n x p id pa c n x p
 | yes (hc:lJ x p n id pa=0):P9 n x p id pa 0 (n+1) (Fx.aH x n id) (Fx.aH p n pa)
theorem D6(hc:lJ x p n id pa=0):id≠0/\cK x n id=false/\(pa=0\/cK x n pa=true)/\n<32/\(fK x p n 4 pa).length<4:=by
 unfold lJ at hc
 split at hc
 ·cases hc
 split at hc
 ·cases hc
 split at hc
 ·cases hc
 split at hc
 ·cases hc
 rename_i h1 h2 h3 h4
 refine⟨h1,by simpa using h2,?_,by omega,by omega⟩
 by_cases hp:pa=0
 ·exact .inl hp
 right
 cases hk:cK x n pa with
 | true=>rfl
 | false=>exact absurd ⟨hp,hk⟩ h3
theorem gZ(id k:Int):cK (Fx.aH x n id) (n+1) k=(cK x n k || decide (id=k)):=by
 have e : ∀ m,m<=n->cK (Fx.aH x n id) m k=cK x m k:=fun m=>by
  induction m with
  | zero=>exact fun _=>rfl
  | succ m ih =>
    intro hm
    show(cK (Fx.aH x n id) m k || decide (Fx.aH x n id m=k))=(cK x m k || decide (x m=k))
    rw[ih (by omega)]
    unfold Fx.aH
    rw[if_neg (by omega)]
 show(cK (Fx.aH x n id) n k || decide (Fx.aH x n id n=k))=_
 rw[e n (Nat.le_refl _)]
 unfold Fx.aH
 rw[if_pos rfl]
theorem nN(id pa k:Int):fq (Fx.aH x n id) (Fx.aH p n pa) (n+1) k=if id=k then pa else fq x p n k:=by
 have e : ∀ m,m<=n->fq (Fx.aH x n id) (Fx.aH p n pa) m k=fq x p m k:=fun m=>by
  induction m with
  | zero=>exact fun _=>rfl
  | succ m ih =>
    intro hm
    show(if Fx.aH x n id m=k then Fx.aH p n pa m else fq (Fx.aH x n id) (Fx.aH p n pa) m k)=(if x m=k then p m else fq x p m k)
    rw[ih (by omega),show Fx.aH x n id m=x m by unfold Fx.aH; rw[if_neg (by omega)],show Fx.aH p n pa m=p m by unfold Fx.aH; rw[if_neg (by omega)]]
 show(if Fx.aH x n id n=k then Fx.aH p n pa n else fq (Fx.aH x n id) (Fx.aH p n pa) n k)=_
 rw[e n (Nat.le_refl _),show Fx.aH x n id n=id by unfold Fx.aH; rw[if_pos rfl],show Fx.aH p n pa n=pa by unfold Fx.aH; rw[if_pos rfl]]
theorem uo.up(h:uo n x p)(hk:cK x n k=true):fq x p n k=0\/cK x n (fq x p n k)=true:=by
 obtain⟨j,hj,e⟩:=dW hk
 rw[sj h.inj hj e]
 rcases h.par j hj with h1|⟨i,hi,h1⟩
 ·exact .inl h1
 exact .inr (fQ (by omega) h1)
theorem xq(h:uo n x p)(hid:cK x n id=false)(h0:id≠0) : ∀(d:Nat) (k:Int),k≠id->fI x p n d k->fI (Fx.aH x n id) (Fx.aH p n pa) (n+1) d k
 | 0,k,hk,hs=>by
   show cK _ _ _=false
   rw[gZ,decide_eq_false (fun e=>hk e.symm),Bool.or_false]; exact hs
 | d+1,k,hk,hs=>fun hh=>by
   rw[gZ,decide_eq_false (fun e=>hk e.symm),Bool.or_false]at hh
   rw[nN,if_neg (fun e=>hk e.symm)]
   refine xq h hid h0 d _ ?_ (hs hh)
   intro e
   rcases h.up hh with h1|h1
   ·exact h0 (e.symm.trans h1)
   ·rw[e,hid]at h1; cases h1
theorem uo.put(h:uo n x p)(hc:lJ x p n id pa=0)(hb:0<=id/\id<=18446744073709551615):uo (n+1) (Fx.aH x n id) (Fx.aH p n pa):=by
 obtain⟨h0,hid,hpa,hn,hl⟩:=D6 hc
 have e1:Fx.aH x n id n=id:=by unfold Fx.aH; rw[if_pos rfl]
 have e2 : ∀ j,j<n->Fx.aH x n id j=x j:=fun j hj=>by unfold Fx.aH; rw[if_neg (by omega)]
 have e3:Fx.aH p n pa n=pa:=by unfold Fx.aH; rw[if_pos rfl]
 have e4 : ∀ j,j<n->Fx.aH p n pa j=p j:=fun j hj=>by unfold Fx.aH; rw[if_neg (by omega)]
 have hne : ∀ j,j<n->x j≠id:=fun j hj e=>by rw[fQ hj e]at hid; cases hid
 have hpn:pa≠id:=fun e=>by
  subst e
  rcases hpa with h1|h1
  ·exact h0 h1
  ·rw[hid]at h1; cases h1
 have two : ∀ j,j<n+1->j<n\/j=n:=fun j hj=>by omega
 refine⟨fun a b ha hb e => ?_,fun j hj => ?_,fun k => ?_,by omega,fun j hj => ?_⟩
 ·rcases two a ha with h1|rfl <;> rcases two b hb with h2|rfl
  ·rw[e2 a h1,e2 b h2]at e; exact h.inj a b h1 h2 e
  ·rw[e2 a h1,e1]at e; exact absurd e (hne a h1)
  ·rw[e1,e2 b h2]at e; exact absurd e.symm (hne b h2)
  rfl
 ·rcases two j hj with h1|rfl
  ·rw[e2 j h1]; exact h.pos j h1
  rw[e1]; omega
 ·by_cases hk:k=id
  ·subst hk
   intro _
   rw[nN,if_pos rfl]
   exact xq h hid h0 3 pa hpn (sF (h.stop pa) (by omega))
  exact xq h hid h0 4 k hk (h.stop k)
 rcases two j hj with h1|rfl
 ·rw[e4 j h1]
  rcases h.par j h1 with h2|⟨i,hi,h2⟩
  ·exact .inl h2
  exact .inr ⟨i,hi,by rw[e2 i (by omega)]; exact h2⟩
 rw[e3]
 rcases hpa with h2|h2
 ·exact .inl h2
 obtain⟨i,hi,h3⟩:=dW h2
 exact .inr ⟨i,hi,by rw[e2 i hi]; exact h3⟩
theorem ql : ∀ {l m:List Int},l.Pairwise (· < ·)->m.Pairwise (· < ·)->(∀ k,k∈l<->k∈m)->l=m
 | [],[],_,_,_=>rfl
 | [],b::m,_,_,h=>by have:=(h b).2 (by simp); simp at this
 | a::l,[],_,_,h=>by have:=(h a).1 (by simp); simp at this
 | a::l,b::m,hl,hm,h=>by
   rw[List.pairwise_cons]at hl hm
   have e:a=b:=by
    have h1:=(h a).1 (by simp)
    have h2:=(h b).2 (by simp)
    rw[List.mem_cons]at h1 h2
    rcases h1 with h1|h1
    ·exact h1
    rcases h2 with h2|h2
    ·exact h2.symm
    have:=hm.1 _ h1; have:=hl.1 _ h2; omega
   subst e
   rw[ql hl.2 hm.2 fun k => ?_]
   have hk:=h k
   rw[List.mem_cons,List.mem_cons]at hk
   constructor
   ·intro q
    rcases hk.1 (.inr q)with rfl|h1
    ·have:=hl.1 _ q; omega
    ·exact h1
   ·intro q
    rcases hk.2 (.inr q)with rfl|h1
    ·have:=hm.1 _ q; omega
    ·exact h1
end
theorem zh(S:Nat->Bool) : ∀ n,Fx.unseen S n<=n
 | 0=>Nat.le_refl _
 | n+1=>by
   unfold Fx.unseen
   have:=zh S n
   split <;> omega
structure Ji(n:Nat)(P:Nat->Prop)(S:Nat->Bool)(m:Nat)(τ:Nat->Nat)(kk:Nat):Prop where
 lt : ∀ q,q<m->τ q<n
 inj : ∀ q r,q<m->r<m->τ q=τ r->q=r
 mem : ∀ i,i<n->S i=true->P i -> ∃ q,q<m/\τ q=i
 yes : ∀ q,q<m->P (τ q)
 seen : ∀ q,q<m->S (τ q)=true
 le:m+kk<=n
 kk:kk=Fx.unseen S n
section
variable {n m kk:Nat} {P:Nat->Prop} {S:Nat->Bool} {τ:Nat->Nat}
theorem Ji.start(n:Nat)(P:Nat->Prop)(τ:Nat->Nat):Ji n P (fun _=>false) 0 τ (Fx.unseen (fun _=>false) n) :=
 ⟨fun _ h=>absurd h (Nat.not_lt_zero _),fun _ _ h=>absurd h (Nat.not_lt_zero _),fun _ _ h=>(nomatch h),fun _ h=>absurd h (Nat.not_lt_zero _),fun _ h=>absurd h (Nat.not_lt_zero _),by have:=zh (fun _=>false) n; omega,rfl⟩
theorem Ji.skip(h:Ji n P S m τ kk){i:Nat}(hi:i<n)(hs:S i=false)(hp : ¬ P i):Ji n P (Fx.aH S i true) m τ (Fx.unseen (Fx.aH S i true) n):=by
 have hu:=Fx.jL hs n hi
 have hk:=h.kk
 have hl:=h.le
 refine⟨h.lt,h.inj,fun j hj hS hP => ?_,h.yes,fun q hq => ?_,by omega,rfl⟩
 ·unfold Fx.aH at hS
  split at hS
  ·rename_i e; subst e; exact absurd hP hp
  exact h.mem j hj hS hP
 unfold Fx.aH; split
 ·rfl
 exact h.seen q hq
theorem Ji.take(h:Ji n P S m τ kk){i:Nat}(hi:i<n)(hs:S i=false)(hp:P i):Ji n P (Fx.aH S i true) (m+1) (Fx.aH τ m i) (Fx.unseen (Fx.aH S i true) n):=by
 have hu:=Fx.jL hs n hi
 have hk:=h.kk
 have hl:=h.le
 have e1:Fx.aH τ m i m=i:=by unfold Fx.aH; rw[if_pos rfl]
 have e2 : ∀ q,q<m->Fx.aH τ m i q=τ q:=fun q hq=>by unfold Fx.aH; rw[if_neg (by omega)]
 have ne : ∀ q,q<m->τ q≠i:=fun q hq e=>by have:=h.seen q hq; rw[e,hs]at this; cases this
 have two : ∀ q,q<m+1->q<m\/q=m:=fun q hq=>by omega
 refine⟨fun q hq => ?_,fun q r hq hr e => ?_,fun j hj hS hP => ?_,fun q hq => ?_,fun q hq => ?_,by omega,rfl⟩
 ·rcases two q hq with h1|rfl
  ·rw[e2 q h1]; exact h.lt q h1
  rw[e1]; exact hi
 ·rcases two q hq with h1|h1 <;> rcases two r hr with h2|h2
  ·rw[e2 q h1,e2 r h2]at e; exact h.inj q r h1 h2 e
  ·subst h2; rw[e2 q h1,e1]at e; exact absurd e (ne q h1)
  ·subst h1; rw[e2 r h2,e1]at e; exact absurd e.symm (ne r h2)
  omega
 ·by_cases e:j=i
  ·exact⟨m,by omega,by rw[e1,e]⟩
  unfold Fx.aH at hS
  rw[if_neg e]at hS
  obtain⟨q,hq,hq2⟩:=h.mem j hj hS hP
  exact⟨q,by omega,by rw[e2 q hq,hq2]⟩
 ·rcases two q hq with h1|rfl
  ·rw[e2 q h1]; exact h.yes q h1
  rw[e1]; exact hp
 rcases two q hq with h1|rfl
 ·rw[e2 q h1]; unfold Fx.aH; split
  ·rfl
  exact h.seen q h1
 rw[e1]; unfold Fx.aH; rw[if_pos rfl]
end
end Rt
end Go.Proofs.YtahbiajdgealnaaDoor
namespace Go.Proofs.YtahbiajdgealnaaDoor
open Go.RowKit
open Rt
set_option maxRecDepth 10000
theorem Ub(x p:Nat->Int)(w:World) :
 Calls Tryd.prog 28 #[] w fun e w' => ∃ tp mb,e = .returned ((pt tp))/\w.heap.size<=tp/\w.heap.size<=mb/\Fx.aP w' tp 1 (fun _ => .map (some mb)) 116/\Fx.Mp w' mb 0 x (fun j => .int .u64 (p j))/\Below w.heap.size w w':=by
 refine Fx.enter Tryd.func28 rfl (n:=4) rfl (by rfl) ?_
 refine Fx.Ws (Fx.Wl (Fx.Lv (.pointer none) (Fx.aj rfl rfl) (Fx.Ln (Fx.sN (Fx.Ws (Fx.Wl (Fx.L.Bz (by rfl) rfl rfl fun g1 w1 aZ m1 s1 z1 => ?_)))))))
 have b1:=s1.below (Below.refl w.heap.size w) (Below.refl w.heap.size w).size (Below.refl w.heap.size w).size
 have kM:w.heap.size<=g1:=by rw[aZ]; exact(Below.refl w.heap.size w).size
 have mO:g1<w1.heap.size:=m1.lt
 clear aZ
 refine Fx.Lv (.agg (Fx.ay 1 (Fx.aX (fun _ => .map none) 0 1 (fun _ => .map (some g1))))) (Fx.bX (vs := [(0,.map (some g1))]) (places := #[(0,1)]) (m:=1) (x:=fun _ => .map none) rfl rfl Tryd.underlying116 (by kernel_rfl) (by kernel_rfl) (by rw[Fx.aG (off:=0) (s:=1) (y:=fun _ => .map (some g1)) (by kernel_rfl) (Fx.cells_one (by rfl)) (by rfl)]; rfl)) (Fx.L.box (m:=1) (y:=Fx.aX (fun _ => .map none) 0 1 (fun _ => .map (some g1))) (by rfl) rfl rfl (Fx.aN _ _) rfl fun g2 w2 bS m2 s2 z2 => ?_)
 have m3:=m1.up s2.old
 have b2:=s2.below b1 b1.size b1.size
 have su:w.heap.size<=g2:=by rw[bS]; exact b1.size
 have xg:g1≠g2:=by rw[bS]; exact Nat.ne_of_lt (m1.lt)
 have vK:g2<w2.heap.size:=m2.lt
 clear bS
 refine Fx.Lv ((pt g2)) (Fx.aj rfl rfl) (Fx.Ln (Fx.sN (Fx.Wr (⟨(pt g2),Fx.rV Tryd.results28 (by exact rfl),?_⟩))))
 exact⟨_,_,rfl,su,kM,m2,m3.mM (fun i hi=>absurd hi (Nat.not_lt_zero _)),b2⟩
theorem Rt.mQ{l:List Int}{i:Nat}{v:Int}(hi:i<l.length)(e:l.getD i 0=v):v∈l:=by
 rw[List.getD_eq_getElem?_getD,List.getElem?_eq_getElem hi]at e
 rw[<- e]; exact List.getElem_mem hi
theorem Rt.Mi{l:List Int}{v:Int}(h : ∀ j,j<l.length->l.getD j 0≠v) : ¬ v∈l:=fun hm=>by
 obtain⟨i,hi,e⟩:=List.getElem_of_mem hm
 refine h i hi ?_
 rw[List.getD_eq_getElem?_getD,List.getElem?_eq_getElem hi]; exact e
theorem Xd(l:List Int)(v:Int)(B c:Nat)(a:Option Addr)(w:World)(hl:Fx.Own w B 22 1 (.slice a l.length c) l.length (mP l))(hs:l.length<=1000) :
 Calls Tryd.prog 180 #[.slice a (l.length) (c),.int .u64 (v)] w fun e w' => ∃ r:Int,e = .returned (.int .i64 r)/\(0<=r<->v∈l)/\Below w.heap.size w w':=by
 refine Fx.enter Tryd.func180 rfl (n:=19) rfl (by rfl) ?_
 refine Fx.Ws (Fx.Wl (Fx.Lv (.int .i64 (0)) (Fx.aj rfl rfl) (Fx.Ln (Fx.sN (Fx.Ws (Fx.Ws (Fx.Wl (Fx.Lv (.slice a (l.length) (c)) (Fx.ah rfl rfl) (Fx.Lv (.int .i64 ((l.length:Int))) (Fx.x_len rfl rfl rfl (by kernel_rfl)) (Fx.Lv (.int .i64 (0)) (Fx.ah rfl rfl) (Fx.Ln (Fx.sN (Fx.W.block (Fx.W.loop (fun f w_ => ∃ i:Nat,(∀ j,j<i->l.getD j 0≠v)/\f 0 = .slice a (l.length) (c)/\f 1 = .int .u64 (v)/\f 7 = .int .i64 ((l.length:Int))/\f 8 = .int .i64 ((i:Int))/\Fx.Own w_ B 22 1 (.slice a (l.length) (c)) l.length (mP l)/\Below w.heap.size w w_) (fun f _=>((l.length:Int)-intOf (f 8)).toNat) ⟨0,(fun j hj=>absurd hj (Nat.not_lt_zero _)),(by rfl),Fx.ic,Fx.ic,Fx.ic,hl,(Below.refl w.heap.size w)⟩ ?_))))))))))))))
 rintro f1 w1 ⟨i,hno,h1,h2,h3,h4,m1,b1⟩
 refine Fx.Ws (Fx.Wl ?_)
 by_cases c9:(i:Int)<(l.length:Int)
 ·refine Fx.Lv (.bool true) (Fx.eG rfl h4 h3 c9) (Fx.Ln (Fx.sN (Fx.Ws (Fx.Wc (b:=true) rfl (fun _=>Fx.Wk (Fx.sN (Fx.Ws (Fx.W.block (Fx.Ws (Fx.Wl (Fx.Lv (.int .i64 ((i:Int))) (Fx.ah rfl h4) ?_))))))) (fun h=>nomatch h)))))
  refine Fx.Lv (.int .i64 ((i:Int))) (Fx.aj rfl rfl) (Fx.Ln (Fx.sN (Fx.Ws (Fx.Wl (Fx.Lv (.int .u64 (v)) (Fx.ah rfl h2) (Fx.Lv (.slice a (l.length) (c)) (Fx.ah rfl h1) (Fx.Lv (.int .i64 ((i:Int))) (Fx.ah rfl rfl) ?_)))))))
  obtain⟨BM,eq1⟩:=m1.addr (by omega)
  have m2:Fx.Own w1 B 22 1 (.slice (some ⟨BM,0,none⟩) l.length c) l.length (mP l):=m1.oP (congrArg (fun q=>Value.slice q l.length c) eq1)
  refine Fx.Lv ((pf BM i)) (Fx.av rfl (rfl.trans (congrArg (fun q=>Value.slice q (l.length) (c)) eq1)) rfl Tryd.underlying53 (s:=1) (by kernel_rfl) (by omega) (by omega) (by omega)) (Fx.Lv (.int .u64 (l.getD i 0)) (Fx.ak (x:=mP l) rfl rfl (by kernel_rfl) m2.aL (i:=i) (by omega) (by omega) rfl) ?_)
  by_cases c16:v=(l.getD i 0)
  ·refine Fx.Lv (.bool true) (Fx.bG rfl rfl rfl c16) (Fx.Ln (Fx.sN (Fx.Wc (b:=true) rfl (fun _=>Fx.Ws (Fx.Wl (Fx.Lv (.int .i64 ((i:Int))) (Fx.ah rfl rfl) ?_))) (fun h=>nomatch h))))
   refine Fx.Lv (.int .i64 ((i:Int))) (Fx.aj rfl rfl) (Fx.Ln (Fx.sN (Fx.Wr (Fx.dH (Fx.sR (Fx.DT (Fx.dH (Fx.sR (⟨.int .i64 ((i:Int)),Fx.rV Tryd.results180 (by exact rfl),?_⟩)))))))))
   exact⟨_,rfl,⟨fun _=>mQ (by omega) c16.symm,fun _=>by omega⟩,b1⟩
  refine Fx.Lv (.bool false) (Fx.dn rfl rfl rfl c16) (Fx.Ln (Fx.sN (Fx.Wc (b:=false) rfl (fun h=>nomatch h) (fun _=>Fx.Wk (Fx.dV (Fx.sN (Fx.Wl (Fx.Lv (.int .i64 ((i:Int)+1)) (Fx.aS rfl h4 rfl Fx.io) (Fx.Lv (.int .i64 ((i:Int)+1)) (Fx.ah rfl rfl) (Fx.Ln ?_))))))))))
  have m3:Fx.Own w1 B 22 1 (.slice a (l.length) (c)) l.length (mP l):=m2.oP (congrArg (fun q=>Value.slice q l.length c) eq1.symm)
  refine Fx.kg ⟨i+1,(fun j hj=>by by_cases e:j=i; subst e; exact fun e=>c16 e.symm; exact hno j (by omega)),h1,(h2.trans Fx.ic),(h3.trans Fx.ic),Fx.ic,m3,b1⟩ ?_
  show((l.length:Int)-intOf ((.int .i64 ((i:Int)+1)))).toNat<_
  simp only[h4,intOf]; omega
 refine Fx.Lv (.bool false) (Fx.dX rfl h4 h3 c9) (Fx.Ln (Fx.sN (Fx.Ws (Fx.Wc (b:=false) rfl (fun h=>nomatch h) (fun _=>Fx.W.exit (Fx.dQ (Fx.jC (Fx.dR (Fx.sN (Fx.Ws (Fx.Wl (Fx.Lv (.int .i64 (-1)) (Fx.aj rfl rfl) (Fx.Ln (Fx.sN (Fx.Wr (⟨.int .i64 (-1),Fx.rV Tryd.results180 (by exact rfl),?_⟩))))))))))))))))
 exact⟨_,rfl,⟨fun h=>by omega,fun h=>absurd h (Mi (fun j hj=>hno j (by omega)))⟩,b1⟩
theorem Xe(l:List Int)(v:Int)(B c:Nat)(a:Option Addr)(w:World)(hl:Fx.Own w B 22 1 (.slice a l.length c) l.length (mP l))(hs:l.length<=1000) :
 Calls Tryd.prog 169 #[.slice a (l.length) (c),.int .u64 (v)] w fun e w'=>e = .returned (.bool (decide (v∈l)))/\Below w.heap.size w w':=by
 refine Fx.enter Tryd.func169 rfl (n:=9) rfl (by rfl) ?_
 refine Fx.Ws (Fx.Wl (Fx.Lv (.bool false) (Fx.aj rfl rfl) (Fx.Ln (Fx.sN (Fx.Ws (Fx.Wl (Fx.Lv (.slice a (l.length) (c)) (Fx.ah rfl rfl) (Fx.Lv (.int .u64 (v)) (Fx.ah rfl rfl) (Fx.L.call (by rfl) (Fx.rC (args := [.slice a (l.length) (c),.int .u64 (v)]) rfl rfl Tryd.func180 rfl rfl) rfl ((Xd l v B c a _ hl hs).mono ?_))))))))))
 rintro e9 w1 ⟨r,he,hr1,hb1⟩
 refine⟨_,he,?_⟩
 clear he
 have s1:=Fx.Sb hb1
 have b1:=s1.below (Below.refl w.heap.size w) (Below.refl w.heap.size w).size (Below.refl w.heap.size w).size
 refine Fx.Lv (.bool (decide (0<=r))) (Fx.wP rfl rfl rfl) (Fx.Lv (.bool (decide (0<=r))) (Fx.aj rfl rfl) (Fx.Ln (Fx.sN (Fx.Wr (⟨.bool (decide (0<=r)),Fx.rV Tryd.results169 (by exact rfl),?_⟩)))))
 exact⟨by rw[decide_eq_decide.2 hr1],b1⟩
theorem Uc(x p:Nat->Int)(n tp mb:Nat)(id pa:Int)(w:World)(hT:Fx.aP w tp 1 (fun _ => .map (some mb)) 116)(hM:Fx.Mp w mb n x (fun j => .int .u64 (p j)))(h:uo n x p) :
 Calls Tryd.prog 155 #[(pt tp),.int .u64 (id),.int .u64 (pa)] w fun e w' => ∃ c n2 x2 p2,e = .returned (.int .i64 c)/\P9 n x p id pa c n2 x2 p2/\Fx.aP w' tp 1 (fun _ => .map (some mb)) 116/\Fx.Mp w' mb n2 x2 (fun j => .int .u64 (p2 j))/\Fx.Stp mb w w':=by
 have WZ:=hT.lt
 have lmb:=hM.lt
 have hsm:=h.small
 have hpl:(fK x p n 4 pa).length<=4:=qj
 refine Fx.enter Tryd.func155 rfl (n:=44) rfl (by rfl) ?_
 refine Fx.Ws (Fx.Wl (Fx.Lv (.int .i64 (0)) (Fx.aj rfl rfl) (Fx.Ln (Fx.sN (Fx.Ws (Fx.W.block (Fx.Ws (Fx.Wl (Fx.Lv ((pt tp)) (Fx.ah rfl rfl) (Fx.Lv (.bool false) (Fx.nG rfl rfl rfl (by kernel_rfl)) (Fx.Lv (.bool false) (Fx.aj rfl rfl) (Fx.Ln (Fx.sN (Fx.Wc (b:=false) rfl (fun h=>nomatch h) (fun _=>Fx.Ws (Fx.Wl (Fx.Lv (.int .u64 (id)) (Fx.ah rfl rfl) ?_)))))))))))))))))
 by_cases c12:id=0
 ·refine Fx.Lv (.bool true) (Fx.bG rfl rfl rfl c12) (Fx.Lv (.bool true) (Fx.aj rfl rfl) (Fx.Ln (Fx.sN (Fx.Wc (b:=true) rfl (fun _=>Fx.Ws (Fx.Wl (Fx.Lv (.int .i64 (1)) (Fx.aj rfl rfl) ?_))) (fun h=>nomatch h)))))
  refine Fx.Ln (Fx.sN (Fx.Wr (Fx.dH (Fx.sR (⟨.int .i64 (1),Fx.rV Tryd.results155 (by exact rfl),?_⟩)))))
  exact⟨_,_,_,_,rfl,.no (by unfold lJ; rw[if_pos c12]) (by decide),hT,hM,(Fx.Stp.refl mb w)⟩
 refine Fx.Lv (.bool false) (Fx.dn rfl rfl rfl c12) (Fx.Lv (.bool false) (Fx.aj rfl rfl) (Fx.Ln (Fx.sN (Fx.Wc (b:=false) rfl (fun h=>nomatch h) (fun _=>Fx.Ws (Fx.Wl (Fx.Lv ((pt tp)) (Fx.ah rfl rfl) (Fx.Lv (.int .u64 (id)) (Fx.ah rfl rfl) ?_))))))))
 by_cases c16:(cK x n id)=true
 ·refine Fx.L.call (by rfl) (Fx.rC (args := [(pt tp),.int .u64 (id)]) rfl rfl Tryd.func72 rfl rfl) rfl ((wZ x p n tp mb id _ hT hM).mono ?_)
  rintro e v1 ⟨he,hv1⟩
  subst v1
  refine⟨.bool true,by rw[he,c16],?_⟩
  clear he
  refine Fx.Lv (.bool true) (Fx.aj rfl rfl) (Fx.Ln (Fx.sN (Fx.Wc (b:=true) rfl (fun _=>Fx.Ws (Fx.Wl (Fx.Lv (.int .i64 (14)) (Fx.aj rfl rfl) ?_))) (fun h=>nomatch h))))
  refine Fx.Ln (Fx.sN (Fx.Wr (Fx.dH (Fx.sR (⟨.int .i64 (14),Fx.rV Tryd.results155 (by exact rfl),?_⟩)))))
  exact⟨_,_,_,_,rfl,.no (by unfold lJ; rw[if_neg c12,c16,if_pos rfl]) (by decide),hT,hM,(Fx.Stp.refl mb w)⟩
 rw[Bool.not_eq_true]at c16
 refine Fx.L.call (by rfl) (Fx.rC (args := [(pt tp),.int .u64 (id)]) rfl rfl Tryd.func72 rfl rfl) rfl ((wZ x p n tp mb id _ hT hM).mono ?_)
 rintro e v1 ⟨he,hv1⟩
 subst v1
 refine⟨.bool false,by rw[he,c16],?_⟩
 clear he
 refine Fx.Lv (.bool false) (Fx.aj rfl rfl) (Fx.Ln (Fx.sN (Fx.Wc (b:=false) rfl (fun h=>nomatch h) (fun _=>Fx.Ws (Fx.Wl (Fx.Lv (.int .u64 (pa)) (Fx.ah rfl rfl) ?_))))))
 by_cases c19:pa=0
 ·refine Fx.Lv (.bool false) (Fx.gu rfl rfl rfl c19) (Fx.Lv (.bool false) (Fx.ah rfl rfl) (Fx.Lk (by rfl) rfl (Fx.Lk (by rfl) rfl (Fx.Lk (by rfl) rfl (Fx.Lk (by rfl) rfl (Fx.Lv (.bool false) (Fx.aJ rfl rfl rfl) (Fx.Lv (.bool false) (Fx.aj rfl rfl) (Fx.Ln (Fx.sN (Fx.Wc (b:=false) rfl (fun h=>nomatch h) (fun _=>Fx.Ws (Fx.Ws (Fx.Wl (Fx.Lv ((pt tp)) (Fx.ah rfl rfl) (Fx.Lv ((pt tp)) (Fx.aO rfl rfl) (Fx.Lv ((pt tp)) (Fx.au rfl rfl Tryd.underlying116 rfl (s:=1) (by kernel_rfl) rfl rfl) (Fx.Lv (.map (some mb)) (Fx.ak (x:=fun _ => .map (some mb)) rfl rfl (by kernel_rfl) hT.aL (i:=0) (by omega) (by omega) rfl) (Fx.Lv (.int .i64 ((n:Int))) (Fx.I8 rfl rfl rfl hM Tryd.underlying87) ?_))))))))))))))))))
  by_cases c32:32<=(n:Int)
  ·refine Fx.Lv (.bool true) (Fx.gV rfl rfl rfl c32) (Fx.Lv (.bool true) (Fx.aj rfl rfl) (Fx.Ln (Fx.sN (Fx.Wc (b:=true) rfl (fun _=>Fx.Wk (Fx.sN (Fx.Wc (b:=true) rfl (fun _=>Fx.Ws (Fx.Wl (Fx.Lv (.int .i64 (6)) (Fx.aj rfl rfl) ?_))) (fun h=>nomatch h)))) (fun h=>nomatch h)))))
   refine Fx.Ln (Fx.sN (Fx.Wr (Fx.dH (Fx.sR (⟨.int .i64 (6),Fx.rV Tryd.results155 (by exact rfl),?_⟩)))))
   exact⟨_,_,_,_,rfl,.no (by unfold lJ; rw[if_neg c12,c16,if_neg (by decide),if_neg (fun h=>h.1 c19),if_pos (by omega)]) (by decide),hT,hM,(Fx.Stp.refl mb w)⟩
  refine Fx.Lv (.bool false) (Fx.eY rfl rfl rfl c32) (Fx.Lv (.bool false) (Fx.aj rfl rfl) (Fx.Ln (Fx.sN (Fx.Wc (b:=false) rfl (fun h=>nomatch h) (fun _=>Fx.Wl (Fx.Lv ((pt tp)) (Fx.ah rfl rfl) (Fx.Lv (.int .u64 (pa)) (Fx.ah rfl rfl) (Fx.L.call (by rfl) (Fx.rC (args := [(pt tp),.int .u64 (pa)]) rfl rfl Tryd.func31 rfl rfl) rfl ((DZ x p n tp mb 4 pa _ hT hM h.inj (h.stop _) (h.len _)).mono ?_)))))))))
  rintro e9 w1 ⟨Ak,pc1,he,m1,hb1⟩
  refine⟨_,he,?_⟩
  clear he
  have s1:=Fx.Sb hb1
  have m2:=hT.aC s1 hT.ne
  have m3:=hM.up s1.old
  have b1:=(Fx.Stp.refl mb w).then s1 (.inr (Fx.Stp.refl mb w).size)
  refine Fx.Lv (.int .i64 ((((fK x p n 4 pa).length:Nat):Int))) (Fx.x_len rfl rfl rfl (by kernel_rfl)) ?_
  by_cases c37:4<=(((fK x p n 4 pa).length:Nat):Int)
  ·refine Fx.Lv (.bool true) (Fx.gV rfl rfl rfl c37) (Fx.Lv (.bool true) (Fx.aj rfl rfl) (Fx.Ln (Fx.sN (Fx.Wc (b:=true) rfl (fun _=>Fx.Ws (Fx.Wl (Fx.Lv (.int .i64 (6)) (Fx.aj rfl rfl) ?_))) (fun h=>nomatch h)))))
   refine Fx.Ln (Fx.sN (Fx.Wr (Fx.dH (Fx.sR (⟨.int .i64 (6),Fx.rV Tryd.results155 (by exact rfl),?_⟩)))))
   exact⟨_,_,_,_,rfl,.no (by unfold lJ; rw[if_neg c12,c16,if_neg (by decide),if_neg (fun h=>h.1 c19),if_pos (by omega)]) (by decide),m2,m3,b1⟩
  refine Fx.Lv (.bool false) (Fx.eY rfl rfl rfl c37) (Fx.Lv (.bool false) (Fx.aj rfl rfl) (Fx.Ln (Fx.sN (Fx.Wc (b:=false) rfl (fun h=>nomatch h) (fun _=>Fx.Wk (Fx.dV (Fx.sN (Fx.Ws ?_))))))))
  have hnk : ∀ i,i<n->x i≠id:=fun i hi e=>by rw[fQ hi e]at c16; cases c16
  refine Fx.Wl (Fx.Lv ((pt tp)) (Fx.ah rfl rfl) (Fx.Lv ((pt tp)) (Fx.aO rfl rfl) (Fx.Lv ((pt tp)) (Fx.au rfl rfl Tryd.underlying116 rfl (s:=1) (by kernel_rfl) rfl rfl) (Fx.Lv (.map (some mb)) (Fx.ak (x:=fun _ => .map (some mb)) rfl rfl (by kernel_rfl) m2.aL (i:=0) (by omega) (by omega) rfl) (Fx.Lv (.int .u64 (id)) (Fx.ah rfl rfl) (Fx.Lv (.int .u64 (pa)) (Fx.ah rfl rfl) (Fx.L.GJ (by rfl) rfl rfl rfl rfl rfl m3 Tryd.underlying87 Tryd.underlying22 hnk fun w2 m4 s2 z1 => ?_)))))))
  have hcm1:=m3.uX s2
  have m5:=m2.bY hcm1
  have m6:=m1.bY hcm1
  have b2:=b1.then s2 (.inl rfl)
  have m7:Fx.Mp w2 mb (n+1) (Fx.aH x n id) (fun j => .int .u64 (Fx.aH p n pa j)):=m4.mM (fun i _=>⟨rfl,by unfold Fx.aH; split <;> rfl⟩)
  refine Fx.Ln (Fx.sN (Fx.Ws (Fx.Wl (Fx.Lv (.int .i64 (0)) (Fx.aj rfl rfl) (Fx.Ln (Fx.sN (Fx.Wr (⟨.int .i64 (0),Fx.rV Tryd.results155 (by exact rfl),?_⟩))))))))
  exact⟨_,_,_,_,rfl,.yes (by unfold lJ; rw[if_neg c12,c16,if_neg (by decide),if_neg (fun h=>h.1 c19),if_neg (by omega)]),m5,m7,b2⟩
 refine Fx.Lv (.bool true) (Fx.jd rfl rfl rfl c19) (Fx.Lv (.bool true) (Fx.ah rfl rfl) (Fx.Lv ((pt tp)) (Fx.ah rfl rfl) (Fx.Lv (.int .u64 (pa)) (Fx.ah rfl rfl) ?_)))
 by_cases c23:(cK x n pa)=true
 ·refine Fx.L.call (by rfl) (Fx.rC (args := [(pt tp),.int .u64 (pa)]) rfl rfl Tryd.func72 rfl rfl) rfl ((wZ x p n tp mb pa _ hT hM).mono ?_)
  rintro e v1 ⟨he,hv1⟩
  subst v1
  refine⟨.bool true,by rw[he,c23],?_⟩
  clear he
  refine Fx.Lv (.bool false) (Fx.dZ rfl rfl) (Fx.Lv (.bool false) (Fx.aA rfl rfl rfl) (Fx.Lv (.bool false) (Fx.aj rfl rfl) (Fx.Ln (Fx.sN (Fx.Wc (b:=false) rfl (fun h=>nomatch h) (fun _=>Fx.Ws (Fx.Ws (Fx.Wl (Fx.Lv ((pt tp)) (Fx.ah rfl rfl) (Fx.Lv ((pt tp)) (Fx.aO rfl rfl) (Fx.Lv ((pt tp)) (Fx.au rfl rfl Tryd.underlying116 rfl (s:=1) (by kernel_rfl) rfl rfl) (Fx.Lv (.map (some mb)) (Fx.ak (x:=fun _ => .map (some mb)) rfl rfl (by kernel_rfl) hT.aL (i:=0) (by omega) (by omega) rfl) (Fx.Lv (.int .i64 ((n:Int))) (Fx.I8 rfl rfl rfl hM Tryd.underlying87) ?_)))))))))))))
  by_cases c32:32<=(n:Int)
  ·refine Fx.Lv (.bool true) (Fx.gV rfl rfl rfl c32) (Fx.Lv (.bool true) (Fx.aj rfl rfl) (Fx.Ln (Fx.sN (Fx.Wc (b:=true) rfl (fun _=>Fx.Wk (Fx.sN (Fx.Wc (b:=true) rfl (fun _=>Fx.Ws (Fx.Wl (Fx.Lv (.int .i64 (6)) (Fx.aj rfl rfl) ?_))) (fun h=>nomatch h)))) (fun h=>nomatch h)))))
   refine Fx.Ln (Fx.sN (Fx.Wr (Fx.dH (Fx.sR (⟨.int .i64 (6),Fx.rV Tryd.results155 (by exact rfl),?_⟩)))))
   exact⟨_,_,_,_,rfl,.no (by unfold lJ; rw[if_neg c12,c16,if_neg (by decide),if_neg (fun h=>by rw[c23]at h; cases h.2),if_pos (by omega)]) (by decide),hT,hM,(Fx.Stp.refl mb w)⟩
  refine Fx.Lv (.bool false) (Fx.eY rfl rfl rfl c32) (Fx.Lv (.bool false) (Fx.aj rfl rfl) (Fx.Ln (Fx.sN (Fx.Wc (b:=false) rfl (fun h=>nomatch h) (fun _=>Fx.Wl (Fx.Lv ((pt tp)) (Fx.ah rfl rfl) (Fx.Lv (.int .u64 (pa)) (Fx.ah rfl rfl) (Fx.L.call (by rfl) (Fx.rC (args := [(pt tp),.int .u64 (pa)]) rfl rfl Tryd.func31 rfl rfl) rfl ((DZ x p n tp mb 4 pa _ hT hM h.inj (h.stop _) (h.len _)).mono ?_)))))))))
  rintro e9 w3 ⟨pa2,pc2,he,m8,hb2⟩
  refine⟨_,he,?_⟩
  clear he
  have s3:=Fx.Sb hb2
  have m9:=hT.aC s3 hT.ne
  have m10:=hM.up s3.old
  have b3:=(Fx.Stp.refl mb w).then s3 (.inr (Fx.Stp.refl mb w).size)
  refine Fx.Lv (.int .i64 ((((fK x p n 4 pa).length:Nat):Int))) (Fx.x_len rfl rfl rfl (by kernel_rfl)) ?_
  by_cases c37:4<=(((fK x p n 4 pa).length:Nat):Int)
  ·refine Fx.Lv (.bool true) (Fx.gV rfl rfl rfl c37) (Fx.Lv (.bool true) (Fx.aj rfl rfl) (Fx.Ln (Fx.sN (Fx.Wc (b:=true) rfl (fun _=>Fx.Ws (Fx.Wl (Fx.Lv (.int .i64 (6)) (Fx.aj rfl rfl) ?_))) (fun h=>nomatch h)))))
   refine Fx.Ln (Fx.sN (Fx.Wr (Fx.dH (Fx.sR (⟨.int .i64 (6),Fx.rV Tryd.results155 (by exact rfl),?_⟩)))))
   exact⟨_,_,_,_,rfl,.no (by unfold lJ; rw[if_neg c12,c16,if_neg (by decide),if_neg (fun h=>by rw[c23]at h; cases h.2),if_pos (by omega)]) (by decide),m9,m10,b3⟩
  refine Fx.Lv (.bool false) (Fx.eY rfl rfl rfl c37) (Fx.Lv (.bool false) (Fx.aj rfl rfl) (Fx.Ln (Fx.sN (Fx.Wc (b:=false) rfl (fun h=>nomatch h) (fun _=>Fx.Wk (Fx.dV (Fx.sN (Fx.Ws ?_))))))))
  have hnk : ∀ i,i<n->x i≠id:=fun i hi e=>by rw[fQ hi e]at c16; cases c16
  refine Fx.Wl (Fx.Lv ((pt tp)) (Fx.ah rfl rfl) (Fx.Lv ((pt tp)) (Fx.aO rfl rfl) (Fx.Lv ((pt tp)) (Fx.au rfl rfl Tryd.underlying116 rfl (s:=1) (by kernel_rfl) rfl rfl) (Fx.Lv (.map (some mb)) (Fx.ak (x:=fun _ => .map (some mb)) rfl rfl (by kernel_rfl) m9.aL (i:=0) (by omega) (by omega) rfl) (Fx.Lv (.int .u64 (id)) (Fx.ah rfl rfl) (Fx.Lv (.int .u64 (pa)) (Fx.ah rfl rfl) (Fx.L.GJ (by rfl) rfl rfl rfl rfl rfl m10 Tryd.underlying87 Tryd.underlying22 hnk fun w4 m11 s4 z2 => ?_)))))))
  have hcm2:=m10.uX s4
  have m12:=m9.bY hcm2
  have m13:=m8.bY hcm2
  have b4:=b3.then s4 (.inl rfl)
  have m14:Fx.Mp w4 mb (n+1) (Fx.aH x n id) (fun j => .int .u64 (Fx.aH p n pa j)):=m11.mM (fun i _=>⟨rfl,by unfold Fx.aH; split <;> rfl⟩)
  refine Fx.Ln (Fx.sN (Fx.Ws (Fx.Wl (Fx.Lv (.int .i64 (0)) (Fx.aj rfl rfl) (Fx.Ln (Fx.sN (Fx.Wr (⟨.int .i64 (0),Fx.rV Tryd.results155 (by exact rfl),?_⟩))))))))
  exact⟨_,_,_,_,rfl,.yes (by unfold lJ; rw[if_neg c12,c16,if_neg (by decide),if_neg (fun h=>by rw[c23]at h; cases h.2),if_neg (by omega)]),m12,m14,b4⟩
 rw[Bool.not_eq_true]at c23
 refine Fx.L.call (by rfl) (Fx.rC (args := [(pt tp),.int .u64 (pa)]) rfl rfl Tryd.func72 rfl rfl) rfl ((wZ x p n tp mb pa _ hT hM).mono ?_)
 rintro e v1 ⟨he,hv1⟩
 subst v1
 refine⟨.bool false,by rw[he,c23],?_⟩
 clear he
 refine Fx.Lv (.bool true) (Fx.eH rfl rfl) (Fx.Lv (.bool true) (Fx.aA rfl rfl rfl) (Fx.Lv (.bool true) (Fx.aj rfl rfl) (Fx.Ln (Fx.sN (Fx.Wc (b:=true) rfl (fun _=>Fx.Ws (Fx.Wl (Fx.Lv (.int .i64 (9)) (Fx.aj rfl rfl) ?_))) (fun h=>nomatch h))))))
 refine Fx.Ln (Fx.sN (Fx.Wr (Fx.dH (Fx.sR (⟨.int .i64 (9),Fx.rV Tryd.results155 (by exact rfl),?_⟩)))))
 exact⟨_,_,_,_,rfl,.no (by unfold lJ; rw[if_neg c12,c16,if_neg (by decide),if_pos ⟨c19,c23⟩]) (by decide),hT,hM,(Fx.Stp.refl mb w)⟩
theorem Ud(k:Int)(w:World) :
 Calls Tryd.prog 52 #[.int .u64 (k)] w fun e w'=>e = .returned (.bool true)/\w'=w:=by
 refine Fx.enter Tryd.func52 rfl (n:=3) rfl (by rfl) ?_
 refine Fx.Ws (Fx.Wl (Fx.Lv (.bool false) (Fx.aj rfl rfl) (Fx.Ln (Fx.sN (Fx.Ws (Fx.Wl (Fx.Lv (.bool true) (Fx.aj rfl rfl) (Fx.Ln (Fx.sN (Fx.Wr (⟨.bool true,Fx.rV Tryd.results52 (by exact rfl),?_⟩)))))))))))
 exact⟨rfl,rfl⟩
-- (*tree.Tree).Below$1 is not in this seat
end Go.Proofs.YtahbiajdgealnaaDoor
namespace Go.Proofs.YtahbiajdgealnaaDoor
open Go.RowKit
set_option linter.unusedVariables false
namespace Rt
open Go.Sort (ltInt swp)
def gA(d:Array Int):Nat->Int:=fun i=>d[i]!
section
variable {d d':Array Int} {n a b i j k p:Nat}
theorem Qa(hn:d.size=n)(hi:i<n)(hj:j<n)(k:Nat):gA (swp d i j) k=if k=i then gA d j else if k=j then gA d i else gA d k:=by
 unfold gA
 by_cases h1:k=i
 ·subst h1
  rw[if_pos rfl]
  by_cases h2:k=j
  ·subst h2; exact Sort.swp_right d k k (by omega)
  exact Sort.swp_left d k j (by omega) h2
 rw[if_neg h1]
 by_cases h2:k=j
 ·subst h2; rw[if_pos rfl]; exact Sort.swp_right d i k (by omega)
 rw[if_neg h2]; exact Sort.swp_other d i j k h1 h2
theorem dz(hn:d.size=n)(i j:Nat):(swp d i j).size=n:=by rw[Sort.size_swp]; exact hn
theorem eO(hn:d.size=n)(hi:i<n)(hj:j<n) : ∀ p,p<n*1->Fx.eB (Fx.eB (Fx.rv .u64 (gA d)) i (.int .u64 (gA d j))) j (.int .u64 (gA d i)) p=Fx.rv .u64 (gA (swp d i j)) p:=fun p hp=>by
 show _=Value.int .u64 (gA (swp d i j) p)
 rw[Qa hn hi hj]
 unfold Fx.eB
 by_cases h2:p=j
 ·subst h2
  rw[if_pos rfl]
  by_cases h1:p=i
  ·subst h1; rw[if_pos rfl]
  ·rw[if_neg h1,if_pos rfl]
 ·rw[if_neg h2]
  by_cases h1:p=i
  ·rw[if_pos h1,if_pos h1]
  ·rw[if_neg h1,if_neg h1,if_neg h2]; rfl
theorem mh(h:gA d i<gA d j):ltInt d[i]! d[j]! = true:=decide_eq_true h
theorem om(h : ¬ gA d i<gA d j):ltInt d[i]! d[j]! = false:=decide_eq_false h
theorem Qb(hj:a<j)(hl:gA d j<gA d (j-1)):Sort.insInner ltInt a (j-1) (swp d j (j-1))=Sort.insInner ltInt a j d:=by
 obtain⟨k,rfl⟩ : ∃ k,j=k+1:=⟨j-1,by omega⟩
 have hl:=mh hl
 rw[Nat.add_sub_cancel]at hl ⊢
 conv=>rhs; rw[Sort.insInner]
 rw[hl,decide_eq_true (show k+1>a by omega)]; rfl
theorem BN(h:j<=a \/ ¬ gA d j<gA d (j-1)):Sort.insInner ltInt a j d=d:=by
 cases j with
 | zero=>rw[Sort.insInner]
 | succ k =>
   rw[Sort.insInner]
   rcases h with h|h
   ·rw[decide_eq_false (show ¬ k+1>a by omega)]; rfl
   ·have h:=om h
    rw[Nat.add_sub_cancel]at h
    rw[h,Bool.and_false]; rfl
theorem Jj(h:i<b)(hi:Sort.insInner ltInt a i d=d'):Sort.insOuter ltInt a b (i+1) d'=Sort.insOuter ltInt a b i d:=by
 conv=>rhs; rw[Sort.insOuter,if_pos h]
 rw[hi]
theorem Jk(h : ¬ i<b):Sort.insOuter ltInt a b i d=d:=by rw[Sort.insOuter,if_neg h]
variable {f r hi x0 x1 x2:Nat}
theorem xu(h:hi<=2*r+1):Sort.siftDown ltInt hi f r d=d:=by rw[Sort.siftDown,dif_pos (by omega)]
theorem BO(e1:x1=f+(2*r+1))(e2:x2=f+(2*r+2))(e0:x0=f+r)(h:2*r+1<hi)(hA:hi<=2*r+2 \/ ¬ gA d x1<gA d x2) :
 Sort.siftDown ltInt hi f r d=if gA d x0<gA d x1 then Sort.siftDown ltInt hi f (2*r+1) (swp d x0 x1)else d:=by
 rw[Sort.siftDown,dif_neg (by omega)]
 have hc:(decide (2*r+1+1<hi)&&ltInt d[f+(2*r+1)]! d[f+(2*r+1)+1]!)=false:=by
  rcases hA with hA|hA
  ·rw[decide_eq_false (by omega),Bool.false_and]
  ·rw[<- e1,show x1+1=x2 by omega,om hA,Bool.and_false]
 rw[hc,<- e1,<- e0]
 by_cases h1:gA d x0<gA d x1
 ·rw[mh h1,if_pos h1]; rfl
 rw[om h1,if_neg h1]; rfl
theorem Jl(e1:x1=f+(2*r+1))(e2:x2=f+(2*r+2))(e0:x0=f+r)(h:2*r+2<hi)(hB:gA d x1<gA d x2) :
 Sort.siftDown ltInt hi f r d=if gA d x0<gA d x2 then Sort.siftDown ltInt hi f (2*r+2) (swp d x0 x2)else d:=by
 rw[Sort.siftDown,dif_neg (by omega)]
 have hc:(decide (2*r+1+1<hi)&&ltInt d[f+(2*r+1)]! d[f+(2*r+1)+1]!)=true:=by
  rw[decide_eq_true (by omega),<- e1,show x1+1=x2 by omega,mh hB]; rfl
 rw[hc,<- e2,<- e0]
 by_cases h1:gA d x0<gA d x2
 ·rw[mh h1,if_pos h1]; simp only[if_true,Bool.not_true,dif_pos h]; rfl
 rw[om h1,if_neg h1]; rfl
theorem Jm(hk:0<k):Sort.heapBuild ltInt hi f (k-1) (Sort.siftDown ltInt hi f (k-1) d)=Sort.heapBuild ltInt hi f k d:=by
 obtain⟨j,rfl⟩ : ∃ j,k=j+1:=⟨k-1,by omega⟩
 rfl
theorem Qc{x:Nat}(hk:0<k)(e:x=f+(k-1)):Sort.heapPop ltInt f (k-1) (Sort.siftDown ltInt (k-1) f 0 (swp d f x))=Sort.heapPop ltInt f k d:=by
 subst e
 obtain⟨j,rfl⟩ : ∃ j,k=j+1:=⟨k-1,by omega⟩
 rfl
theorem wh(h:f+hi<=n) : ∀(m r:Nat) (d:Array Int),hi-r<=m->d.size=n->(Sort.siftDown ltInt hi f r d).size=n
 | 0,r,d,hm,hd=>by rw[xu (by omega)]; exact hd
 | m+1,r,d,hm,hd=>by
   by_cases h0:2*r+1<hi
   ·by_cases hB:2*r+2<hi/\gA d (f+(2*r+1))<gA d (f+(2*r+2))
    ·rw[Jl rfl rfl rfl hB.1 hB.2]
     split
     ·exact wh h m _ _ (by omega) (dz hd _ _)
     ·exact hd
    ·rw[BO rfl rfl rfl h0 (by by_cases h2:2*r+2<hi; exact .inr fun h3=>hB ⟨h2,h3⟩; exact .inl (by omega))]
     split
     ·exact wh h m _ _ (by omega) (dz hd _ _)
     ·exact hd
   ·rw[xu (by omega)]; exact hd
theorem Qd(h:i<j):Sort.reverseLoop (i+1) (j-1) (swp d i j)=Sort.reverseLoop i j d:=by conv=>rhs; rw[Sort.reverseLoop,if_pos h]
theorem Jo(h : ¬ i<j):Sort.reverseLoop i j d=d:=by rw[Sort.reverseLoop,if_neg h]
theorem OG{p:Int->Bool}(h:i<=j)(hp:p d[i]! = true):Sort.scanUp p d j (i+1)=Sort.scanUp p d j i:=by
 conv=>rhs; rw[Sort.scanUp,hp,decide_eq_true h]
 rfl
theorem lK{p:Int->Bool}(h:j<i\/p d[i]! = false):Sort.scanUp p d j i=i:=by
 rw[Sort.scanUp]
 rcases h with h|h
 ·rw[decide_eq_false (by omega)]; rfl
 rw[h,Bool.and_false]; rfl
theorem OH{p:Int->Bool}(h:i<=j)(h0:0<j)(hp:p d[j]! = true):Sort.scanDown p d i (j-1)=Sort.scanDown p d i j:=by
 obtain⟨k,rfl⟩ : ∃ k,j=k+1:=⟨j-1,by omega⟩
 conv=>rhs; rw[Sort.scanDown,hp,decide_eq_true h]
 rfl
theorem wm{p:Int->Bool}(h:j<i\/p d[j]! = false):Sort.scanDown p d i j=j:=by
 cases j with
 | zero=>rfl
 | succ k =>
   rw[Sort.scanDown]
   rcases h with h|h
   ·rw[decide_eq_false (by omega)]; rfl
   ·rw[h,Bool.and_false]; rfl
theorem Jp(h:i<=j)(hl:gA d i<gA d a):Sort.partLoop ltInt a (i+1) j d=Sort.partLoop ltInt a i j d:=by
 rw[Sort.partLoop_eq,Sort.partLoop_eq (i:=i),OG (p:=fun x=>ltInt x d[a]!) h (mh hl)]
theorem zi(h:i<=j)(h0:0<j)(hs : ¬ gA d i<gA d a)(hl : ¬ gA d j<gA d a):Sort.partLoop ltInt a i (j-1) d=Sort.partLoop ltInt a i j d:=by
 rw[Sort.partLoop_eq,Sort.partLoop_eq (j:=j),lK (p:=fun x=>ltInt x d[a]!) (.inr (om hs)),lK (p:=fun x=>ltInt x d[a]!) (.inr (om hs)),OH (p:=fun x => !ltInt x d[a]!) h h0 (by rw[om hl]; rfl)]
theorem zk(h:i<=j)(hs : ¬ gA d i<gA d a)(hl:gA d j<gA d a):Sort.partLoop ltInt a (i+1) (j-1) (swp d i j)=Sort.partLoop ltInt a i j d:=by
 rw[Sort.partLoop_eq (i:=i),lK (p:=fun x=>ltInt x d[a]!) (.inr (om hs)),wm (p:=fun x => !ltInt x d[a]!) (.inr (by rw[mh hl]; rfl)),if_neg (by omega)]
theorem uq(h:j<i):Sort.partLoop ltInt a i j d=(j,d):=by
 rw[Sort.partLoop_eq,lK (p:=fun x=>ltInt x d[a]!) (.inl h),wm (p:=fun x => !ltInt x d[a]!) (.inl h),if_pos h]
theorem Ue(h:i<=j)(hl : ¬ gA d a<gA d i):Sort.partEqLoop ltInt a (i+1) j d=Sort.partEqLoop ltInt a i j d:=by
 rw[Sort.partEqLoop_eq,Sort.partEqLoop_eq (i:=i),OG (p:=fun x => !ltInt d[a]! x) h (by rw[om hl]; rfl)]
theorem OI(h:i<=j)(h0:0<j)(hs:gA d a<gA d i)(hl:gA d a<gA d j):Sort.partEqLoop ltInt a i (j-1) d=Sort.partEqLoop ltInt a i j d:=by
 rw[Sort.partEqLoop_eq,Sort.partEqLoop_eq (j:=j),lK (p:=fun x => !ltInt d[a]! x) (.inr (by rw[mh hs]; rfl)),lK (p:=fun x => !ltInt d[a]! x) (.inr (by rw[mh hs]; rfl)),OH (p:=fun x=>ltInt d[a]! x) h h0 (mh hl)]
theorem OJ(h:i<=j)(hs:gA d a<gA d i)(hl : ¬ gA d a<gA d j):Sort.partEqLoop ltInt a (i+1) (j-1) (swp d i j)=Sort.partEqLoop ltInt a i j d:=by
 rw[Sort.partEqLoop_eq (i:=i),lK (p:=fun x => !ltInt d[a]! x) (.inr (by rw[mh hs]; rfl)),wm (p:=fun x=>ltInt d[a]! x) (.inr (om hl)),if_neg (by omega)]
theorem Jq(h:j<i):Sort.partEqLoop ltInt a i j d=(i,d):=by
 rw[Sort.partEqLoop_eq,lK (p:=fun x => !ltInt d[a]! x) (.inl h),wm (p:=fun x=>ltInt d[a]! x) (.inl h),if_pos h]
theorem D7(a:Nat)(d:Array Int):Sort.SortedIn ltInt a (a+1) d:=fun i j h1 h2 h3=>by omega
end
end Rt
end Go.Proofs.YtahbiajdgealnaaDoor
namespace Go.Proofs.YtahbiajdgealnaaDoor
open Go.RowKit
open Rt
set_option maxRecDepth 10000
theorem Uf(n:Int)(w:World) :
 Calls Tryd.prog 56 #[.int .u64 (n)] w fun e w'=>e = .returned (.bool false)/\w'=w:=by
 refine Fx.enter Tryd.func56 rfl (n:=6) rfl (by rfl) ?_
 refine Fx.Ws (Fx.Wl (Fx.Lv (.bool false) (Fx.aj rfl rfl) (Fx.Ln (Fx.sN (Fx.Ws (Fx.Wl (Fx.Lv (.int .u64 (n)) (Fx.ah rfl rfl) (Fx.Lv (.int .u64 (n)) (Fx.ah rfl rfl) (Fx.Lv (.bool false) (Fx.gu rfl rfl rfl rfl) (Fx.Lv (.bool false) (Fx.aj rfl rfl) (Fx.Ln (Fx.sN (Fx.Wr (⟨.bool false,Fx.rV Tryd.results56 (by exact rfl),?_⟩))))))))))))))
 exact⟨rfl,rfl⟩
theorem bU(a b:Int)(w:World) :
 Calls Tryd.prog 116 #[.int .u64 (a),.int .u64 (b)] w fun e w'=>e = .returned (.bool (decide (a<b)))/\w'=w:=by
 refine Fx.enter Tryd.func116 rfl (n:=17) rfl (by rfl) ?_
 refine Fx.Ws (Fx.Wl (Fx.Lv (.bool false) (Fx.aj rfl rfl) (Fx.Ln (Fx.sN (Fx.Ws (Fx.Wl (Fx.Lv (.int .u64 (a)) (Fx.ah rfl rfl) (Fx.L.call (by rfl) (Fx.rC (args := [.int .u64 (a)]) rfl rfl Tryd.func56 rfl rfl) rfl ((Uf a _).mono ?_)))))))))
 rintro e v1 ⟨he,hv1⟩
 subst v1
 refine⟨.bool false,by rw[he],?_⟩
 clear he
 refine Fx.Lv (.bool false) (Fx.ah rfl rfl) (Fx.Lk (by rfl) rfl (Fx.Lk (by rfl) rfl (Fx.Lk (by rfl) rfl (Fx.Lv (.bool false) (Fx.aJ rfl rfl rfl) (Fx.Lv (.bool false) (Fx.ah rfl rfl) (Fx.Lv (.int .u64 (a)) (Fx.ah rfl rfl) (Fx.Lv (.int .u64 (b)) (Fx.ah rfl rfl) (Fx.Lv (.bool (decide (a<b))) (Fx.IL rfl rfl rfl) (Fx.Lv (.bool (decide (a<b))) (Fx.aJ rfl rfl rfl) (Fx.Lv (.bool (decide (a<b))) (Fx.aj rfl rfl) (Fx.Ln (Fx.sN (Fx.Wr (⟨.bool (decide (a<b)),Fx.rV Tryd.results116 (by exact rfl),?_⟩))))))))))))))
 exact⟨rfl,rfl⟩
theorem Ug(a b:Nat)(B g n cap:Nat)(d:Array Int)(w:World)(h:Fx.Own w B 22 1 (.slice (some ⟨g,0,none⟩) n cap) n (Fx.rv .u64 (gA d)))(hB:B<=w.heap.size)(hn:d.size=n)(hs:n<=1000)(ha:a<=b)(hb:b<=n) :
 Calls Tryd.prog 110 #[.slice (some ⟨g,0,none⟩) (n) (cap),.int .i64 ((a:Int)),.int .i64 ((b:Int))] w fun e w'=>e = .returned (.tuple #[])/\Fx.Own w' B 22 1 (.slice (some ⟨g,0,none⟩) n cap) n (Fx.rv .u64 (gA (Sort.insertionSort Sort.ltInt d a b)))/\Below B w w':=by
 refine Fx.enter Tryd.func110 rfl (n:=49) rfl (by rfl) ?_
 refine Fx.Ws (Fx.Wl (Fx.Lv (.int .i64 ((a:Int))) (Fx.ah rfl rfl) (Fx.Lv (.int .i64 ((a:Int)+1)) (Fx.aS rfl rfl rfl Fx.io) (Fx.Lv (.int .i64 ((a:Int)+1)) (Fx.aj rfl rfl) (Fx.Ln (Fx.sN (Fx.W.block (Fx.W.loop (fun f w_ => ∃ i:Nat,∃ dk:Array Int,(a<i/\i<=b+1)/\dk.size=n/\Sort.insOuter Sort.ltInt a b i dk=Sort.insOuter Sort.ltInt a b (a+1) d/\f 0 = .slice (some ⟨g,0,none⟩) (n) (cap)/\f 1 = .int .i64 ((a:Int))/\f 2 = .int .i64 ((b:Int))/\f 6 = .int .i64 ((i:Int))/\Fx.Own w_ B 22 1 (.slice (some ⟨g,0,none⟩) n cap) n (Fx.rv .u64 (gA dk))/\Below B w w_) (fun f _=>((b:Int)+1-intOf (f 6)).toNat) ⟨a+1,d,(by omega),hn,rfl,(by rfl),Fx.ic,Fx.ic,Fx.ic,h,(Below.refl B w)⟩ ?_))))))))
 rintro f1 w1 ⟨i,dk,hi,hk,hO,h1,h2,h3,h4,m1,b1⟩
 refine Fx.Ws (Fx.Ws (Fx.Wl (Fx.Lv (.int .i64 ((i:Int))) (Fx.ah rfl h4) (Fx.Lv (.int .i64 ((b:Int))) (Fx.ah rfl h3) ?_))))
 by_cases c12:(i:Int)<(b:Int)
 ·refine Fx.Lv (.bool true) (Fx.eG rfl rfl rfl c12) (Fx.Ln (Fx.sN (Fx.Wc (b:=true) rfl (fun _=>Fx.Wk (Fx.sN (Fx.Ws (Fx.W.block (Fx.Ws (Fx.Wl (Fx.Lv (.int .i64 ((i:Int))) (Fx.ah rfl h4) ?_))))))) (fun h=>nomatch h))))
  refine Fx.Lv (.int .i64 ((i:Int))) (Fx.aj rfl rfl) (Fx.Ln (Fx.sN (Fx.W.block (Fx.W.loop (fun f w_ => ∃ j:Nat,∃ dj:Array Int,(a<=j/\j<=i)/\dj.size=n/\Sort.insInner Sort.ltInt a j dj=Sort.insInner Sort.ltInt a i dk/\f 0 = .slice (some ⟨g,0,none⟩) (n) (cap)/\f 1 = .int .i64 ((a:Int))/\f 2 = .int .i64 ((b:Int))/\f 6 = .int .i64 ((i:Int))/\f 7 = .int .i64 ((j:Int))/\Fx.Own w_ B 22 1 (.slice (some ⟨g,0,none⟩) n cap) n (Fx.rv .u64 (gA dj))/\Below B w w_) (fun f _=>(intOf (f 7)).toNat) ⟨i,dk,(by omega),hk,rfl,h1,(h2.trans Fx.ic),(h3.trans Fx.ic),(h4.trans Fx.ic),Fx.ic,m1,b1⟩ ?_))))
  rintro f2 w2 ⟨j,dj,hji,hj,hI,h5,h6,h7,h8,h9,m2,b2⟩
  refine Fx.Ws (Fx.Ws ?_)
  -- region 4 draws
  refine Fx.W.quiet (fun v1=>Below w2.heap.size w2 v1) (by kernel_rfl) (by kernel_rfl) (Below.refl _ _).drew ?_
  refine Fx.Qv (.int .i64 ((j:Int))) (fun v1 hv1=>Fx.ah rfl h9) (Fx.Qv (.int .i64 ((a:Int))) (fun v1 hv1=>Fx.ah rfl h6) ?_)
  by_cases c18:(a:Int)<(j:Int)
  ·refine Fx.Qv (.bool true) (fun v1 hv1=>Fx.iy rfl rfl rfl c18) (Fx.Qv (.bool true) (fun v1 hv1=>Fx.ah rfl rfl) (Fx.Qv (.slice (some ⟨g,0,none⟩) (n) (cap)) (fun v1 hv1=>Fx.ah rfl h5) (Fx.Qv (.int .i64 ((j:Int))) (fun v1 hv1=>Fx.ah rfl h9) (Fx.Qv ((pf g j)) (fun v1 hv1=>Fx.av rfl rfl rfl Tryd.underlying53 (s:=1) (by kernel_rfl) (by omega) (by omega) (by omega)) (Fx.Qv (.int .u64 ((gA dj) j)) (fun v1 hv1=>Fx.ak (x:=Fx.rv .u64 (gA dj)) rfl rfl (by kernel_rfl) (m2.aL.below hv1 (by have:=m2.lt; omega)) (i:=j) (by omega) (by omega) rfl) (Fx.Qv (.slice (some ⟨g,0,none⟩) (n) (cap)) (fun v1 hv1=>Fx.ah rfl h5) (Fx.Qv (.int .i64 ((j:Int))) (fun v1 hv1=>Fx.ah rfl h9) (Fx.Qv (.int .i64 ((j:Int)-1)) (fun v1 hv1=>Fx.bD rfl rfl rfl Fx.io) (Fx.Qv ((pf g (j-1))) (fun v1 hv1=>Fx.av rfl rfl rfl Tryd.underlying53 (s:=1) (by kernel_rfl) (by omega) (by omega) (by omega)) (Fx.Qv (.int .u64 ((gA dj) (j-1))) (fun v1 hv1=>Fx.ak (x:=Fx.rv .u64 (gA dj)) rfl rfl (by kernel_rfl) (m2.aL.below hv1 (by have:=m2.lt; omega)) (i:=j-1) (by omega) (by omega) rfl) ?_))))))))))
   by_cases yH:(decide ((gA dj) j<(gA dj) (j-1)))=true
   ·refine Fx.Qt.call (v := .bool true) (by rfl) (fun v1 hv1=>Fx.rC (args := [.int .u64 ((gA dj) j),.int .u64 ((gA dj) (j-1))]) rfl rfl Tryd.func116 rfl rfl) rfl (fun v1 hv1=>(bU ((gA dj) j) ((gA dj) (j-1)) _).mono fun e v2 h=>⟨by rw[h.1,yH],by rw[h.2]; exact hv1⟩) ?_
    refine Fx.Qv (.bool true) (fun v1 hv1=>Fx.aA rfl rfl rfl) (Fx.Qt.nil ?_)
    intro sG iN
    have s1:Fx.Stp w2.heap.size w2 sG:=Fx.Sb iN
    have m3:=m2.bO s1 (Nat.ne_of_lt (m2.lt))
    have b3:=s1.below b2 (Nat.le_trans hB b2.size) (Nat.le_trans hB b2.size)
    refine Fx.sN (Fx.Wc (b:=true) rfl (fun _=>Fx.Wk (Fx.sN (Fx.Ws (Fx.W.block ?_)))) (fun h=>nomatch h))
    -- region 6 draws
    refine Fx.W.bH [0,1,2,3,4,5,6,7,8,10,11,12,9,13,14,15,16,17] [0,0,0,0,0,0,0,0,0,4,0,0,0,4,0,3,0,3] Fx.Mk Fx.Mk.refl Fx.Mk.trans (aQ := [(15,9,[9]),(17,9,[9]),(15,13,[13]),(17,13,[13]),(16,15,[15]),(17,15,[15])]) (by kernel_rfl) (by kernel_rfl) (by kernel_rfl) (by kernel_rfl) (by kernel_rfl) fun jc bT fE => ?_
    have s2:Fx.Stp sG.heap.size sG jc:=Fx.Sb bT
    have m4:=m3.bO s2 (Nat.ne_of_lt (m3.lt))
    have b4:=s2.below b3 (Nat.le_trans hB b3.size) (Nat.le_trans hB b3.size)
    refine Fx.Rp (.slice (some ⟨g,0,none⟩) (n) (cap)) (fun v1=>Fx.ah rfl h5) (Fx.Rp (.int .i64 ((j:Int))) (fun v1=>Fx.ah rfl h9) (Fx.Rp (.slice (some ⟨g,0,none⟩) (n) (cap)) (fun v1=>Fx.ah rfl h5) (Fx.Rp (.int .i64 ((j:Int))) (fun v1=>Fx.ah rfl h9) (Fx.Rp (.int .i64 ((j:Int)-1)) (fun v1=>Fx.bD rfl rfl rfl Fx.io) (Fx.Rp (.slice (some ⟨g,0,none⟩) (n) (cap)) (fun v1=>Fx.ah rfl h5) (Fx.Rp (.int .i64 ((j:Int))) (fun v1=>Fx.ah rfl h9) (Fx.Rp (.int .i64 ((j:Int)-1)) (fun v1=>Fx.bD rfl rfl rfl Fx.io) (Fx.Rp ((pf g (j-1))) (fun v1=>Fx.av rfl rfl rfl Tryd.underlying53 (s:=1) (by kernel_rfl) (by omega) (by omega) (by omega)) (Fx.Rp (.slice (some ⟨g,0,none⟩) (n) (cap)) (fun v1=>Fx.ah rfl h5) (Fx.Rp (.int .i64 ((j:Int))) (fun v1=>Fx.ah rfl h9) (Fx.Rp ((pf g j)) (fun v1=>Fx.av rfl rfl rfl Tryd.underlying53 (s:=1) (by kernel_rfl) (by omega) (by omega) (by omega)) (Fx.R.s (.int .u64 ((gA dj) (j-1))) (Fx.ak (x:=Fx.rv .u64 (gA dj)) rfl rfl (by kernel_rfl) m4.aL (i:=j-1) (by omega) (by omega) rfl) ?_))))))))))))
    refine Fx.R.s (.int .u64 ((gA dj) j)) (Fx.ak (x:=Fx.rv .u64 (gA dj)) rfl rfl (by kernel_rfl) m4.aL (i:=j) (by omega) (by omega) rfl) ?_
    refine Fx.Rp ((pf g j)) (fun v1=>Fx.av rfl rfl rfl Tryd.underlying53 (s:=1) (by kernel_rfl) (by omega) (by omega) (by omega)) (Fx.R.fP (by rfl) ?_)
    refine Fx.L.eU (x:=Fx.rv .u64 (gA dj)) (u := .int .u64 ((gA dj) (j-1))) (by rfl) rfl rfl rfl rfl (by rfl) (by kernel_rfl) m4 (i:=j) (by omega) fun w3 m5 s3 z1 => ?_
    have b5:=s3.below b4 (Nat.le_trans hB b4.size) m4.blk.1
    refine Fx.Ln (Fx.Rp ((pf g (j-1))) (fun v1=>Fx.av rfl rfl rfl Tryd.underlying53 (s:=1) (by kernel_rfl) (by omega) (by omega) (by omega)) (Fx.R.fP (by rfl) ?_))
    refine Fx.L.eU (x:=Fx.eB (Fx.rv .u64 (gA dj)) j (.int .u64 ((gA dj) (j-1)))) (u := .int .u64 ((gA dj) j)) (by rfl) rfl rfl rfl rfl (by rfl) (by kernel_rfl) m5 (i:=j-1) (by omega) fun w4 m6 s4 z2 => ?_
    have b6:=s4.below b5 (Nat.le_trans hB b5.size) m5.blk.1
    have m7:Fx.Own w4 B 22 1 (.slice (some ⟨g,0,none⟩) n cap) n (Fx.rv .u64 (gA (Sort.swp dj j (j-1)))):=m6.congr (eO hj (by omega) (by omega))
    refine Fx.Ln (Fx.R.nil (Fx.dV (Fx.sN (Fx.Wl (Fx.Lv (.int .i64 ((j:Int))) (Fx.ah rfl h9) (Fx.Lv (.int .i64 ((j:Int)-1)) (Fx.bD rfl rfl rfl Fx.io) (Fx.Lv (.int .i64 ((j:Int)-1)) (Fx.aj rfl rfl) (Fx.Ln (Fx.kg ⟨j-1,Sort.swp dj j (j-1),(by omega),(dz hj _ _),((Qb (by omega) (of_decide_eq_true yH)).trans hI),h5,(h6.trans Fx.ic),(h7.trans Fx.ic),(h8.trans Fx.ic),Fx.ic,m7,b6⟩ ?_)))))))))
    show(intOf ((.int .i64 ((j:Int)-1)))).toNat<_
    simp only[h9,intOf]; omega
   rw[Bool.not_eq_true]at yH
   refine Fx.Qt.call (v := .bool false) (by rfl) (fun v1 hv1=>Fx.rC (args := [.int .u64 ((gA dj) j),.int .u64 ((gA dj) (j-1))]) rfl rfl Tryd.func116 rfl rfl) rfl (fun v1 hv1=>(bU ((gA dj) j) ((gA dj) (j-1)) _).mono fun e v2 h=>⟨by rw[h.1,yH],by rw[h.2]; exact hv1⟩) ?_
   refine Fx.Qv (.bool false) (fun v1 hv1=>Fx.aA rfl rfl rfl) (Fx.Qt.nil ?_)
   intro yI ji
   have s5:Fx.Stp w2.heap.size w2 yI:=Fx.Sb ji
   have m8:=m2.bO s5 (Nat.ne_of_lt (m2.lt))
   have b7:=s5.below b2 (Nat.le_trans hB b2.size) (Nat.le_trans hB b2.size)
   refine Fx.sN (Fx.Wc (b:=false) rfl (fun h=>nomatch h) (fun _=>Fx.W.exit (Fx.dQ (Fx.jC (Fx.dR (Fx.dV (Fx.sN (Fx.Wl (Fx.Lv (.int .i64 ((i:Int))) (Fx.ah rfl h8) (Fx.Lv (.int .i64 ((i:Int)+1)) (Fx.aS rfl rfl rfl Fx.io) (Fx.Lv (.int .i64 ((i:Int)+1)) (Fx.aj rfl rfl) (Fx.Ln (Fx.kg ⟨i+1,dj,(by omega),hj,((Jj (by omega) (hI.symm.trans (BN (.inr (of_decide_eq_false yH))))).trans hO),h5,(h6.trans Fx.ic),(h7.trans Fx.ic),Fx.ic,m8,b7⟩ ?_)))))))))))))
   show((b:Int)+1-intOf ((.int .i64 ((i:Int)+1)))).toNat<_
   simp only[h4,intOf]; omega
  refine Fx.Qv (.bool false) (fun v1 hv1=>Fx.dw rfl rfl rfl c18) (Fx.Qv (.bool false) (fun v1 hv1=>Fx.ah rfl rfl) (Fx.Qs (by rfl) rfl (Fx.Qs (by rfl) rfl (Fx.Qs (by rfl) rfl (Fx.Qs (by rfl) rfl (Fx.Qs (by rfl) rfl (Fx.Qs (by rfl) rfl (Fx.Qs (by rfl) rfl (Fx.Qs (by rfl) rfl (Fx.Qs (by rfl) rfl (Fx.Qs (by rfl) rfl (Fx.Qv (.bool false) (fun v1 hv1=>Fx.aJ rfl rfl rfl) (Fx.Qt.nil ?_)))))))))))))
  intro yJ jV
  have s6:Fx.Stp w2.heap.size w2 yJ:=Fx.Sb jV
  have m9:=m2.bO s6 (Nat.ne_of_lt (m2.lt))
  have b8:=s6.below b2 (Nat.le_trans hB b2.size) (Nat.le_trans hB b2.size)
  refine Fx.sN (Fx.Wc (b:=false) rfl (fun h=>nomatch h) (fun _=>Fx.W.exit (Fx.dQ (Fx.jC (Fx.dR (Fx.dV (Fx.sN (Fx.Wl (Fx.Lv (.int .i64 ((i:Int))) (Fx.ah rfl h8) (Fx.Lv (.int .i64 ((i:Int)+1)) (Fx.aS rfl rfl rfl Fx.io) (Fx.Lv (.int .i64 ((i:Int)+1)) (Fx.aj rfl rfl) (Fx.Ln (Fx.kg ⟨i+1,dj,(by omega),hj,((Jj (by omega) (hI.symm.trans (BN (.inl (by omega))))).trans hO),h5,(h6.trans Fx.ic),(h7.trans Fx.ic),Fx.ic,m9,b8⟩ ?_)))))))))))))
  show((b:Int)+1-intOf ((.int .i64 ((i:Int)+1)))).toNat<_
  simp only[h4,intOf]; omega
 refine Fx.Lv (.bool false) (Fx.dX rfl rfl rfl c12) (Fx.Ln (Fx.sN (Fx.Wc (b:=false) rfl (fun h=>nomatch h) (fun _=>Fx.W.exit (Fx.dQ (Fx.jC (Fx.dR (⟨.tuple #[],Fx.jS Tryd.results110,?_⟩))))))))
 rw[Jk (by omega)]at hO; subst hO; exact⟨rfl,m1,b1⟩
end Go.Proofs.YtahbiajdgealnaaDoor
namespace Go.Proofs.YtahbiajdgealnaaDoor
open Go.RowKit
open Rt
set_option maxRecDepth 10000
theorem Qe(lo hi fi:Nat)(B g n cap:Nat)(d:Array Int)(w:World)(h:Fx.Own w B 22 1 (.slice (some ⟨g,0,none⟩) n cap) n (Fx.rv .u64 (gA d)))(hB:B<=w.heap.size)(hn:d.size=n)(hs:n<=1000)(hf:fi+hi<=n/\lo<=1000) :
 Calls Tryd.prog 123 #[.slice (some ⟨g,0,none⟩) (n) (cap),.int .i64 ((lo:Int)),.int .i64 ((hi:Int)),.int .i64 ((fi:Int))] w fun e w'=>e = .returned (.tuple #[])/\Fx.Own w' B 22 1 (.slice (some ⟨g,0,none⟩) n cap) n (Fx.rv .u64 (gA (Sort.siftDown Sort.ltInt hi fi lo d)))/\Below B w w':=by
 obtain⟨hf,hlo⟩:=hf
 refine Fx.enter Tryd.func123 rfl (n:=76) rfl (by rfl) ?_
 refine Fx.Ws (Fx.Wl (Fx.Lv (.int .i64 ((lo:Int))) (Fx.ah rfl rfl) (Fx.Lv (.int .i64 ((lo:Int))) (Fx.aj rfl rfl) (Fx.Ln (Fx.sN (Fx.W.block (Fx.W.loop (fun f w_ => ∃ r:Nat,∃ dk:Array Int,dk.size=n/\Sort.siftDown Sort.ltInt hi fi r dk=Sort.siftDown Sort.ltInt hi fi lo d/\r<=hi+lo/\f 0 = .slice (some ⟨g,0,none⟩) (n) (cap)/\f 1 = .int .i64 ((lo:Int))/\f 2 = .int .i64 ((hi:Int))/\f 3 = .int .i64 ((fi:Int))/\f 8 = .int .i64 ((r:Int))/\Fx.Own w_ B 22 1 (.slice (some ⟨g,0,none⟩) n cap) n (Fx.rv .u64 (gA dk))/\Below B w w_) (fun f _=>((hi:Int)+lo-intOf (f 8)).toNat) ⟨lo,d,hn,rfl,(by omega),(by rfl),Fx.ic,Fx.ic,Fx.ic,Fx.ic,h,(Below.refl B w)⟩ ?_)))))))
 rintro f1 w1 ⟨r,dk,hk,hO,hr,h1,h2,h3,h4,h5,m1,b1⟩
 refine Fx.W.block (Fx.Ws (Fx.Wl (Fx.Lv (.int .i64 ((r:Int))) (Fx.ah rfl h5) (Fx.Lv (.int .i64 (2*(r:Int))) (Fx.yT rfl rfl rfl Fx.io) (Fx.Lv (.int .i64 (2*(r:Int)+1)) (Fx.aS rfl rfl rfl Fx.io) (Fx.Lv (.int .i64 (2*(r:Int)+1)) (Fx.aj rfl rfl) (Fx.Ln (Fx.sN (Fx.Ws (Fx.Ws (Fx.Wl (Fx.Lv (.int .i64 (2*(r:Int)+1)) (Fx.ah rfl rfl) (Fx.Lv (.int .i64 ((hi:Int))) (Fx.ah rfl h3) ?_)))))))))))))
 by_cases c16:(hi:Int)<=(2*(r:Int)+1)
 ·refine Fx.Lv (.bool true) (Fx.gV rfl rfl rfl c16) (Fx.Ln (Fx.sN (Fx.Wc (b:=true) rfl (fun _=>Fx.W.exit (Fx.dQ (Fx.DR rfl (Fx.jC (Fx.dR (⟨.tuple #[],Fx.jS Tryd.results123,?_⟩)))))) (fun h=>nomatch h))))
  rw[xu (by omega)]at hO; subst hO; exact⟨rfl,m1,b1⟩
 refine Fx.Lv (.bool false) (Fx.eY rfl rfl rfl c16) (Fx.Ln (Fx.sN (Fx.Wc (b:=false) rfl (fun h=>nomatch h) (fun _=>Fx.Wk (Fx.sN (Fx.Ws (Fx.Ws ?_)))))))
 -- region 3 draws
 refine Fx.W.quiet (fun v1=>Below w1.heap.size w1 v1) (by kernel_rfl) (by kernel_rfl) (Below.refl _ _).drew ?_
 refine Fx.Qv (.int .i64 (2*(r:Int)+1)) (fun v1 hv1=>Fx.ah rfl rfl) (Fx.Qv (.int .i64 (2*(r:Int)+2)) (fun v1 hv1=>Fx.aS rfl rfl rfl Fx.io) (Fx.Qv (.int .i64 ((hi:Int))) (fun v1 hv1=>Fx.ah rfl h3) ?_))
 by_cases c20:(2*(r:Int)+2)<(hi:Int)
 ·refine Fx.Qv (.bool true) (fun v1 hv1=>Fx.eG rfl rfl rfl c20) (Fx.Qv (.bool true) (fun v1 hv1=>Fx.ah rfl rfl) (Fx.Qv (.slice (some ⟨g,0,none⟩) (n) (cap)) (fun v1 hv1=>Fx.ah rfl h1) (Fx.Qv (.int .i64 ((fi:Int))) (fun v1 hv1=>Fx.ah rfl h4) (Fx.Qv (.int .i64 (2*(r:Int)+1)) (fun v1 hv1=>Fx.ah rfl rfl) (Fx.Qv (.int .i64 ((fi:Int)+2*(r:Int)+1)) (fun v1 hv1=>Fx.aS rfl rfl rfl Fx.io) (Fx.Qv ((pf g (fi+2*r+1))) (fun v1 hv1=>Fx.av rfl rfl rfl Tryd.underlying53 (s:=1) (by kernel_rfl) (by omega) (by omega) (by omega)) (Fx.Qv (.int .u64 ((gA dk) (fi+2*r+1))) (fun v1 hv1=>Fx.ak (x:=Fx.rv .u64 (gA dk)) rfl rfl (by kernel_rfl) (m1.aL.below hv1 (by have:=m1.lt; omega)) (i:=fi+2*r+1) (by omega) (by omega) rfl) (Fx.Qv (.slice (some ⟨g,0,none⟩) (n) (cap)) (fun v1 hv1=>Fx.ah rfl h1) (Fx.Qv (.int .i64 ((fi:Int))) (fun v1 hv1=>Fx.ah rfl h4) (Fx.Qv (.int .i64 (2*(r:Int)+1)) (fun v1 hv1=>Fx.ah rfl rfl) (Fx.Qv (.int .i64 ((fi:Int)+2*(r:Int)+1)) (fun v1 hv1=>Fx.aS rfl rfl rfl Fx.io) (Fx.Qv (.int .i64 ((fi:Int)+2*(r:Int)+2)) (fun v1 hv1=>Fx.aS rfl rfl rfl Fx.io) (Fx.Qv ((pf g (fi+2*r+2))) (fun v1 hv1=>Fx.av rfl rfl rfl Tryd.underlying53 (s:=1) (by kernel_rfl) (by omega) (by omega) (by omega)) (Fx.Qv (.int .u64 ((gA dk) (fi+2*r+2))) (fun v1 hv1=>Fx.ak (x:=Fx.rv .u64 (gA dk)) rfl rfl (by kernel_rfl) (m1.aL.below hv1 (by have:=m1.lt; omega)) (i:=fi+2*r+2) (by omega) (by omega) rfl) ?_))))))))))))))
  by_cases Io:(decide ((gA dk) (fi+2*r+1)<(gA dk) (fi+2*r+2)))=true
  ·refine Fx.Qt.call (v := .bool true) (by rfl) (fun v1 hv1=>Fx.rC (args := [.int .u64 ((gA dk) (fi+2*r+1)),.int .u64 ((gA dk) (fi+2*r+2))]) rfl rfl Tryd.func116 rfl rfl) rfl (fun v1 hv1=>(bU ((gA dk) (fi+2*r+1)) ((gA dk) (fi+2*r+2)) _).mono fun e v2 h=>⟨by rw[h.1,Io],by rw[h.2]; exact hv1⟩) ?_
   refine Fx.Qv (.bool true) (fun v1 hv1=>Fx.aA rfl rfl rfl) (Fx.Qt.nil ?_)
   intro sG iN
   have s1:Fx.Stp w1.heap.size w1 sG:=Fx.Sb iN
   have m2:=m1.bO s1 (Nat.ne_of_lt (m1.lt))
   have b2:=s1.below b1 (Nat.le_trans hB b1.size) (Nat.le_trans hB b1.size)
   refine Fx.sN (Fx.Wc (b:=true) rfl (fun _=>Fx.Wl (Fx.Lv (.int .i64 (2*(r:Int)+1)) (Fx.ah rfl rfl) ?_)) (fun h=>nomatch h))
   refine Fx.Lv (.int .i64 (2*(r:Int)+2)) (Fx.aS rfl rfl rfl Fx.io) (Fx.Lv (.int .i64 (2*(r:Int)+2)) (Fx.aj rfl rfl) (Fx.Ln (Fx.sN (Fx.Ws (Fx.Ws ?_)))))
   -- region 5 draws
   refine Fx.W.quiet (fun v1=>Below sG.heap.size sG v1) (by kernel_rfl) (by kernel_rfl) (Below.refl _ _).drew ?_
   refine Fx.Qv (.slice (some ⟨g,0,none⟩) (n) (cap)) (fun v1 hv1=>Fx.ah rfl h1) (Fx.Qv (.int .i64 ((fi:Int))) (fun v1 hv1=>Fx.ah rfl h4) (Fx.Qv (.int .i64 ((r:Int))) (fun v1 hv1=>Fx.ah rfl h5) (Fx.Qv (.int .i64 ((fi:Int)+(r:Int))) (fun v1 hv1=>Fx.aS rfl rfl rfl Fx.io) (Fx.Qv ((pf g (fi+r))) (fun v1 hv1=>Fx.av rfl rfl rfl Tryd.underlying53 (s:=1) (by kernel_rfl) (by omega) (by omega) (by omega)) (Fx.Qv (.int .u64 ((gA dk) (fi+r))) (fun v1 hv1=>Fx.ak (x:=Fx.rv .u64 (gA dk)) rfl rfl (by kernel_rfl) (m2.aL.below hv1 (by have:=m2.lt; omega)) (i:=fi+r) (by omega) (by omega) rfl) (Fx.Qv (.slice (some ⟨g,0,none⟩) (n) (cap)) (fun v1 hv1=>Fx.ah rfl h1) (Fx.Qv (.int .i64 ((fi:Int))) (fun v1 hv1=>Fx.ah rfl h4) (Fx.Qv (.int .i64 (2*(r:Int)+2)) (fun v1 hv1=>Fx.ah rfl rfl) (Fx.Qv (.int .i64 ((fi:Int)+2*(r:Int)+2)) (fun v1 hv1=>Fx.aS rfl rfl rfl Fx.io) (Fx.Qv ((pf g (fi+2*r+2))) (fun v1 hv1=>Fx.av rfl rfl rfl Tryd.underlying53 (s:=1) (by kernel_rfl) (by omega) (by omega) (by omega)) (Fx.Qv (.int .u64 ((gA dk) (fi+2*r+2))) (fun v1 hv1=>Fx.ak (x:=Fx.rv .u64 (gA dk)) rfl rfl (by kernel_rfl) (m2.aL.below hv1 (by have:=m2.lt; omega)) (i:=fi+2*r+2) (by omega) (by omega) rfl) ?_)))))))))))
   by_cases c51:(decide ((gA dk) (fi+r)<(gA dk) (fi+2*r+2)))=true
   ·refine Fx.Qt.call (v := .bool true) (by rfl) (fun v1 hv1=>Fx.rC (args := [.int .u64 ((gA dk) (fi+r)),.int .u64 ((gA dk) (fi+2*r+2))]) rfl rfl Tryd.func116 rfl rfl) rfl (fun v1 hv1=>(bU ((gA dk) (fi+r)) ((gA dk) (fi+2*r+2)) _).mono fun e v2 h=>⟨by rw[h.1,c51],by rw[h.2]; exact hv1⟩) ?_
    refine Fx.Qv (.bool false) (fun v1 hv1=>Fx.dZ rfl rfl) (Fx.Qt.nil ?_)
    intro yI ji
    have s2:Fx.Stp sG.heap.size sG yI:=Fx.Sb ji
    have m3:=m2.bO s2 (Nat.ne_of_lt (m2.lt))
    have b3:=s2.below b2 (Nat.le_trans hB b2.size) (Nat.le_trans hB b2.size)
    refine Fx.sN (Fx.Wc (b:=false) rfl (fun h=>nomatch h) (fun _=>Fx.Wk (Fx.sN (Fx.Ws ?_))))
    -- region 6 draws
    refine Fx.W.bH [0,1,2,3,4,5,6,7,8,9,10,11,12,14,15,16,17,18,13,19,20,21,22,23] [0,0,0,0,0,0,0,0,0,0,0,0,0,4,0,0,0,0,0,4,0,3,0,3] Fx.Mk Fx.Mk.refl Fx.Mk.trans (aQ := [(21,13,[13]),(23,13,[13]),(21,19,[19]),(23,19,[19]),(22,21,[21]),(23,21,[21])]) (by kernel_rfl) (by kernel_rfl) (by kernel_rfl) (by kernel_rfl) (by kernel_rfl) fun jc bT fE => ?_
    have s3:Fx.Stp yI.heap.size yI jc:=Fx.Sb bT
    have m4:=m3.bO s3 (Nat.ne_of_lt (m3.lt))
    have b4:=s3.below b3 (Nat.le_trans hB b3.size) (Nat.le_trans hB b3.size)
    refine Fx.Rp (.slice (some ⟨g,0,none⟩) (n) (cap)) (fun v1=>Fx.ah rfl h1) (Fx.Rp (.int .i64 ((fi:Int))) (fun v1=>Fx.ah rfl h4) (Fx.Rp (.int .i64 ((r:Int))) (fun v1=>Fx.ah rfl h5) (Fx.Rp (.int .i64 ((fi:Int)+(r:Int))) (fun v1=>Fx.aS rfl rfl rfl Fx.io) (Fx.Rp (.slice (some ⟨g,0,none⟩) (n) (cap)) (fun v1=>Fx.ah rfl h1) (Fx.Rp (.int .i64 ((fi:Int))) (fun v1=>Fx.ah rfl h4) (Fx.Rp (.int .i64 (2*(r:Int)+2)) (fun v1=>Fx.ah rfl rfl) (Fx.Rp (.int .i64 ((fi:Int)+2*(r:Int)+2)) (fun v1=>Fx.aS rfl rfl rfl Fx.io) (Fx.Rp (.slice (some ⟨g,0,none⟩) (n) (cap)) (fun v1=>Fx.ah rfl h1) (Fx.Rp (.int .i64 ((fi:Int))) (fun v1=>Fx.ah rfl h4) (Fx.Rp (.int .i64 (2*(r:Int)+2)) (fun v1=>Fx.ah rfl rfl) (Fx.Rp (.int .i64 ((fi:Int)+2*(r:Int)+2)) (fun v1=>Fx.aS rfl rfl rfl Fx.io) (Fx.Rp ((pf g (fi+2*r+2))) (fun v1=>Fx.av rfl rfl rfl Tryd.underlying53 (s:=1) (by kernel_rfl) (by omega) (by omega) (by omega)) (Fx.Rp (.slice (some ⟨g,0,none⟩) (n) (cap)) (fun v1=>Fx.ah rfl h1) (Fx.Rp (.int .i64 ((fi:Int))) (fun v1=>Fx.ah rfl h4) (Fx.Rp (.int .i64 ((r:Int))) (fun v1=>Fx.ah rfl h5) (Fx.Rp (.int .i64 ((fi:Int)+(r:Int))) (fun v1=>Fx.aS rfl rfl rfl Fx.io) (Fx.Rp ((pf g (fi+r))) (fun v1=>Fx.av rfl rfl rfl Tryd.underlying53 (s:=1) (by kernel_rfl) (by omega) (by omega) (by omega)) (Fx.R.s (.int .u64 ((gA dk) (fi+2*r+2))) (Fx.ak (x:=Fx.rv .u64 (gA dk)) rfl rfl (by kernel_rfl) m4.aL (i:=fi+2*r+2) (by omega) (by omega) rfl) ?_))))))))))))))))))
    refine Fx.R.s (.int .u64 ((gA dk) (fi+r))) (Fx.ak (x:=Fx.rv .u64 (gA dk)) rfl rfl (by kernel_rfl) m4.aL (i:=fi+r) (by omega) (by omega) rfl) ?_
    refine Fx.Rp ((pf g (fi+r))) (fun v1=>Fx.av rfl rfl rfl Tryd.underlying53 (s:=1) (by kernel_rfl) (by omega) (by omega) (by omega)) (Fx.R.fP (by rfl) ?_)
    refine Fx.L.eU (x:=Fx.rv .u64 (gA dk)) (u := .int .u64 ((gA dk) (fi+2*r+2))) (by rfl) rfl rfl rfl rfl (by rfl) (by kernel_rfl) m4 (i:=fi+r) (by omega) fun w2 m5 s4 z1 => ?_
    have b5:=s4.below b4 (Nat.le_trans hB b4.size) m4.blk.1
    refine Fx.Ln (Fx.Rp ((pf g (fi+2*r+2))) (fun v1=>Fx.av rfl rfl rfl Tryd.underlying53 (s:=1) (by kernel_rfl) (by omega) (by omega) (by omega)) (Fx.R.fP (by rfl) ?_))
    refine Fx.L.eU (x:=Fx.eB (Fx.rv .u64 (gA dk)) (fi+r) (.int .u64 ((gA dk) (fi+2*r+2)))) (u := .int .u64 ((gA dk) (fi+r))) (by rfl) rfl rfl rfl rfl (by rfl) (by kernel_rfl) m5 (i:=fi+2*r+2) (by omega) fun w3 m6 s5 z2 => ?_
    have b6:=s5.below b5 (Nat.le_trans hB b5.size) m5.blk.1
    have m7:Fx.Own w3 B 22 1 (.slice (some ⟨g,0,none⟩) n cap) n (Fx.rv .u64 (gA (Sort.swp dk (fi+r) (fi+2*r+2)))):=m6.congr (eO hk (by omega) (by omega))
    refine Fx.Ln (Fx.R.nil (Fx.sN (Fx.Wl (Fx.Lv (.int .i64 (2*(r:Int)+2)) (Fx.ah rfl rfl) (Fx.Lv (.int .i64 (2*(r:Int)+2)) (Fx.aj rfl rfl) (Fx.Ln (Fx.dV (Fx.kg ⟨2*r+2,Sort.swp dk (fi+r) (fi+2*r+2),(dz hk _ _),(by rw[Jl (x0:=fi+r) (x1:=fi+2*r+1) (x2:=fi+2*r+2) (by omega) (by omega) rfl (by omega) (of_decide_eq_true Io),if_pos (of_decide_eq_true c51)]at hO; exact hO),(by omega),h1,(h2.trans Fx.ic),(h3.trans Fx.ic),(h4.trans Fx.ic),Fx.ic,m7,b6⟩ ?_))))))))
    show((hi:Int)+lo-intOf ((.int .i64 (2*(r:Int)+2)))).toNat<_
    simp only[h5,intOf]; omega
   rw[Bool.not_eq_true]at c51
   refine Fx.Qt.call (v := .bool false) (by rfl) (fun v1 hv1=>Fx.rC (args := [.int .u64 ((gA dk) (fi+r)),.int .u64 ((gA dk) (fi+2*r+2))]) rfl rfl Tryd.func116 rfl rfl) rfl (fun v1 hv1=>(bU ((gA dk) (fi+r)) ((gA dk) (fi+2*r+2)) _).mono fun e v2 h=>⟨by rw[h.1,c51],by rw[h.2]; exact hv1⟩) ?_
   refine Fx.Qv (.bool true) (fun v1 hv1=>Fx.eH rfl rfl) (Fx.Qt.nil ?_)
   intro yJ jV
   have s6:Fx.Stp sG.heap.size sG yJ:=Fx.Sb jV
   have m8:=m2.bO s6 (Nat.ne_of_lt (m2.lt))
   have b7:=s6.below b2 (Nat.le_trans hB b2.size) (Nat.le_trans hB b2.size)
   refine Fx.sN (Fx.Wc (b:=true) rfl (fun _=>Fx.Wr (Fx.sR (Fx.dH (Fx.DT (Fx.dH (⟨.tuple #[],Fx.jS Tryd.results123,?_⟩)))))) (fun h=>nomatch h))
   rw[Jl (x0:=fi+r) (x1:=fi+2*r+1) (x2:=fi+2*r+2) (by omega) (by omega) rfl (by omega) (of_decide_eq_true Io),if_neg (of_decide_eq_false c51)]at hO; subst hO; exact⟨rfl,m8,b7⟩
  rw[Bool.not_eq_true]at Io
  refine Fx.Qt.call (v := .bool false) (by rfl) (fun v1 hv1=>Fx.rC (args := [.int .u64 ((gA dk) (fi+2*r+1)),.int .u64 ((gA dk) (fi+2*r+2))]) rfl rfl Tryd.func116 rfl rfl) rfl (fun v1 hv1=>(bU ((gA dk) (fi+2*r+1)) ((gA dk) (fi+2*r+2)) _).mono fun e v2 h=>⟨by rw[h.1,Io],by rw[h.2]; exact hv1⟩) ?_
  refine Fx.Qv (.bool false) (fun v1 hv1=>Fx.aA rfl rfl rfl) (Fx.Qt.nil ?_)
  intro D8 sH
  have s7:Fx.Stp w1.heap.size w1 D8:=Fx.Sb sH
  have m9:=m1.bO s7 (Nat.ne_of_lt (m1.lt))
  have b8:=s7.below b1 (Nat.le_trans hB b1.size) (Nat.le_trans hB b1.size)
  refine Fx.sN (Fx.Wc (b:=false) rfl (fun h=>nomatch h) (fun _=>Fx.Wk (Fx.sN (Fx.Ws (Fx.Ws ?_)))))
  -- region 5 draws
  refine Fx.W.quiet (fun v1=>Below D8.heap.size D8 v1) (by kernel_rfl) (by kernel_rfl) (Below.refl _ _).drew ?_
  refine Fx.Qv (.slice (some ⟨g,0,none⟩) (n) (cap)) (fun v1 hv1=>Fx.ah rfl h1) (Fx.Qv (.int .i64 ((fi:Int))) (fun v1 hv1=>Fx.ah rfl h4) (Fx.Qv (.int .i64 ((r:Int))) (fun v1 hv1=>Fx.ah rfl h5) (Fx.Qv (.int .i64 ((fi:Int)+(r:Int))) (fun v1 hv1=>Fx.aS rfl rfl rfl Fx.io) (Fx.Qv ((pf g (fi+r))) (fun v1 hv1=>Fx.av rfl rfl rfl Tryd.underlying53 (s:=1) (by kernel_rfl) (by omega) (by omega) (by omega)) (Fx.Qv (.int .u64 ((gA dk) (fi+r))) (fun v1 hv1=>Fx.ak (x:=Fx.rv .u64 (gA dk)) rfl rfl (by kernel_rfl) (m9.aL.below hv1 (by have:=m9.lt; omega)) (i:=fi+r) (by omega) (by omega) rfl) (Fx.Qv (.slice (some ⟨g,0,none⟩) (n) (cap)) (fun v1 hv1=>Fx.ah rfl h1) (Fx.Qv (.int .i64 ((fi:Int))) (fun v1 hv1=>Fx.ah rfl h4) (Fx.Qv (.int .i64 (2*(r:Int)+1)) (fun v1 hv1=>Fx.ah rfl rfl) (Fx.Qv (.int .i64 ((fi:Int)+2*(r:Int)+1)) (fun v1 hv1=>Fx.aS rfl rfl rfl Fx.io) (Fx.Qv ((pf g (fi+2*r+1))) (fun v1 hv1=>Fx.av rfl rfl rfl Tryd.underlying53 (s:=1) (by kernel_rfl) (by omega) (by omega) (by omega)) (Fx.Qv (.int .u64 ((gA dk) (fi+2*r+1))) (fun v1 hv1=>Fx.ak (x:=Fx.rv .u64 (gA dk)) rfl rfl (by kernel_rfl) (m9.aL.below hv1 (by have:=m9.lt; omega)) (i:=fi+2*r+1) (by omega) (by omega) rfl) ?_)))))))))))
  by_cases c51:(decide ((gA dk) (fi+r)<(gA dk) (fi+2*r+1)))=true
  ·refine Fx.Qt.call (v := .bool true) (by rfl) (fun v1 hv1=>Fx.rC (args := [.int .u64 ((gA dk) (fi+r)),.int .u64 ((gA dk) (fi+2*r+1))]) rfl rfl Tryd.func116 rfl rfl) rfl (fun v1 hv1=>(bU ((gA dk) (fi+r)) ((gA dk) (fi+2*r+1)) _).mono fun e v2 h=>⟨by rw[h.1,c51],by rw[h.2]; exact hv1⟩) ?_
   refine Fx.Qv (.bool false) (fun v1 hv1=>Fx.dZ rfl rfl) (Fx.Qt.nil ?_)
   intro Mj xw
   have s8:Fx.Stp D8.heap.size D8 Mj:=Fx.Sb xw
   have m10:=m9.bO s8 (Nat.ne_of_lt (m9.lt))
   have b9:=s8.below b8 (Nat.le_trans hB b8.size) (Nat.le_trans hB b8.size)
   refine Fx.sN (Fx.Wc (b:=false) rfl (fun h=>nomatch h) (fun _=>Fx.Wk (Fx.sN (Fx.Ws ?_))))
   -- region 6 draws
   refine Fx.W.bH [0,1,2,3,4,5,6,7,8,9,10,11,12,14,15,16,17,18,13,19,20,21,22,23] [0,0,0,0,0,0,0,0,0,0,0,0,0,4,0,0,0,0,0,4,0,3,0,3] Fx.Mk Fx.Mk.refl Fx.Mk.trans (aQ := [(21,13,[13]),(23,13,[13]),(21,19,[19]),(23,19,[19]),(22,21,[21]),(23,21,[21])]) (by kernel_rfl) (by kernel_rfl) (by kernel_rfl) (by kernel_rfl) (by kernel_rfl) fun sI fU mR => ?_
   have s9:Fx.Stp Mj.heap.size Mj sI:=Fx.Sb fU
   have m11:=m10.bO s9 (Nat.ne_of_lt (m10.lt))
   have b10:=s9.below b9 (Nat.le_trans hB b9.size) (Nat.le_trans hB b9.size)
   refine Fx.Rp (.slice (some ⟨g,0,none⟩) (n) (cap)) (fun v1=>Fx.ah rfl h1) (Fx.Rp (.int .i64 ((fi:Int))) (fun v1=>Fx.ah rfl h4) (Fx.Rp (.int .i64 ((r:Int))) (fun v1=>Fx.ah rfl h5) (Fx.Rp (.int .i64 ((fi:Int)+(r:Int))) (fun v1=>Fx.aS rfl rfl rfl Fx.io) (Fx.Rp (.slice (some ⟨g,0,none⟩) (n) (cap)) (fun v1=>Fx.ah rfl h1) (Fx.Rp (.int .i64 ((fi:Int))) (fun v1=>Fx.ah rfl h4) (Fx.Rp (.int .i64 (2*(r:Int)+1)) (fun v1=>Fx.ah rfl rfl) (Fx.Rp (.int .i64 ((fi:Int)+2*(r:Int)+1)) (fun v1=>Fx.aS rfl rfl rfl Fx.io) (Fx.Rp (.slice (some ⟨g,0,none⟩) (n) (cap)) (fun v1=>Fx.ah rfl h1) (Fx.Rp (.int .i64 ((fi:Int))) (fun v1=>Fx.ah rfl h4) (Fx.Rp (.int .i64 (2*(r:Int)+1)) (fun v1=>Fx.ah rfl rfl) (Fx.Rp (.int .i64 ((fi:Int)+2*(r:Int)+1)) (fun v1=>Fx.aS rfl rfl rfl Fx.io) (Fx.Rp ((pf g (fi+2*r+1))) (fun v1=>Fx.av rfl rfl rfl Tryd.underlying53 (s:=1) (by kernel_rfl) (by omega) (by omega) (by omega)) (Fx.Rp (.slice (some ⟨g,0,none⟩) (n) (cap)) (fun v1=>Fx.ah rfl h1) (Fx.Rp (.int .i64 ((fi:Int))) (fun v1=>Fx.ah rfl h4) (Fx.Rp (.int .i64 ((r:Int))) (fun v1=>Fx.ah rfl h5) (Fx.Rp (.int .i64 ((fi:Int)+(r:Int))) (fun v1=>Fx.aS rfl rfl rfl Fx.io) (Fx.Rp ((pf g (fi+r))) (fun v1=>Fx.av rfl rfl rfl Tryd.underlying53 (s:=1) (by kernel_rfl) (by omega) (by omega) (by omega)) (Fx.R.s (.int .u64 ((gA dk) (fi+2*r+1))) (Fx.ak (x:=Fx.rv .u64 (gA dk)) rfl rfl (by kernel_rfl) m11.aL (i:=fi+2*r+1) (by omega) (by omega) rfl) ?_))))))))))))))))))
   refine Fx.R.s (.int .u64 ((gA dk) (fi+r))) (Fx.ak (x:=Fx.rv .u64 (gA dk)) rfl rfl (by kernel_rfl) m11.aL (i:=fi+r) (by omega) (by omega) rfl) ?_
   refine Fx.Rp ((pf g (fi+r))) (fun v1=>Fx.av rfl rfl rfl Tryd.underlying53 (s:=1) (by kernel_rfl) (by omega) (by omega) (by omega)) (Fx.R.fP (by rfl) ?_)
   refine Fx.L.eU (x:=Fx.rv .u64 (gA dk)) (u := .int .u64 ((gA dk) (fi+2*r+1))) (by rfl) rfl rfl rfl rfl (by rfl) (by kernel_rfl) m11 (i:=fi+r) (by omega) fun w4 m12 s10 z3 => ?_
   have b11:=s10.below b10 (Nat.le_trans hB b10.size) m11.blk.1
   refine Fx.Ln (Fx.Rp ((pf g (fi+2*r+1))) (fun v1=>Fx.av rfl rfl rfl Tryd.underlying53 (s:=1) (by kernel_rfl) (by omega) (by omega) (by omega)) (Fx.R.fP (by rfl) ?_))
   refine Fx.L.eU (x:=Fx.eB (Fx.rv .u64 (gA dk)) (fi+r) (.int .u64 ((gA dk) (fi+2*r+1)))) (u := .int .u64 ((gA dk) (fi+r))) (by rfl) rfl rfl rfl rfl (by rfl) (by kernel_rfl) m12 (i:=fi+2*r+1) (by omega) fun w5 m13 s11 z4 => ?_
   have b12:=s11.below b11 (Nat.le_trans hB b11.size) m12.blk.1
   have m14:Fx.Own w5 B 22 1 (.slice (some ⟨g,0,none⟩) n cap) n (Fx.rv .u64 (gA (Sort.swp dk (fi+r) (fi+2*r+1)))):=m13.congr (eO hk (by omega) (by omega))
   refine Fx.Ln (Fx.R.nil (Fx.sN (Fx.Wl (Fx.Lv (.int .i64 (2*(r:Int)+1)) (Fx.ah rfl rfl) (Fx.Lv (.int .i64 (2*(r:Int)+1)) (Fx.aj rfl rfl) (Fx.Ln (Fx.dV (Fx.kg ⟨2*r+1,Sort.swp dk (fi+r) (fi+2*r+1),(dz hk _ _),(by rw[BO (x0:=fi+r) (x1:=fi+2*r+1) (x2:=fi+2*r+2) (by omega) (by omega) rfl (by omega) (.inr (of_decide_eq_false Io)),if_pos (of_decide_eq_true c51)]at hO; exact hO),(by omega),h1,(h2.trans Fx.ic),(h3.trans Fx.ic),(h4.trans Fx.ic),Fx.ic,m14,b12⟩ ?_))))))))
   show((hi:Int)+lo-intOf ((.int .i64 (2*(r:Int)+1)))).toNat<_
   simp only[h5,intOf]; omega
  rw[Bool.not_eq_true]at c51
  refine Fx.Qt.call (v := .bool false) (by rfl) (fun v1 hv1=>Fx.rC (args := [.int .u64 ((gA dk) (fi+r)),.int .u64 ((gA dk) (fi+2*r+1))]) rfl rfl Tryd.func116 rfl rfl) rfl (fun v1 hv1=>(bU ((gA dk) (fi+r)) ((gA dk) (fi+2*r+1)) _).mono fun e v2 h=>⟨by rw[h.1,c51],by rw[h.2]; exact hv1⟩) ?_
  refine Fx.Qv (.bool true) (fun v1 hv1=>Fx.eH rfl rfl) (Fx.Qt.nil ?_)
  intro Qf BP
  have s12:Fx.Stp D8.heap.size D8 Qf:=Fx.Sb BP
  have m15:=m9.bO s12 (Nat.ne_of_lt (m9.lt))
  have b13:=s12.below b8 (Nat.le_trans hB b8.size) (Nat.le_trans hB b8.size)
  refine Fx.sN (Fx.Wc (b:=true) rfl (fun _=>Fx.Wr (Fx.sR (Fx.dH (Fx.DT (Fx.dH (⟨.tuple #[],Fx.jS Tryd.results123,?_⟩)))))) (fun h=>nomatch h))
  rw[BO (x0:=fi+r) (x1:=fi+2*r+1) (x2:=fi+2*r+2) (by omega) (by omega) rfl (by omega) (.inr (of_decide_eq_false Io)),if_neg (of_decide_eq_false c51)]at hO; subst hO; exact⟨rfl,m15,b13⟩
 refine Fx.Qv (.bool false) (fun v1 hv1=>Fx.dX rfl rfl rfl c20) (Fx.Qv (.bool false) (fun v1 hv1=>Fx.ah rfl rfl) (Fx.Qs (by rfl) rfl (Fx.Qs (by rfl) rfl (Fx.Qs (by rfl) rfl (Fx.Qs (by rfl) rfl (Fx.Qs (by rfl) rfl (Fx.Qs (by rfl) rfl (Fx.Qs (by rfl) rfl (Fx.Qs (by rfl) rfl (Fx.Qs (by rfl) rfl (Fx.Qs (by rfl) rfl (Fx.Qs (by rfl) rfl (Fx.Qs (by rfl) rfl (Fx.Qs (by rfl) rfl (Fx.Qs (by rfl) rfl (Fx.Qv (.bool false) (fun v1 hv1=>Fx.aJ rfl rfl rfl) (Fx.Qt.nil ?_)))))))))))))))))
 intro Jr BQ
 have s13:Fx.Stp w1.heap.size w1 Jr:=Fx.Sb BQ
 have m16:=m1.bO s13 (Nat.ne_of_lt (m1.lt))
 have b14:=s13.below b1 (Nat.le_trans hB b1.size) (Nat.le_trans hB b1.size)
 refine Fx.sN (Fx.Wc (b:=false) rfl (fun h=>nomatch h) (fun _=>Fx.Wk (Fx.sN (Fx.Ws (Fx.Ws ?_)))))
 -- region 5 draws
 refine Fx.W.quiet (fun v1=>Below Jr.heap.size Jr v1) (by kernel_rfl) (by kernel_rfl) (Below.refl _ _).drew ?_
 refine Fx.Qv (.slice (some ⟨g,0,none⟩) (n) (cap)) (fun v1 hv1=>Fx.ah rfl h1) (Fx.Qv (.int .i64 ((fi:Int))) (fun v1 hv1=>Fx.ah rfl h4) (Fx.Qv (.int .i64 ((r:Int))) (fun v1 hv1=>Fx.ah rfl h5) (Fx.Qv (.int .i64 ((fi:Int)+(r:Int))) (fun v1 hv1=>Fx.aS rfl rfl rfl Fx.io) (Fx.Qv ((pf g (fi+r))) (fun v1 hv1=>Fx.av rfl rfl rfl Tryd.underlying53 (s:=1) (by kernel_rfl) (by omega) (by omega) (by omega)) (Fx.Qv (.int .u64 ((gA dk) (fi+r))) (fun v1 hv1=>Fx.ak (x:=Fx.rv .u64 (gA dk)) rfl rfl (by kernel_rfl) (m16.aL.below hv1 (by have:=m16.lt; omega)) (i:=fi+r) (by omega) (by omega) rfl) (Fx.Qv (.slice (some ⟨g,0,none⟩) (n) (cap)) (fun v1 hv1=>Fx.ah rfl h1) (Fx.Qv (.int .i64 ((fi:Int))) (fun v1 hv1=>Fx.ah rfl h4) (Fx.Qv (.int .i64 (2*(r:Int)+1)) (fun v1 hv1=>Fx.ah rfl rfl) (Fx.Qv (.int .i64 ((fi:Int)+2*(r:Int)+1)) (fun v1 hv1=>Fx.aS rfl rfl rfl Fx.io) (Fx.Qv ((pf g (fi+2*r+1))) (fun v1 hv1=>Fx.av rfl rfl rfl Tryd.underlying53 (s:=1) (by kernel_rfl) (by omega) (by omega) (by omega)) (Fx.Qv (.int .u64 ((gA dk) (fi+2*r+1))) (fun v1 hv1=>Fx.ak (x:=Fx.rv .u64 (gA dk)) rfl rfl (by kernel_rfl) (m16.aL.below hv1 (by have:=m16.lt; omega)) (i:=fi+2*r+1) (by omega) (by omega) rfl) ?_)))))))))))
 by_cases c51:(decide ((gA dk) (fi+r)<(gA dk) (fi+2*r+1)))=true
 ·refine Fx.Qt.call (v := .bool true) (by rfl) (fun v1 hv1=>Fx.rC (args := [.int .u64 ((gA dk) (fi+r)),.int .u64 ((gA dk) (fi+2*r+1))]) rfl rfl Tryd.func116 rfl rfl) rfl (fun v1 hv1=>(bU ((gA dk) (fi+r)) ((gA dk) (fi+2*r+1)) _).mono fun e v2 h=>⟨by rw[h.1,c51],by rw[h.2]; exact hv1⟩) ?_
  refine Fx.Qv (.bool false) (fun v1 hv1=>Fx.dZ rfl rfl) (Fx.Qt.nil ?_)
  intro Js BR
  have LP:Fx.Stp Jr.heap.size Jr Js:=Fx.Sb BR
  have m17:=m16.bO LP (Nat.ne_of_lt (m16.lt))
  have b15:=LP.below b14 (Nat.le_trans hB b14.size) (Nat.le_trans hB b14.size)
  refine Fx.sN (Fx.Wc (b:=false) rfl (fun h=>nomatch h) (fun _=>Fx.Wk (Fx.sN (Fx.Ws ?_))))
  -- region 6 draws
  refine Fx.W.bH [0,1,2,3,4,5,6,7,8,9,10,11,12,14,15,16,17,18,13,19,20,21,22,23] [0,0,0,0,0,0,0,0,0,0,0,0,0,4,0,0,0,0,0,4,0,3,0,3] Fx.Mk Fx.Mk.refl Fx.Mk.trans (aQ := [(21,13,[13]),(23,13,[13]),(21,19,[19]),(23,19,[19]),(22,21,[21]),(23,21,[21])]) (by kernel_rfl) (by kernel_rfl) (by kernel_rfl) (by kernel_rfl) (by kernel_rfl) fun GU oV BS => ?_
  have s15:Fx.Stp Js.heap.size Js GU:=Fx.Sb oV
  have m18:=m17.bO s15 (Nat.ne_of_lt (m17.lt))
  have b16:=s15.below b15 (Nat.le_trans hB b15.size) (Nat.le_trans hB b15.size)
  refine Fx.Rp (.slice (some ⟨g,0,none⟩) (n) (cap)) (fun v1=>Fx.ah rfl h1) (Fx.Rp (.int .i64 ((fi:Int))) (fun v1=>Fx.ah rfl h4) (Fx.Rp (.int .i64 ((r:Int))) (fun v1=>Fx.ah rfl h5) (Fx.Rp (.int .i64 ((fi:Int)+(r:Int))) (fun v1=>Fx.aS rfl rfl rfl Fx.io) (Fx.Rp (.slice (some ⟨g,0,none⟩) (n) (cap)) (fun v1=>Fx.ah rfl h1) (Fx.Rp (.int .i64 ((fi:Int))) (fun v1=>Fx.ah rfl h4) (Fx.Rp (.int .i64 (2*(r:Int)+1)) (fun v1=>Fx.ah rfl rfl) (Fx.Rp (.int .i64 ((fi:Int)+2*(r:Int)+1)) (fun v1=>Fx.aS rfl rfl rfl Fx.io) (Fx.Rp (.slice (some ⟨g,0,none⟩) (n) (cap)) (fun v1=>Fx.ah rfl h1) (Fx.Rp (.int .i64 ((fi:Int))) (fun v1=>Fx.ah rfl h4) (Fx.Rp (.int .i64 (2*(r:Int)+1)) (fun v1=>Fx.ah rfl rfl) (Fx.Rp (.int .i64 ((fi:Int)+2*(r:Int)+1)) (fun v1=>Fx.aS rfl rfl rfl Fx.io) (Fx.Rp ((pf g (fi+2*r+1))) (fun v1=>Fx.av rfl rfl rfl Tryd.underlying53 (s:=1) (by kernel_rfl) (by omega) (by omega) (by omega)) (Fx.Rp (.slice (some ⟨g,0,none⟩) (n) (cap)) (fun v1=>Fx.ah rfl h1) (Fx.Rp (.int .i64 ((fi:Int))) (fun v1=>Fx.ah rfl h4) (Fx.Rp (.int .i64 ((r:Int))) (fun v1=>Fx.ah rfl h5) (Fx.Rp (.int .i64 ((fi:Int)+(r:Int))) (fun v1=>Fx.aS rfl rfl rfl Fx.io) (Fx.Rp ((pf g (fi+r))) (fun v1=>Fx.av rfl rfl rfl Tryd.underlying53 (s:=1) (by kernel_rfl) (by omega) (by omega) (by omega)) (Fx.R.s (.int .u64 ((gA dk) (fi+2*r+1))) (Fx.ak (x:=Fx.rv .u64 (gA dk)) rfl rfl (by kernel_rfl) m18.aL (i:=fi+2*r+1) (by omega) (by omega) rfl) ?_))))))))))))))))))
  refine Fx.R.s (.int .u64 ((gA dk) (fi+r))) (Fx.ak (x:=Fx.rv .u64 (gA dk)) rfl rfl (by kernel_rfl) m18.aL (i:=fi+r) (by omega) (by omega) rfl) ?_
  refine Fx.Rp ((pf g (fi+r))) (fun v1=>Fx.av rfl rfl rfl Tryd.underlying53 (s:=1) (by kernel_rfl) (by omega) (by omega) (by omega)) (Fx.R.fP (by rfl) ?_)
  refine Fx.L.eU (x:=Fx.rv .u64 (gA dk)) (u := .int .u64 ((gA dk) (fi+2*r+1))) (by rfl) rfl rfl rfl rfl (by rfl) (by kernel_rfl) m18 (i:=fi+r) (by omega) fun w6 m19 s16 z5 => ?_
  have b17:=s16.below b16 (Nat.le_trans hB b16.size) m18.blk.1
  refine Fx.Ln (Fx.Rp ((pf g (fi+2*r+1))) (fun v1=>Fx.av rfl rfl rfl Tryd.underlying53 (s:=1) (by kernel_rfl) (by omega) (by omega) (by omega)) (Fx.R.fP (by rfl) ?_))
  refine Fx.L.eU (x:=Fx.eB (Fx.rv .u64 (gA dk)) (fi+r) (.int .u64 ((gA dk) (fi+2*r+1)))) (u := .int .u64 ((gA dk) (fi+r))) (by rfl) rfl rfl rfl rfl (by rfl) (by kernel_rfl) m19 (i:=fi+2*r+1) (by omega) fun w7 m20 Tn z6 => ?_
  have b18:=Tn.below b17 (Nat.le_trans hB b17.size) m19.blk.1
  have m21:Fx.Own w7 B 22 1 (.slice (some ⟨g,0,none⟩) n cap) n (Fx.rv .u64 (gA (Sort.swp dk (fi+r) (fi+2*r+1)))):=m20.congr (eO hk (by omega) (by omega))
  refine Fx.Ln (Fx.R.nil (Fx.sN (Fx.Wl (Fx.Lv (.int .i64 (2*(r:Int)+1)) (Fx.ah rfl rfl) (Fx.Lv (.int .i64 (2*(r:Int)+1)) (Fx.aj rfl rfl) (Fx.Ln (Fx.dV (Fx.kg ⟨2*r+1,Sort.swp dk (fi+r) (fi+2*r+1),(dz hk _ _),(by rw[BO (x0:=fi+r) (x1:=fi+2*r+1) (x2:=fi+2*r+2) (by omega) (by omega) rfl (by omega) (.inl (by omega)),if_pos (of_decide_eq_true c51)]at hO; exact hO),(by omega),h1,(h2.trans Fx.ic),(h3.trans Fx.ic),(h4.trans Fx.ic),Fx.ic,m21,b18⟩ ?_))))))))
  show((hi:Int)+lo-intOf ((.int .i64 (2*(r:Int)+1)))).toNat<_
  simp only[h5,intOf]; omega
 rw[Bool.not_eq_true]at c51
 refine Fx.Qt.call (v := .bool false) (by rfl) (fun v1 hv1=>Fx.rC (args := [.int .u64 ((gA dk) (fi+r)),.int .u64 ((gA dk) (fi+2*r+1))]) rfl rfl Tryd.func116 rfl rfl) rfl (fun v1 hv1=>(bU ((gA dk) (fi+r)) ((gA dk) (fi+2*r+1)) _).mono fun e v2 h=>⟨by rw[h.1,c51],by rw[h.2]; exact hv1⟩) ?_
 refine Fx.Qv (.bool true) (fun v1 hv1=>Fx.eH rfl rfl) (Fx.Qt.nil ?_)
 intro Uh BU
 have OL:Fx.Stp Jr.heap.size Jr Uh:=Fx.Sb BU
 have m22:=m16.bO OL (Nat.ne_of_lt (m16.lt))
 have b19:=OL.below b14 (Nat.le_trans hB b14.size) (Nat.le_trans hB b14.size)
 refine Fx.sN (Fx.Wc (b:=true) rfl (fun _=>Fx.Wr (Fx.sR (Fx.dH (Fx.DT (Fx.dH (⟨.tuple #[],Fx.jS Tryd.results123,?_⟩)))))) (fun h=>nomatch h))
 rw[BO (x0:=fi+r) (x1:=fi+2*r+1) (x2:=fi+2*r+2) (by omega) (by omega) rfl (by omega) (.inl (by omega)),if_neg (of_decide_eq_false c51)]at hO; subst hO; exact⟨rfl,m22,b19⟩
theorem Fp{loI hiI fiI:Int}(lo hi fi:Nat)(elo:loI=(lo:Int))(ehi:hiI=(hi:Int))(efi:fiI=(fi:Int))(B g n cap:Nat)(d:Array Int)(w:World)(h:Fx.Own w B 22 1 (.slice (some ⟨g,0,none⟩) n cap) n (Fx.rv .u64 (gA d)))(hB:B<=w.heap.size)(hn:d.size=n)(hs:n<=1000)(hf:fi+hi<=n/\lo<=1000) :
 Calls Tryd.prog 123 #[.slice (some ⟨g,0,none⟩) (n) (cap),.int .i64 (loI),.int .i64 (hiI),.int .i64 (fiI)] w fun e w'=>e = .returned (.tuple #[])/\Fx.Own w' B 22 1 (.slice (some ⟨g,0,none⟩) n cap) n (Fx.rv .u64 (gA (Sort.siftDown Sort.ltInt hi fi lo d)))/\Below B w w':=by
 subst elo ehi efi; exact Qe lo hi fi B g n cap d w h hB hn hs hf
theorem Qg(a b:Nat)(B g n cap:Nat)(d:Array Int)(w:World)(h:Fx.Own w B 22 1 (.slice (some ⟨g,0,none⟩) n cap) n (Fx.rv .u64 (gA d)))(hB:B<=w.heap.size)(hn:d.size=n)(hs:n<=1000)(ha:a<b)(hb:b<=n) :
 Calls Tryd.prog 111 #[.slice (some ⟨g,0,none⟩) (n) (cap),.int .i64 ((a:Int)),.int .i64 ((b:Int))] w fun e w'=>e = .returned (.tuple #[])/\Fx.Own w' B 22 1 (.slice (some ⟨g,0,none⟩) n cap) n (Fx.rv .u64 (gA (Sort.heapSort Sort.ltInt d a b)))/\Below B w w':=by
 obtain⟨m0,hm0⟩ : ∃ m0,m0=(b-a-1) / 2:=⟨_,rfl⟩
 refine Fx.enter Tryd.func111 rfl (n:=56) rfl (by rfl) ?_
 refine Fx.Ws (Fx.Wl (Fx.Lv (.int .i64 ((a:Int))) (Fx.ah rfl rfl) (Fx.Lv (.int .i64 ((a:Int))) (Fx.aj rfl rfl) (Fx.Ln (Fx.sN (Fx.Ws (Fx.Wl (Fx.Lv (.int .i64 (0)) (Fx.aj rfl rfl) (Fx.Ln (Fx.sN (Fx.Ws (Fx.Wl (Fx.Lv (.int .i64 ((b:Int))) (Fx.ah rfl rfl) (Fx.Lv (.int .i64 ((a:Int))) (Fx.ah rfl rfl) (Fx.Lv (.int .i64 ((b:Int)-(a:Int))) (Fx.bD rfl rfl rfl Fx.io) (Fx.Lv (.int .i64 ((b:Int)-(a:Int))) (Fx.aj rfl rfl) (Fx.Ln (Fx.sN (Fx.Ws (Fx.Ws (Fx.Wl (Fx.Lv (.int .i64 ((b:Int)-(a:Int))) (Fx.ah rfl rfl) (Fx.Lv (.int .i64 ((b:Int)-(a:Int)-1)) (Fx.bD rfl rfl rfl Fx.io) (Fx.Lv (.int .i64 ((m0:Int))) (Fx.uU rfl rfl rfl (by omega) (Fx.wQ (by omega) (by rw[Int.tdiv_eq_ediv_of_nonneg (by omega)]; omega))) (Fx.Lv (.int .i64 ((m0:Int))) (Fx.aj rfl rfl) (Fx.Ln (Fx.sN (Fx.W.block (Fx.W.loop (fun f w_ => ∃ k:Nat,∃ dk:Array Int,dk.size=n/\Sort.heapBuild Sort.ltInt (b-a) a k dk=Sort.heapBuild Sort.ltInt (b-a) a (m0+1) d/\k<=m0+1/\f 0 = .slice (some ⟨g,0,none⟩) (n) (cap)/\f 1 = .int .i64 ((a:Int))/\f 2 = .int .i64 ((b:Int))/\f 6 = .int .i64 ((a:Int))/\f 7 = .int .i64 (0)/\f 8 = .int .i64 ((b:Int)-(a:Int))/\f 9 = .int .i64 ((k:Int)-1)/\Fx.Own w_ B 22 1 (.slice (some ⟨g,0,none⟩) n cap) n (Fx.rv .u64 (gA dk))/\Below B w w_) (fun f _=>(intOf (f 9)+1).toNat) ⟨m0+1,d,hn,rfl,(by omega),(by rfl),Fx.ic,Fx.ic,Fx.ic,Fx.ic,Fx.ic,Fx.ic,h,(Below.refl B w)⟩ ?_)))))))))))))))))))))))))))))
 rintro f1 w1 ⟨k,dk,hk,hO,hkm,h1,h2,h3,h4,h5,h6,h7,m1,b1⟩
 refine Fx.Ws (Fx.Ws (Fx.Wl (Fx.Lv (.int .i64 ((k:Int)-1)) (Fx.ah rfl h7) ?_)))
 by_cases c19:0<=((k:Int)-1)
 ·refine Fx.Lv (.bool true) (Fx.gV rfl rfl rfl c19) (Fx.Ln (Fx.sN (Fx.Wc (b:=true) rfl (fun _=>Fx.Wk (Fx.sN (Fx.Ws (Fx.W.block (Fx.Wl (Fx.Lv (.slice (some ⟨g,0,none⟩) (n) (cap)) (Fx.ah rfl h1) ?_)))))) (fun h=>nomatch h))))
  refine Fx.Lv (.int .i64 ((k:Int)-1)) (Fx.ah rfl h7) (Fx.Lv (.int .i64 ((b:Int)-(a:Int))) (Fx.ah rfl h6) (Fx.Lv (.int .i64 ((a:Int))) (Fx.ah rfl h4) (Fx.L.call (by rfl) (Fx.rC (args := [.slice (some ⟨g,0,none⟩) (n) (cap),.int .i64 ((k:Int)-1),.int .i64 ((b:Int)-(a:Int)),.int .i64 ((a:Int))]) rfl rfl Tryd.func123 rfl rfl) rfl ((Fp (k-1) (b-a) a (by omega) (by omega) (by omega) B g n cap dk _ m1 (Nat.le_trans hB b1.size) hk hs ⟨by omega,by omega⟩).mono ?_))))
  rintro e9 w2 ⟨he,m2,hb1⟩
  refine⟨_,he,?_⟩
  clear he
  have b2:=b1.trans hb1
  refine Fx.Ln (Fx.dV (Fx.sN (Fx.Wl (Fx.Lv (.int .i64 ((k:Int)-1)) (Fx.ah rfl h7) (Fx.Lv (.int .i64 ((k:Int)-2)) (Fx.bD rfl rfl rfl Fx.io) (Fx.Lv (.int .i64 ((k:Int)-2)) (Fx.aj rfl rfl) (Fx.Ln (Fx.kg ⟨k-1,Sort.siftDown Sort.ltInt (b-a) a (k-1) dk,(wh (by omega) _ _ _ (Nat.le_refl _) hk),((Jm (by omega)).trans hO),(by omega),h1,(h2.trans Fx.ic),(h3.trans Fx.ic),(h4.trans Fx.ic),(h5.trans Fx.ic),(h6.trans Fx.ic),Fx.ic,m2,b2⟩ ?_))))))))
  show(intOf ((.int .i64 ((k:Int)-2)))+1).toNat<_
  simp only[h7,intOf]; omega
 refine Fx.Lv (.bool false) (Fx.eY rfl rfl rfl c19) (Fx.Ln (Fx.sN (Fx.Wc (b:=false) rfl (fun h=>nomatch h) (fun _=>Fx.W.exit (Fx.dQ (Fx.jC (Fx.dR (Fx.sN (Fx.Ws (Fx.Wl (Fx.Lv (.int .i64 ((b:Int)-(a:Int))) (Fx.ah rfl h6) (Fx.Lv (.int .i64 ((b:Int)-(a:Int)-1)) (Fx.bD rfl rfl rfl Fx.io) (Fx.Lv (.int .i64 ((b:Int)-(a:Int)-1)) (Fx.aj rfl rfl) (Fx.Ln (Fx.sN (Fx.W.block ?_))))))))))))))))
 obtain rfl:k=0:=by omega
 obtain⟨d1,hd1⟩ : ∃ d1,d1=dk:=⟨_,rfl⟩
 refine Fx.W.loop (fun f w_ => ∃ k2:Nat,∃ dp:Array Int,dp.size=n/\Sort.heapPop Sort.ltInt a k2 dp=Sort.heapPop Sort.ltInt a (b-a) dk/\k2<=b-a/\f 0 = .slice (some ⟨g,0,none⟩) (n) (cap)/\f 1 = .int .i64 ((a:Int))/\f 2 = .int .i64 ((b:Int))/\f 6 = .int .i64 ((a:Int))/\f 7 = .int .i64 (0)/\f 10 = .int .i64 ((k2:Int)-1)/\Fx.Own w_ B 22 1 (.slice (some ⟨g,0,none⟩) n cap) n (Fx.rv .u64 (gA dp))/\Below B w w_) (fun f _=>(intOf (f 10)+1).toNat) ⟨b-a,dk,hk,rfl,(by omega),h1,(h2.trans Fx.ic),(h3.trans Fx.ic),(h4.trans Fx.ic),(h5.trans Fx.ic),Fx.ic,m1,b1⟩ ?_
 rintro f2 w3 ⟨k2,dp,hp,hP,hkp,h8,h9,h10,h11,h12,Al,m3,b3⟩
 refine Fx.Ws (Fx.Ws (Fx.Wl (Fx.Lv (.int .i64 ((k2:Int)-1)) (Fx.ah rfl Al) ?_)))
 by_cases BX:0<=((k2:Int)-1)
 ·refine Fx.Lv (.bool true) (Fx.gV rfl rfl rfl BX) (Fx.Ln (Fx.sN (Fx.Wc (b:=true) rfl (fun _=>Fx.Wk (Fx.sN (Fx.Ws (Fx.W.block (Fx.Ws ?_))))) (fun h=>nomatch h))))
  -- region 10 draws
  refine Fx.W.bH [0,1,2,3,4,5,6,7,8,9,10,12,13,14,11,15,16,17,18,19] [0,0,0,0,0,0,0,0,0,0,0,4,0,0,0,4,0,3,0,3] Fx.Mk Fx.Mk.refl Fx.Mk.trans (aQ := [(17,11,[11]),(19,11,[11]),(17,15,[15]),(19,15,[15]),(18,17,[17]),(19,17,[17])]) (by kernel_rfl) (by kernel_rfl) (by kernel_rfl) (by kernel_rfl) (by kernel_rfl) fun jc bT fE => ?_
  have s1:Fx.Stp w3.heap.size w3 jc:=Fx.Sb bT
  have m4:=m3.bO s1 (Nat.ne_of_lt (m3.lt))
  have b4:=s1.below b3 (Nat.le_trans hB b3.size) (Nat.le_trans hB b3.size)
  refine Fx.Rp (.slice (some ⟨g,0,none⟩) (n) (cap)) (fun v1=>Fx.ah rfl h8) (Fx.Rp (.int .i64 ((a:Int))) (fun v1=>Fx.ah rfl h11) (Fx.Rp (.slice (some ⟨g,0,none⟩) (n) (cap)) (fun v1=>Fx.ah rfl h8) (Fx.Rp (.int .i64 ((a:Int))) (fun v1=>Fx.ah rfl h11) (Fx.Rp (.int .i64 ((k2:Int)-1)) (fun v1=>Fx.ah rfl Al) (Fx.Rp (.int .i64 ((a:Int)+(k2:Int)-1)) (fun v1=>Fx.aS rfl rfl rfl Fx.io) (Fx.Rp (.slice (some ⟨g,0,none⟩) (n) (cap)) (fun v1=>Fx.ah rfl h8) (Fx.Rp (.int .i64 ((a:Int))) (fun v1=>Fx.ah rfl h11) (Fx.Rp (.int .i64 ((k2:Int)-1)) (fun v1=>Fx.ah rfl Al) (Fx.Rp (.int .i64 ((a:Int)+(k2:Int)-1)) (fun v1=>Fx.aS rfl rfl rfl Fx.io) (Fx.Rp ((pf g (a+k2-1))) (fun v1=>Fx.av rfl rfl rfl Tryd.underlying53 (s:=1) (by kernel_rfl) (by omega) (by omega) (by omega)) (Fx.Rp (.slice (some ⟨g,0,none⟩) (n) (cap)) (fun v1=>Fx.ah rfl h8) (Fx.Rp (.int .i64 ((a:Int))) (fun v1=>Fx.ah rfl h11) (Fx.Rp ((pf g a)) (fun v1=>Fx.av rfl rfl rfl Tryd.underlying53 (s:=1) (by kernel_rfl) (by omega) (by omega) (by omega)) (Fx.R.s (.int .u64 ((gA dp) (a+k2-1))) (Fx.ak (x:=Fx.rv .u64 (gA dp)) rfl rfl (by kernel_rfl) m4.aL (i:=a+k2-1) (by omega) (by omega) rfl) ?_))))))))))))))
  refine Fx.R.s (.int .u64 ((gA dp) a)) (Fx.ak (x:=Fx.rv .u64 (gA dp)) rfl rfl (by kernel_rfl) m4.aL (i:=a) (by omega) (by omega) rfl) ?_
  refine Fx.Rp ((pf g a)) (fun v1=>Fx.av rfl rfl rfl Tryd.underlying53 (s:=1) (by kernel_rfl) (by omega) (by omega) (by omega)) (Fx.R.fP (by rfl) ?_)
  refine Fx.L.eU (x:=Fx.rv .u64 (gA dp)) (u := .int .u64 ((gA dp) (a+k2-1))) (by rfl) rfl rfl rfl rfl (by rfl) (by kernel_rfl) m4 (i:=a) (by omega) fun w4 m5 s2 z1 => ?_
  have b5:=s2.below b4 (Nat.le_trans hB b4.size) m4.blk.1
  refine Fx.Ln (Fx.Rp ((pf g (a+k2-1))) (fun v1=>Fx.av rfl rfl rfl Tryd.underlying53 (s:=1) (by kernel_rfl) (by omega) (by omega) (by omega)) (Fx.R.fP (by rfl) ?_))
  refine Fx.L.eU (x:=Fx.eB (Fx.rv .u64 (gA dp)) a (.int .u64 ((gA dp) (a+k2-1)))) (u := .int .u64 ((gA dp) a)) (by rfl) rfl rfl rfl rfl (by rfl) (by kernel_rfl) m5 (i:=a+k2-1) (by omega) fun w5 m6 s3 z2 => ?_
  have b6:=s3.below b5 (Nat.le_trans hB b5.size) m5.blk.1
  have m7:Fx.Own w5 B 22 1 (.slice (some ⟨g,0,none⟩) n cap) n (Fx.rv .u64 (gA (Sort.swp dp a (a+k2-1)))):=m6.congr (eO hp (by omega) (by omega))
  refine Fx.Ln (Fx.R.nil (Fx.sN (Fx.Wl (Fx.Lv (.slice (some ⟨g,0,none⟩) (n) (cap)) (Fx.ah rfl h8) (Fx.Lv (.int .i64 (0)) (Fx.ah rfl h12) (Fx.Lv (.int .i64 ((k2:Int)-1)) (Fx.ah rfl Al) (Fx.Lv (.int .i64 ((a:Int))) (Fx.ah rfl h11) (Fx.L.call (by rfl) (Fx.rC (args := [.slice (some ⟨g,0,none⟩) (n) (cap),.int .i64 (0),.int .i64 ((k2:Int)-1),.int .i64 ((a:Int))]) rfl rfl Tryd.func123 rfl rfl) rfl ((Fp 0 (k2-1) a (by omega) (by omega) (by omega) B g n cap (Sort.swp dp a (a+k2-1)) _ m7 (Nat.le_trans hB b6.size) (dz hp _ _) hs ⟨by omega,by omega⟩).mono ?_)))))))))
  rintro e9 w6 ⟨he,m8,hb2⟩
  refine⟨_,he,?_⟩
  clear he
  have b7:=b6.trans hb2
  refine Fx.Ln (Fx.dV (Fx.sN (Fx.Wl (Fx.Lv (.int .i64 ((k2:Int)-1)) (Fx.ah rfl Al) (Fx.Lv (.int .i64 ((k2:Int)-2)) (Fx.bD rfl rfl rfl Fx.io) (Fx.Lv (.int .i64 ((k2:Int)-2)) (Fx.aj rfl rfl) (Fx.Ln (Fx.kg ⟨k2-1,Sort.siftDown Sort.ltInt (k2-1) a 0 (Sort.swp dp a (a+k2-1)),(wh (by omega) _ _ _ (Nat.le_refl _) (dz hp _ _)),((Qc (x:=a+k2-1) (by omega) (by omega)).trans hP),(by omega),h8,(h9.trans Fx.ic),(h10.trans Fx.ic),(h11.trans Fx.ic),(h12.trans Fx.ic),Fx.ic,m8,b7⟩ ?_))))))))
  show(intOf ((.int .i64 ((k2:Int)-2)))+1).toNat<_
  simp only[Al,intOf]; omega
 refine Fx.Lv (.bool false) (Fx.eY rfl rfl rfl BX) (Fx.Ln (Fx.sN (Fx.Wc (b:=false) rfl (fun h=>nomatch h) (fun _=>Fx.W.exit (Fx.dQ (Fx.jC (Fx.dR (⟨.tuple #[],Fx.jS Tryd.results111,?_⟩))))))))
 obtain rfl:k2=0:=by omega
 unfold Sort.heapSort; rw[<- hm0,<- hO,show Sort.heapBuild Sort.ltInt (b-a) a 0 dk=dk from rfl,<- hP]; exact⟨rfl,m3,b3⟩
theorem Ui(a b:Nat)(B g n cap:Nat)(d:Array Int)(w:World)(h:Fx.Own w B 22 1 (.slice (some ⟨g,0,none⟩) n cap) n (Fx.rv .u64 (gA d)))(hB:B<=w.heap.size)(hn:d.size=n)(hs:n<=1000)(ha:a<b)(hb:b<=n) :
 Calls Tryd.prog 114 #[.slice (some ⟨g,0,none⟩) (n) (cap),.int .i64 ((a:Int)),.int .i64 ((b:Int))] w fun e w'=>e = .returned (.tuple #[])/\Fx.Own w' B 22 1 (.slice (some ⟨g,0,none⟩) n cap) n (Fx.rv .u64 (gA (Sort.reverseRange d a b)))/\Below B w w':=by
 refine Fx.enter Tryd.func114 rfl (n:=32) rfl (by rfl) ?_
 refine Fx.Ws (Fx.Wl (Fx.Lv (.int .i64 ((a:Int))) (Fx.ah rfl rfl) (Fx.Lv (.int .i64 ((a:Int))) (Fx.aj rfl rfl) (Fx.Ln (Fx.sN (Fx.Ws (Fx.Wl (Fx.Lv (.int .i64 ((b:Int))) (Fx.ah rfl rfl) (Fx.Lv (.int .i64 ((b:Int)-1)) (Fx.bD rfl rfl rfl Fx.io) (Fx.Lv (.int .i64 ((b:Int)-1)) (Fx.aj rfl rfl) (Fx.Ln (Fx.sN (Fx.W.block (Fx.W.loop (fun f w_ => ∃ i:Nat,∃ j:Nat,∃ dk:Array Int,dk.size=n/\(a<=i/\j<b/\i<=b)/\Sort.reverseLoop i j dk=Sort.reverseLoop a (b-1) d/\f 0 = .slice (some ⟨g,0,none⟩) (n) (cap)/\f 1 = .int .i64 ((a:Int))/\f 2 = .int .i64 ((b:Int))/\f 6 = .int .i64 ((i:Int))/\f 7 = .int .i64 ((j:Int))/\Fx.Own w_ B 22 1 (.slice (some ⟨g,0,none⟩) n cap) n (Fx.rv .u64 (gA dk))/\Below B w w_) (fun f _=>((b:Int)-intOf (f 6)).toNat) ⟨a,b-1,d,hn,(by omega),rfl,(by rfl),Fx.ic,Fx.ic,Fx.ic,Fx.ic,h,(Below.refl B w)⟩ ?_))))))))))))))
 rintro f1 w1 ⟨i,j,dk,hk,hij,hO,h1,h2,h3,h4,h5,m1,b1⟩
 refine Fx.Ws (Fx.Ws (Fx.Wl (Fx.Lv (.int .i64 ((i:Int))) (Fx.ah rfl h4) (Fx.Lv (.int .i64 ((j:Int))) (Fx.ah rfl h5) ?_))))
 by_cases c13:(i:Int)<(j:Int)
 ·refine Fx.Lv (.bool true) (Fx.eG rfl rfl rfl c13) (Fx.Ln (Fx.sN (Fx.Wc (b:=true) rfl (fun _=>Fx.Wk (Fx.sN (Fx.W.block (Fx.Ws ?_)))) (fun h=>nomatch h))))
  -- region 3 draws
  refine Fx.W.bH [0,1,2,3,4,5,6,8,9,10,7,11,12,13,14,15] [0,0,0,0,0,0,0,4,0,0,0,4,0,3,0,3] Fx.Mk Fx.Mk.refl Fx.Mk.trans (aQ := [(13,7,[7]),(15,7,[7]),(13,11,[11]),(15,11,[11]),(14,13,[13]),(15,13,[13])]) (by kernel_rfl) (by kernel_rfl) (by kernel_rfl) (by kernel_rfl) (by kernel_rfl) fun jc bT fE => ?_
  have s1:Fx.Stp w1.heap.size w1 jc:=Fx.Sb bT
  have m2:=m1.bO s1 (Nat.ne_of_lt (m1.lt))
  have b2:=s1.below b1 (Nat.le_trans hB b1.size) (Nat.le_trans hB b1.size)
  refine Fx.Rp (.slice (some ⟨g,0,none⟩) (n) (cap)) (fun v1=>Fx.ah rfl h1) (Fx.Rp (.int .i64 ((i:Int))) (fun v1=>Fx.ah rfl h4) (Fx.Rp (.slice (some ⟨g,0,none⟩) (n) (cap)) (fun v1=>Fx.ah rfl h1) (Fx.Rp (.int .i64 ((j:Int))) (fun v1=>Fx.ah rfl h5) (Fx.Rp (.slice (some ⟨g,0,none⟩) (n) (cap)) (fun v1=>Fx.ah rfl h1) (Fx.Rp (.int .i64 ((j:Int))) (fun v1=>Fx.ah rfl h5) (Fx.Rp ((pf g j)) (fun v1=>Fx.av rfl rfl rfl Tryd.underlying53 (s:=1) (by kernel_rfl) (by omega) (by omega) (by omega)) (Fx.Rp (.slice (some ⟨g,0,none⟩) (n) (cap)) (fun v1=>Fx.ah rfl h1) (Fx.Rp (.int .i64 ((i:Int))) (fun v1=>Fx.ah rfl h4) (Fx.Rp ((pf g i)) (fun v1=>Fx.av rfl rfl rfl Tryd.underlying53 (s:=1) (by kernel_rfl) (by omega) (by omega) (by omega)) (Fx.R.s (.int .u64 ((gA dk) j)) (Fx.ak (x:=Fx.rv .u64 (gA dk)) rfl rfl (by kernel_rfl) m2.aL (i:=j) (by omega) (by omega) rfl) ?_))))))))))
  refine Fx.R.s (.int .u64 ((gA dk) i)) (Fx.ak (x:=Fx.rv .u64 (gA dk)) rfl rfl (by kernel_rfl) m2.aL (i:=i) (by omega) (by omega) rfl) ?_
  refine Fx.Rp ((pf g i)) (fun v1=>Fx.av rfl rfl rfl Tryd.underlying53 (s:=1) (by kernel_rfl) (by omega) (by omega) (by omega)) (Fx.R.fP (by rfl) ?_)
  refine Fx.L.eU (x:=Fx.rv .u64 (gA dk)) (u := .int .u64 ((gA dk) j)) (by rfl) rfl rfl rfl rfl (by rfl) (by kernel_rfl) m2 (i:=i) (by omega) fun w2 m3 s2 z1 => ?_
  have b3:=s2.below b2 (Nat.le_trans hB b2.size) m2.blk.1
  refine Fx.Ln (Fx.Rp ((pf g j)) (fun v1=>Fx.av rfl rfl rfl Tryd.underlying53 (s:=1) (by kernel_rfl) (by omega) (by omega) (by omega)) (Fx.R.fP (by rfl) ?_))
  refine Fx.L.eU (x:=Fx.eB (Fx.rv .u64 (gA dk)) i (.int .u64 ((gA dk) j))) (u := .int .u64 ((gA dk) i)) (by rfl) rfl rfl rfl rfl (by rfl) (by kernel_rfl) m3 (i:=j) (by omega) fun w3 m4 s3 z2 => ?_
  have b4:=s3.below b3 (Nat.le_trans hB b3.size) m3.blk.1
  have m5:Fx.Own w3 B 22 1 (.slice (some ⟨g,0,none⟩) n cap) n (Fx.rv .u64 (gA (Sort.swp dk i j))):=m4.congr (eO hk (by omega) (by omega))
  refine Fx.Ln (Fx.R.nil (Fx.sN (Fx.Ws (Fx.Wl (Fx.Lv (.int .i64 ((i:Int))) (Fx.ah rfl h4) (Fx.Lv (.int .i64 ((i:Int)+1)) (Fx.aS rfl rfl rfl Fx.io) (Fx.Lv (.int .i64 ((i:Int)+1)) (Fx.aj rfl rfl) (Fx.Ln (Fx.sN (Fx.Wl (Fx.Lv (.int .i64 ((j:Int))) (Fx.ah rfl h5) (Fx.Lv (.int .i64 ((j:Int)-1)) (Fx.bD rfl rfl rfl Fx.io) (Fx.Lv (.int .i64 ((j:Int)-1)) (Fx.aj rfl rfl) (Fx.Ln (Fx.dV (Fx.kg ⟨i+1,j-1,Sort.swp dk i j,(dz hk _ _),(by omega),((Qd (by omega)).trans hO),h1,(h2.trans Fx.ic),(h3.trans Fx.ic),Fx.ic,Fx.ic,m5,b4⟩ ?_))))))))))))))))
  show((b:Int)-intOf ((.int .i64 ((i:Int)+1)))).toNat<_
  simp only[h4,intOf]; omega
 refine Fx.Lv (.bool false) (Fx.dX rfl rfl rfl c13) (Fx.Ln (Fx.sN (Fx.Wc (b:=false) rfl (fun h=>nomatch h) (fun _=>Fx.W.exit (Fx.dQ (Fx.jC (Fx.dR (⟨.tuple #[],Fx.jS Tryd.results114,?_⟩))))))))
 rw[Jo (by omega)]at hO; unfold Sort.reverseRange; rw[<- hO]; exact⟨rfl,m1,b1⟩
end Go.Proofs.YtahbiajdgealnaaDoor
namespace Go.Proofs.YtahbiajdgealnaaDoor
open Go.RowKit
set_option linter.unusedVariables false
namespace Fx
def bK(a b:Int):Int:=((BitVec.ofInt 64 a ^^^ BitVec.ofInt 64 b).toNat:Int)
def BZ(a b:Int):Int:=((BitVec.ofInt 64 a &&& BitVec.ofInt 64 b).toNat:Int)
def dK(a:Int)(b:Nat):Int:=IntKind.u64.wrap (a*2^b)
theorem Fq(a b:Int):0<=bK a b/\bK a b<=18446744073709551615:=by
 unfold bK; have:=(BitVec.ofInt 64 a ^^^ BitVec.ofInt 64 b).isLt; omega
theorem Am(a:Int){b:Int}(h:0<=b)(h2:b<=18446744073709551615):0<=BZ a b/\BZ a b<=b:=by
 unfold BZ
 rw[BitVec.toNat_and]
 have h3:(BitVec.ofInt 64 b).toNat=b.toNat:=by rw[BitVec.toNat_ofInt]; omega
 have:=Nat.and_le_right (n:=(BitVec.ofInt 64 a).toNat) (m:=(BitVec.ofInt 64 b).toNat)
 omega
section
variable {P:Program} {f:Nat->Value} {w:World} {o:Oper}
theorem Jt{T T':TypeId}{x y:Operand}{a b:Int}(ho:o.op = .binOp .xor T x y T')(hx:ev f x = .int .u64 a)(hy:ev f y = .int .u64 b):Runs P f o w (.int .u64 (bK a b)) :=
 mJ ho hx hy (by
  have h:=rX (Fq a b) rfl
  simp only[binOp,Op.intBits]
  show(pure (Value.int .u64 (IntKind.u64.wrap (bK a b))):Sem Value).run P w=_
  rw[h]; rfl)
theorem Uj{T T':TypeId}{x y:Operand}{a b:Int}(ho:o.op = .binOp .and T x y T')(hx:ev f x = .int .u64 a)(hy:ev f y = .int .u64 b)(h0:0<=b)(h1:b<=18446744073709551615):Runs P f o w (.int .u64 (BZ a b)) :=
 mJ ho hx hy (by
  have h2:=Am a h0 h1
  have h:=rX (c:=BZ a b) ⟨h2.1,by omega⟩ rfl
  simp only[binOp,Op.intBits]
  show(pure (Value.int .u64 (IntKind.u64.wrap (BZ a b))):Sem Value).run P w=_
  rw[h]; rfl)
theorem Qh{T:TypeId}{x i:Operand}{s:ByteArray}{j:Nat}(ho:o.op = .index T x i)(hx:ev f x = .string s)(hi:ev f i = .int .u8 (j:Int))(hu:P.underlying T=some .string)(hj:j<64)
 (ht : ∀ q,q<64->(s[q]?).map (·.toNat)=some (Sort.bitsLen q)):Runs P f o w (.int .u8 (Sort.bitsLen j:Int)):=by
 obtain⟨b,h1,h2⟩:=Option.map_eq_some_iff.1 (ht j hj)
 unfold Runs execOp
 simp only[ho,hx,hi]
 simp[Instr.index,asIntOf,underlying,hu,h1,h2]
end
end Fx
theorem Rt.Fu{n:Nat}(h:n<64):Sort.bitsLen n<=6:=(Sort.bitsLen_le_iff _ _).2 (by omega)
end Go.Proofs.YtahbiajdgealnaaDoor
namespace Go.Proofs.YtahbiajdgealnaaDoor
open Go.RowKit
open Rt
set_option maxRecDepth 10000
theorem Ml(n:Nat)(w:World)(hn:n<64) :
 Calls Tryd.prog 83 #[.int .u64 ((n:Int))] w fun e w'=>e = .returned (.int .i64 (Sort.bitsLen n:Int))/\w'=w:=by
 have hbl:=Fu hn
 refine Fx.enter Tryd.func83 rfl (n:=25) rfl (by rfl) ?_
 refine Fx.Ws (Fx.Wl (Fx.Lv (.int .i64 (0)) (Fx.aj rfl rfl) (Fx.Ln (Fx.sN (Fx.Ws (Fx.Ws (Fx.Wl (Fx.Lv (.int .u64 ((n:Int))) (Fx.ah rfl rfl) (Fx.Lv (.bool false) (Fx.eY rfl rfl rfl (by omega)) (Fx.Ln (Fx.sN (Fx.Wc (b:=false) rfl (fun h=>nomatch h) (fun _=>Fx.Wk (Fx.sN (Fx.Ws (Fx.Ws (Fx.Wl (Fx.Lv (.int .u64 ((n:Int))) (Fx.ah rfl rfl) (Fx.Lv (.bool false) (Fx.eY rfl rfl rfl (by omega)) (Fx.Ln (Fx.sN (Fx.Wc (b:=false) rfl (fun h=>nomatch h) (fun _=>Fx.Wk (Fx.sN (Fx.Ws (Fx.Ws (Fx.Wl (Fx.Lv (.int .u64 ((n:Int))) (Fx.ah rfl rfl) (Fx.Lv (.bool false) (Fx.eY rfl rfl rfl (by omega)) (Fx.Ln (Fx.sN (Fx.Wc (b:=false) rfl (fun h=>nomatch h) (fun _=>Fx.Wk (Fx.sN (Fx.Ws (Fx.Wl (Fx.Lv (.int .i64 (0)) (Fx.ah rfl rfl) (Fx.Lv (.int .u64 ((n:Int))) (Fx.ah rfl rfl) (Fx.Lv (.int .u8 ((n:Int))) (Fx.eZ rfl rfl (by kernel_rfl) Tryd.underlying5 (Fx.u8e (by omega) rfl)) (Fx.Lv (.int .u8 ((Sort.bitsLen n:Int))) (Fx.Qh rfl rfl rfl Tryd.underlying9 hn (by decide +kernel)) (Fx.Lv (.int .i64 ((Sort.bitsLen n:Int))) (Fx.eZ rfl rfl (by kernel_rfl) Tryd.underlying3 (Fx.wQ (by omega) rfl)) (Fx.Lv (.int .i64 (0+(Sort.bitsLen n:Int))) (Fx.aS rfl rfl rfl Fx.io) (Fx.Lv (.int .i64 (0+(Sort.bitsLen n:Int))) (Fx.aj rfl rfl) (Fx.Ln (Fx.sN (Fx.Wr (⟨.int .i64 (0+(Sort.bitsLen n:Int)),Fx.rV Tryd.results83 (by exact rfl),?_⟩)))))))))))))))))))))))))))))))))))))))))))))))
 exact⟨by rw[Int.zero_add],rfl⟩
theorem Ju(n:Nat)(w:World)(hn:n<64) :
 Calls Tryd.prog 54 #[.int .u64 ((n:Int))] w fun e w'=>e = .returned (.int .i64 (Sort.bitsLen n:Int))/\w'=w:=by
 have hbl:=Fu hn
 refine Fx.enter Tryd.func54 rfl (n:=8) rfl (by rfl) ?_
 refine Fx.Ws (Fx.Wl (Fx.Lv (.int .i64 (0)) (Fx.aj rfl rfl) (Fx.Ln (Fx.sN (Fx.Ws (Fx.Wc (b:=false) rfl (fun h=>nomatch h) (fun _=>Fx.Wk (Fx.sN (Fx.Ws (Fx.Wl (Fx.Lv (.int .u64 ((n:Int))) (Fx.ah rfl rfl) (Fx.L.call (by rfl) (Fx.rC (args := [.int .u64 ((n:Int))]) rfl rfl Tryd.func83 rfl rfl) rfl ((Ml n _ hn).mono ?_)))))))))))))
 rintro e v1 ⟨he,hv1⟩
 subst v1
 refine⟨.int .i64 ((Sort.bitsLen n:Int)),by rw[he],?_⟩
 clear he
 refine Fx.Lv (.int .i64 ((Sort.bitsLen n:Int))) (Fx.aj rfl rfl) (Fx.Ln (Fx.sN (Fx.Wr (⟨.int .i64 ((Sort.bitsLen n:Int)),Fx.rV Tryd.results54 (by exact rfl),?_⟩))))
 exact⟨rfl,rfl⟩
theorem Uk(n m:Nat)(w:World)(hn:n<64)(h0:0<n)(hm:m=2^Sort.bitsLen n) :
 Calls Tryd.prog 101 #[.int .i64 ((n:Int))] w fun e w'=>e = .returned (.int .u64 (m:Int))/\w'=w:=by
 have hbl:=Fu hn
 have hm2:=Sort.two_pow_bitsLen_le h0
 rw[<- hm]at hm2
 refine Fx.enter Tryd.func101 rfl (n:=7) rfl (by rfl) ?_
 refine Fx.Ws (Fx.Wl (Fx.Lv (.int .u64 (0)) (Fx.aj rfl rfl) (Fx.Ln (Fx.sN (Fx.Ws (Fx.Wl (Fx.Lv (.int .i64 ((n:Int))) (Fx.ah rfl rfl) (Fx.Lv (.int .u64 ((n:Int))) (Fx.eZ rfl rfl (by kernel_rfl) Tryd.underlying130 (Fx.rX (by omega) rfl)) (Fx.L.call (by rfl) (Fx.rC (args := [.int .u64 ((n:Int))]) rfl rfl Tryd.func54 rfl rfl) rfl ((Ju n _ (by omega)).mono ?_))))))))))
 rintro e v1 ⟨he,hv1⟩
 subst v1
 refine⟨.int .i64 ((Sort.bitsLen n:Int)),by rw[he],?_⟩
 clear he
 refine Fx.Lv (.int .u64 ((m:Int))) (Fx.Fe (b:=Sort.bitsLen n) rfl rfl rfl (show _<=64 by omega) (Fx.rX (by omega) (by rw[hm]; simp))) (Fx.Lv (.int .u64 ((m:Int))) (Fx.aj rfl rfl) (Fx.Ln (Fx.sN (Fx.Wr (⟨.int .u64 ((m:Int)),Fx.rV Tryd.results101 (by exact rfl),?_⟩)))))
 exact⟨rfl,rfl⟩
theorem Qi(rb:Nat)(r:Int)(w:World)(h:Fx.aP w rb 1 (fun _ => .int .u64 r) 165) :
 Calls Tryd.prog 102 #[(pt rb)] w fun e w' => ∃ r2,e = .returned (.int .u64 r2)/\(0<=r2/\r2<=18446744073709551615)/\Fx.Stp rb w w'/\Fx.aP w' rb 1 (fun _ => .int .u64 r2) 165:=by
 refine Fx.enter Tryd.func102 rfl (n:=33) rfl (by rfl) ?_
 refine Fx.Ws (Fx.Wl (Fx.Lv (.int .u64 (0)) (Fx.aj rfl rfl) (Fx.Ln (Fx.sN (Fx.Ws ?_)))))
 -- region 1 draws
 refine Fx.W.bH [0,1,3,4,2,5,6,7,8,9] [0,0,4,0,0,4,0,0,0,3] Fx.Mk Fx.Mk.refl Fx.Mk.trans (aQ := [(9,2,[2]),(9,5,[5])]) (by kernel_rfl) (by kernel_rfl) (by kernel_rfl) (by kernel_rfl) (by kernel_rfl) fun jc bT fE => ?_
 have s1:Fx.Stp w.heap.size w jc:=Fx.Sb bT
 have m1:=h.aC s1 h.ne
 have b1:=(Fx.Stp.refl rb w).then s1 (.inr (Fx.Stp.refl rb w).size)
 refine Fx.Rp ((pt rb)) (fun v1=>Fx.ah rfl rfl) (Fx.Rp ((pt rb)) (fun v1=>Fx.aO rfl rfl) (Fx.Rp ((pt rb)) (fun v1=>Fx.ah rfl rfl) (Fx.Rp ((pt rb)) (fun v1=>Fx.aO rfl rfl) (Fx.R.s (.int .u64 (r)) (Fx.ak (x:=fun _ => .int .u64 r) rfl rfl (by kernel_rfl) m1.aL (i:=0) (by omega) (by omega) rfl) ?_))))
 refine Fx.R.s (.int .u64 (r)) (Fx.ak (x:=fun _ => .int .u64 r) rfl rfl (by kernel_rfl) m1.aL (i:=0) (by omega) (by omega) rfl) ?_
 refine Fx.Rp (.int .u64 (Fx.dK r 13)) (fun v1=>Fx.Fe (b:=13) rfl rfl rfl (by decide) rfl) (Fx.Rp (.int .u64 (Fx.bK r (Fx.dK r 13))) (fun v1=>Fx.Jt rfl rfl rfl) (Fx.Rp ((pt rb)) (fun v1=>Fx.aO rfl rfl) (Fx.R.fP (by rfl) ?_)))
 refine Fx.L.bV (x:=fun _ => .int .u64 r) (u := .int .u64 (Fx.bK r (Fx.dK r 13))) (by rfl) rfl rfl rfl rfl (by rfl) (by kernel_rfl) m1 (i:=0) (by omega) fun w1 m2 s2 z1 => ?_
 have m3:Fx.aP w1 rb 1 (fun _ => .int .u64 (Fx.bK r (Fx.dK r 13))) 165:=Fx.je m2
 have b2:=b1.then s2 (by omega)
 refine Fx.Ln (Fx.R.nil (Fx.sN (Fx.Ws ?_)))
 -- region 2 draws
 refine Fx.W.bH [0,1,3,4,2,5,6,7,8,9] [0,0,4,0,0,4,0,0,0,3] Fx.Mk Fx.Mk.refl Fx.Mk.trans (aQ := [(9,2,[2]),(9,5,[5])]) (by kernel_rfl) (by kernel_rfl) (by kernel_rfl) (by kernel_rfl) (by kernel_rfl) fun sI fU mR => ?_
 have s3:Fx.Stp w1.heap.size w1 sI:=Fx.Sb fU
 have m4:=m3.aC s3 m3.ne
 have b3:=b2.then s3 (.inr b2.size)
 refine Fx.Rp ((pt rb)) (fun v1=>Fx.ah rfl rfl) (Fx.Rp ((pt rb)) (fun v1=>Fx.aO rfl rfl) (Fx.Rp ((pt rb)) (fun v1=>Fx.ah rfl rfl) (Fx.Rp ((pt rb)) (fun v1=>Fx.aO rfl rfl) (Fx.R.s (.int .u64 (Fx.bK r (Fx.dK r 13))) (Fx.ak (x:=fun _ => .int .u64 (Fx.bK r (Fx.dK r 13))) rfl rfl (by kernel_rfl) m4.aL (i:=0) (by omega) (by omega) rfl) ?_))))
 refine Fx.R.s (.int .u64 (Fx.bK r (Fx.dK r 13))) (Fx.ak (x:=fun _ => .int .u64 (Fx.bK r (Fx.dK r 13))) rfl rfl (by kernel_rfl) m4.aL (i:=0) (by omega) (by omega) rfl) ?_
 refine Fx.Rp (.int .u64 ((Fx.bK r (Fx.dK r 13)) / 128)) (fun v1=>Fx.TQ (b:=7) (q:=128) rfl rfl rfl (by decide) (by decide)) (Fx.Rp (.int .u64 (Fx.bK (Fx.bK r (Fx.dK r 13)) ((Fx.bK r (Fx.dK r 13)) / 128))) (fun v1=>Fx.Jt rfl rfl rfl) (Fx.Rp ((pt rb)) (fun v1=>Fx.aO rfl rfl) (Fx.R.fP (by rfl) ?_)))
 refine Fx.L.bV (x:=fun _ => .int .u64 (Fx.bK r (Fx.dK r 13))) (u := .int .u64 (Fx.bK (Fx.bK r (Fx.dK r 13)) ((Fx.bK r (Fx.dK r 13)) / 128))) (by rfl) rfl rfl rfl rfl (by rfl) (by kernel_rfl) m4 (i:=0) (by omega) fun w2 m5 s4 z2 => ?_
 have m6:Fx.aP w2 rb 1 (fun _ => .int .u64 (Fx.bK (Fx.bK r (Fx.dK r 13)) ((Fx.bK r (Fx.dK r 13)) / 128))) 165:=Fx.je m5
 have b4:=b3.then s4 (by omega)
 refine Fx.Ln (Fx.R.nil (Fx.sN (Fx.Ws ?_)))
 -- region 3 draws
 refine Fx.W.bH [0,1,3,4,2,5,6,7,8,9] [0,0,4,0,0,4,0,0,0,3] Fx.Mk Fx.Mk.refl Fx.Mk.trans (aQ := [(9,2,[2]),(9,5,[5])]) (by kernel_rfl) (by kernel_rfl) (by kernel_rfl) (by kernel_rfl) (by kernel_rfl) fun GU oV BS => ?_
 have s5:Fx.Stp w2.heap.size w2 GU:=Fx.Sb oV
 have m7:=m6.aC s5 m6.ne
 have b5:=b4.then s5 (.inr b4.size)
 refine Fx.Rp ((pt rb)) (fun v1=>Fx.ah rfl rfl) (Fx.Rp ((pt rb)) (fun v1=>Fx.aO rfl rfl) (Fx.Rp ((pt rb)) (fun v1=>Fx.ah rfl rfl) (Fx.Rp ((pt rb)) (fun v1=>Fx.aO rfl rfl) (Fx.R.s (.int .u64 (Fx.bK (Fx.bK r (Fx.dK r 13)) ((Fx.bK r (Fx.dK r 13)) / 128))) (Fx.ak (x:=fun _ => .int .u64 (Fx.bK (Fx.bK r (Fx.dK r 13)) ((Fx.bK r (Fx.dK r 13)) / 128))) rfl rfl (by kernel_rfl) m7.aL (i:=0) (by omega) (by omega) rfl) ?_))))
 refine Fx.R.s (.int .u64 (Fx.bK (Fx.bK r (Fx.dK r 13)) ((Fx.bK r (Fx.dK r 13)) / 128))) (Fx.ak (x:=fun _ => .int .u64 (Fx.bK (Fx.bK r (Fx.dK r 13)) ((Fx.bK r (Fx.dK r 13)) / 128))) rfl rfl (by kernel_rfl) m7.aL (i:=0) (by omega) (by omega) rfl) ?_
 refine Fx.Rp (.int .u64 (Fx.dK (Fx.bK (Fx.bK r (Fx.dK r 13)) ((Fx.bK r (Fx.dK r 13)) / 128)) 17)) (fun v1=>Fx.Fe (b:=17) rfl rfl rfl (by decide) rfl) (Fx.Rp (.int .u64 (Fx.bK (Fx.bK (Fx.bK r (Fx.dK r 13)) ((Fx.bK r (Fx.dK r 13)) / 128)) (Fx.dK (Fx.bK (Fx.bK r (Fx.dK r 13)) ((Fx.bK r (Fx.dK r 13)) / 128)) 17))) (fun v1=>Fx.Jt rfl rfl rfl) (Fx.Rp ((pt rb)) (fun v1=>Fx.aO rfl rfl) (Fx.R.fP (by rfl) ?_)))
 refine Fx.L.bV (x:=fun _ => .int .u64 (Fx.bK (Fx.bK r (Fx.dK r 13)) ((Fx.bK r (Fx.dK r 13)) / 128))) (u := .int .u64 (Fx.bK (Fx.bK (Fx.bK r (Fx.dK r 13)) ((Fx.bK r (Fx.dK r 13)) / 128)) (Fx.dK (Fx.bK (Fx.bK r (Fx.dK r 13)) ((Fx.bK r (Fx.dK r 13)) / 128)) 17))) (by rfl) rfl rfl rfl rfl (by rfl) (by kernel_rfl) m7 (i:=0) (by omega) fun w3 m8 s6 z3 => ?_
 have m9:Fx.aP w3 rb 1 (fun _ => .int .u64 (Fx.bK (Fx.bK (Fx.bK r (Fx.dK r 13)) ((Fx.bK r (Fx.dK r 13)) / 128)) (Fx.dK (Fx.bK (Fx.bK r (Fx.dK r 13)) ((Fx.bK r (Fx.dK r 13)) / 128)) 17))) 165:=Fx.je m8
 have b6:=b5.then s6 (by omega)
 refine Fx.Ln (Fx.R.nil (Fx.sN (Fx.Ws (Fx.Wl (Fx.Lv ((pt rb)) (Fx.ah rfl rfl) (Fx.Lv ((pt rb)) (Fx.aO rfl rfl) (Fx.Lv (.int .u64 (Fx.bK (Fx.bK (Fx.bK r (Fx.dK r 13)) ((Fx.bK r (Fx.dK r 13)) / 128)) (Fx.dK (Fx.bK (Fx.bK r (Fx.dK r 13)) ((Fx.bK r (Fx.dK r 13)) / 128)) 17))) (Fx.ak (x:=fun _ => .int .u64 (Fx.bK (Fx.bK (Fx.bK r (Fx.dK r 13)) ((Fx.bK r (Fx.dK r 13)) / 128)) (Fx.dK (Fx.bK (Fx.bK r (Fx.dK r 13)) ((Fx.bK r (Fx.dK r 13)) / 128)) 17))) rfl rfl (by kernel_rfl) m9.aL (i:=0) (by omega) (by omega) rfl) (Fx.Lv (.int .u64 (Fx.bK (Fx.bK (Fx.bK r (Fx.dK r 13)) ((Fx.bK r (Fx.dK r 13)) / 128)) (Fx.dK (Fx.bK (Fx.bK r (Fx.dK r 13)) ((Fx.bK r (Fx.dK r 13)) / 128)) 17))) (Fx.aj rfl rfl) (Fx.Ln (Fx.sN (Fx.Wr (⟨.int .u64 (Fx.bK (Fx.bK (Fx.bK r (Fx.dK r 13)) ((Fx.bK r (Fx.dK r 13)) / 128)) (Fx.dK (Fx.bK (Fx.bK r (Fx.dK r 13)) ((Fx.bK r (Fx.dK r 13)) / 128)) 17)),Fx.rV Tryd.results102 (by exact rfl),?_⟩))))))))))))
 exact⟨_,rfl,Fx.Fq _ _,b6,m9⟩
end Go.Proofs.YtahbiajdgealnaaDoor
namespace Go.Proofs.YtahbiajdgealnaaDoor
open Go.RowKit
open Rt
set_option maxRecDepth 10000
theorem Qj{nI:Int}(n m:Nat)(w:World)(e:nI=(n:Int))(hn:n<64)(h0:0<n)(hm:m=2^Sort.bitsLen n):Calls Tryd.prog 101 #[.int .i64 (nI)] w fun e w'=>e = .returned (.int .u64 (m:Int))/\w'=w:=by
 subst e; exact Uk n m w hn h0 hm
theorem Ul(a b:Nat)(B g n cap:Nat)(d:Array Int)(w:World)(h:Fx.Own w B 22 1 (.slice (some ⟨g,0,none⟩) n cap) n (Fx.rv .u64 (gA d)))(hB:B<=w.heap.size)(hn:d.size=n)(hs:n<=1000)(ha:a<b)(hb:b<=n)(h50:n<50) :
 Calls Tryd.prog 112 #[.slice (some ⟨g,0,none⟩) (n) (cap),.int .i64 ((a:Int)),.int .i64 ((b:Int))] w fun e w' => ∃ d2:Array Int,e = .returned (.tuple #[])/\d2.size=n/\Sort.PermIn a b d d2/\Fx.Own w' B 22 1 (.slice (some ⟨g,0,none⟩) n cap) n (Fx.rv .u64 (gA d2))/\Below B w w':=by
 obtain⟨q0,hq0⟩ : ∃ q0,q0=(b-a) / 4:=⟨_,rfl⟩
 refine Fx.enter Tryd.func112 rfl (n:=65) rfl (by rfl) ?_
 refine Fx.Ws (Fx.Wl (Fx.Lv (.int .i64 ((b:Int))) (Fx.ah rfl rfl) (Fx.Lv (.int .i64 ((a:Int))) (Fx.ah rfl rfl) (Fx.Lv (.int .i64 ((b:Int)-(a:Int))) (Fx.bD rfl rfl rfl Fx.io) (Fx.Lv (.int .i64 ((b:Int)-(a:Int))) (Fx.aj rfl rfl) (Fx.Ln (Fx.sN (Fx.Ws (Fx.Wl (Fx.Lv (.int .i64 ((b:Int)-(a:Int))) (Fx.ah rfl rfl) ?_))))))))))
 by_cases c15:8<=((b:Int)-(a:Int))
 ·refine Fx.Lv (.bool true) (Fx.gV rfl rfl rfl c15) (Fx.Ln (Fx.sN (Fx.Wc (b:=true) rfl (fun _=>Fx.Ws (Fx.Wl (Fx.Lv (.int .i64 ((b:Int)-(a:Int))) (Fx.ah rfl rfl) ?_))) (fun h=>nomatch h))))
  refine Fx.Lv (.int .u64 ((b:Int)-(a:Int))) (Fx.eZ rfl rfl (by kernel_rfl) Tryd.underlying165 (Fx.rX (by omega) rfl)) (Fx.L.new (m:=1) (y:=Fx.rv .u64 (fun _=>0)) (by rfl) rfl (by kernel_rfl) rfl fun g1 w1 aZ m1 s1 z1 => ?_)
  have m2:=h.bO s1 (Nat.ne_of_lt (h.lt))
  have b1:=s1.below (Below.refl B w) (Nat.le_trans hB (Below.refl B w).size) (Nat.le_trans hB (Below.refl B w).size)
  have kM:w.heap.size<=g1:=by rw[aZ]; exact(Below.refl B w).size
  have jk:g≠g1:=by rw[aZ]; exact Nat.ne_of_lt (h.lt)
  have mO:g1<w1.heap.size:=m1.lt
  clear aZ
  refine Fx.L.bV (x:=Fx.rv .u64 (fun _=>0)) (u := .int .u64 ((b:Int)-(a:Int))) (by rfl) rfl rfl rfl rfl (by rfl) (by kernel_rfl) m1 (i:=0) (by omega) fun w2 m3 s2 z2 => ?_
  have m4:Fx.aP w2 g1 1 (fun _ => .int .u64 ((b:Int)-(a:Int))) 165:=Fx.je m3
  have aT:=Fx.gD.bP s2 m1.ty
  have m5:=m2.aU aT (by decide)
  have b2:=s2.below b1 (Nat.le_trans hB b1.size) (by omega)
  refine Fx.Ln (Fx.sN (Fx.Ws (Fx.Wl (Fx.Lv (.int .i64 ((b:Int)-(a:Int))) (Fx.ah rfl rfl) ?_))))
  obtain⟨m,hm⟩ : ∃ m,m=2^Sort.bitsLen (b-a):=⟨_,rfl⟩
  have hm2:=Sort.two_pow_bitsLen_le (show 0<b-a by omega)
  have Xf:=Sort.lt_two_pow_bitsLen (b-a)
  rw[<- hm]at hm2 Xf
  refine Fx.L.call (by rfl) (Fx.rC (args := [.int .i64 ((b:Int)-(a:Int))]) rfl rfl Tryd.func101 rfl rfl) rfl ((Qj (b-a) m _ (by omega) (by omega) (by omega) hm).mono ?_)
  rintro e v1 ⟨he,hv1⟩
  subst v1
  refine⟨.int .u64 ((m:Int)),by rw[he],?_⟩
  clear he
  refine Fx.Lv (.int .u64 ((m:Int))) (Fx.aj rfl rfl) (Fx.Ln (Fx.sN (Fx.Ws (Fx.Wl (Fx.Lv (.int .i64 ((a:Int))) (Fx.ah rfl rfl) (Fx.Lv (.int .i64 ((b:Int)-(a:Int))) (Fx.ah rfl rfl) (Fx.Lv (.int .i64 ((q0:Int))) (Fx.uU rfl rfl rfl (by omega) (Fx.wQ (by omega) (by rw[Int.tdiv_eq_ediv_of_nonneg (by omega)]; omega))) (Fx.Lv (.int .i64 ((q0:Int)*2)) (Fx.yT rfl rfl rfl Fx.io) (Fx.Lv (.int .i64 ((a:Int)+2*(q0:Int))) (Fx.aS rfl rfl rfl Fx.io) (Fx.Lv (.int .i64 ((a:Int)+2*(q0:Int)-1)) (Fx.bD rfl rfl rfl Fx.io) (Fx.Lv (.int .i64 ((a:Int)+2*(q0:Int)-1)) (Fx.aj rfl rfl) (Fx.Ln (Fx.sN (Fx.W.block (Fx.W.loop (fun f w_ => ∃ ix:Nat,∃ rr:Int,∃ dk:Array Int,dk.size=n/\Sort.PermIn a b d dk/\(a+2*q0<=ix+1/\ix<=a+2*q0+2)/\f 0 = .slice (some ⟨g,0,none⟩) (n) (cap)/\f 1 = .int .i64 ((a:Int))/\f 2 = .int .i64 ((b:Int))/\f 6 = .int .i64 ((b:Int)-(a:Int))/\f 7=(pt g1)/\f 8 = .int .u64 ((m:Int))/\f 9 = .int .i64 ((ix:Int))/\Fx.Own w_ B 22 1 (.slice (some ⟨g,0,none⟩) n cap) n (Fx.rv .u64 (gA dk))/\Fx.aP w_ g1 1 (fun _ => .int .u64 rr) 165/\Below B w w_) (fun f _=>((a:Int)+2*q0+2-intOf (f 9)).toNat) ⟨a+2*q0-1,((b:Int)-(a:Int)),d,hn,(Sort.permIn_refl _ _ _),(by omega),(by rfl),Fx.ic,Fx.ic,Fx.ic,(by rfl),Fx.ic,Fx.ic,m5,m4,b2⟩ ?_)))))))))))))))
  rintro f1 w3 ⟨ix,rr,dk,hk,hP,hix,h1,h2,h3,h4,h5,h6,h7,m6,m7,b3⟩
  refine Fx.Ws (Fx.Ws (Fx.Wl (Fx.Lv (.int .i64 ((ix:Int))) (Fx.ah rfl h7) (Fx.Lv (.int .i64 ((a:Int))) (Fx.ah rfl h2) (Fx.Lv (.int .i64 ((b:Int)-(a:Int))) (Fx.ah rfl h4) (Fx.Lv (.int .i64 ((q0:Int))) (Fx.uU rfl rfl rfl (by omega) (Fx.wQ (by omega) (by rw[Int.tdiv_eq_ediv_of_nonneg (by omega)]; omega))) (Fx.Lv (.int .i64 ((q0:Int)*2)) (Fx.yT rfl rfl rfl Fx.io) (Fx.Lv (.int .i64 ((a:Int)+2*(q0:Int))) (Fx.aS rfl rfl rfl Fx.io) (Fx.Lv (.int .i64 ((a:Int)+2*(q0:Int)+1)) (Fx.aS rfl rfl rfl Fx.io) ?_)))))))))
  by_cases Mq:(ix:Int)<=((a:Int)+2*(q0:Int)+1)
  ·refine Fx.Lv (.bool true) (Fx.gU rfl rfl rfl Mq) (Fx.Ln (Fx.sN (Fx.Wc (b:=true) rfl (fun _=>Fx.Wk (Fx.sN (Fx.Ws (Fx.W.block (Fx.Ws (Fx.Wl (Fx.L.call (by rfl) (Fx.rC (args := [(pt g1)]) rfl (Fx.args1 h5) Tryd.func102 rfl rfl) rfl ((Qi g1 rr _ m7).mono ?_)))))))) (fun h=>nomatch h))))
   rintro e9 w4 ⟨r1,he,hr1,s3,m8⟩
   refine⟨_,he,?_⟩
   clear he
   have dL:=Fx.gD.bP s3 m7.ty
   have m9:=m6.aU dL (by decide)
   have b4:=s3.below b3 (Nat.le_trans hB b3.size) (by omega)
   refine Fx.Lv (.int .u64 ((m:Int))) (Fx.ah rfl h6) (Fx.Lv (.int .u64 ((m:Int)-1)) (Fx.bD rfl rfl rfl (Fx.rX (by omega) (by omega))) ?_)
   obtain⟨o1,ho1,ko1⟩ : ∃ o1:Nat,(o1:Int)=Fx.BZ r1 ((m:Int)-1)/\(o1:Int)<=(m:Int)-1:=⟨(Fx.BZ r1 ((m:Int)-1)).toNat,by have:=Fx.Am r1 (show 0<=(m:Int)-1 by omega) (by omega); omega,by have:=Fx.Am r1 (show 0<=(m:Int)-1 by omega) (by omega); omega⟩
   refine Fx.Lv (.int .u64 ((o1:Int))) ((by rw[ho1]; exact Fx.Uj rfl rfl rfl (by omega) (by omega))) (Fx.Lv (.int .i64 ((o1:Int))) (Fx.eZ rfl rfl (by kernel_rfl) Tryd.underlying3 (Fx.wQ (by omega) rfl)) (Fx.Lv (.int .i64 ((o1:Int))) (Fx.aj rfl rfl) (Fx.Ln (Fx.sN (Fx.Ws (Fx.Ws (Fx.Wl (Fx.Lv (.int .i64 ((o1:Int))) (Fx.ah rfl rfl) (Fx.Lv (.int .i64 ((b:Int)-(a:Int))) (Fx.ah rfl h4) ?_)))))))))
   by_cases c43:((b:Int)-(a:Int))<=(o1:Int)
   ·refine Fx.Lv (.bool true) (Fx.gV rfl rfl rfl c43) (Fx.Ln (Fx.sN (Fx.Wc (b:=true) rfl (fun _=>Fx.Wl (Fx.Lv (.int .i64 ((o1:Int))) (Fx.ah rfl rfl) ?_)) (fun h=>nomatch h))))
    refine Fx.Lv (.int .i64 ((b:Int)-(a:Int))) (Fx.ah rfl h4) (Fx.Lv (.int .i64 ((a:Int)+(o1:Int)-(b:Int))) (Fx.bD rfl rfl rfl Fx.io) (Fx.Lv (.int .i64 ((a:Int)+(o1:Int)-(b:Int))) (Fx.aj rfl rfl) (Fx.Ln (Fx.sN ?_))))
    -- region 10 draws
    refine Fx.W.bH [0,1,2,3,4,5,6,7,8,9,10,12,13,14,11,15,16,17,18,19] [0,0,0,0,0,0,0,0,0,0,0,4,0,0,0,4,0,3,0,3] Fx.Mk Fx.Mk.refl Fx.Mk.trans (aQ := [(17,11,[11]),(19,11,[11]),(17,15,[15]),(19,15,[15]),(18,17,[17]),(19,17,[17])]) (by kernel_rfl) (by kernel_rfl) (by kernel_rfl) (by kernel_rfl) (by kernel_rfl) fun jc bT fE => ?_
    have s4:Fx.Stp w4.heap.size w4 jc:=Fx.Sb bT
    have m10:=m9.bO s4 (Nat.ne_of_lt (m9.lt))
    have m11:=m8.aC s4 m8.ne
    have b5:=s4.below b4 (Nat.le_trans hB b4.size) (Nat.le_trans hB b4.size)
    refine Fx.Rp (.slice (some ⟨g,0,none⟩) (n) (cap)) (fun v1=>Fx.ah rfl h1) (Fx.Rp (.int .i64 ((ix:Int))) (fun v1=>Fx.ah rfl h7) (Fx.Rp (.slice (some ⟨g,0,none⟩) (n) (cap)) (fun v1=>Fx.ah rfl h1) (Fx.Rp (.int .i64 ((a:Int))) (fun v1=>Fx.ah rfl h2) (Fx.Rp (.int .i64 ((a:Int)+(o1:Int)-(b:Int))) (fun v1=>Fx.ah rfl rfl) (Fx.Rp (.int .i64 (2*(a:Int)+(o1:Int)-(b:Int))) (fun v1=>Fx.aS rfl rfl rfl Fx.io) (Fx.Rp (.slice (some ⟨g,0,none⟩) (n) (cap)) (fun v1=>Fx.ah rfl h1) (Fx.Rp (.int .i64 ((a:Int))) (fun v1=>Fx.ah rfl h2) (Fx.Rp (.int .i64 ((a:Int)+(o1:Int)-(b:Int))) (fun v1=>Fx.ah rfl rfl) (Fx.Rp (.int .i64 (2*(a:Int)+(o1:Int)-(b:Int))) (fun v1=>Fx.aS rfl rfl rfl Fx.io) (Fx.Rp ((pf g (2*a+o1-b))) (fun v1=>Fx.av rfl rfl rfl Tryd.underlying53 (s:=1) (by kernel_rfl) (by omega) (by omega) (by omega)) (Fx.Rp (.slice (some ⟨g,0,none⟩) (n) (cap)) (fun v1=>Fx.ah rfl h1) (Fx.Rp (.int .i64 ((ix:Int))) (fun v1=>Fx.ah rfl h7) (Fx.Rp ((pf g ix)) (fun v1=>Fx.av rfl rfl rfl Tryd.underlying53 (s:=1) (by kernel_rfl) (by omega) (by omega) (by omega)) (Fx.R.s (.int .u64 ((gA dk) (2*a+o1-b))) (Fx.ak (x:=Fx.rv .u64 (gA dk)) rfl rfl (by kernel_rfl) m10.aL (i:=2*a+o1-b) (by omega) (by omega) rfl) ?_))))))))))))))
    refine Fx.R.s (.int .u64 ((gA dk) ix)) (Fx.ak (x:=Fx.rv .u64 (gA dk)) rfl rfl (by kernel_rfl) m10.aL (i:=ix) (by omega) (by omega) rfl) ?_
    refine Fx.Rp ((pf g ix)) (fun v1=>Fx.av rfl rfl rfl Tryd.underlying53 (s:=1) (by kernel_rfl) (by omega) (by omega) (by omega)) (Fx.R.fP (by rfl) ?_)
    refine Fx.L.eU (x:=Fx.rv .u64 (gA dk)) (u := .int .u64 ((gA dk) (2*a+o1-b))) (by rfl) rfl rfl rfl rfl (by rfl) (by kernel_rfl) m10 (i:=ix) (by omega) fun w5 m12 s5 z3 => ?_
    have mo:=Fx.gD.bP s5 m10.V4
    have m13:=m11.aU mo (by decide)
    have b6:=s5.below b5 (Nat.le_trans hB b5.size) m10.blk.1
    refine Fx.Ln (Fx.Rp ((pf g (2*a+o1-b))) (fun v1=>Fx.av rfl rfl rfl Tryd.underlying53 (s:=1) (by kernel_rfl) (by omega) (by omega) (by omega)) (Fx.R.fP (by rfl) ?_))
    refine Fx.L.eU (x:=Fx.eB (Fx.rv .u64 (gA dk)) ix (.int .u64 ((gA dk) (2*a+o1-b)))) (u := .int .u64 ((gA dk) ix)) (by rfl) rfl rfl rfl rfl (by rfl) (by kernel_rfl) m12 (i:=2*a+o1-b) (by omega) fun w6 m14 s6 z4 => ?_
    have Mr:=Fx.gD.bP s6 m12.V4
    have m15:=m13.aU Mr (by decide)
    have b7:=s6.below b6 (Nat.le_trans hB b6.size) m12.blk.1
    have m16:Fx.Own w6 B 22 1 (.slice (some ⟨g,0,none⟩) n cap) n (Fx.rv .u64 (gA (Sort.swp dk ix (2*a+o1-b)))):=m14.congr (eO hk (by omega) (by omega))
    refine Fx.Ln (Fx.R.nil (Fx.dV (Fx.sN (Fx.Wl (Fx.Lv (.int .i64 ((ix:Int))) (Fx.ah rfl h7) (Fx.Lv (.int .i64 ((ix:Int)+1)) (Fx.aS rfl rfl rfl Fx.io) (Fx.Lv (.int .i64 ((ix:Int)+1)) (Fx.aj rfl rfl) (Fx.Ln (Fx.kg ⟨ix+1,r1,Sort.swp dk ix (2*a+o1-b),(dz hk _ _),(Sort.permIn_trans _ _ _ _ _ hP (Sort.swp_permIn _ _ _ _ _ (by omega) (by omega) (by omega) (by omega) (by omega))),(by omega),h1,(h2.trans Fx.ic),(h3.trans Fx.ic),(h4.trans Fx.ic),h5,(h6.trans Fx.ic),Fx.ic,m16,m15,b7⟩ ?_)))))))))
    show((a:Int)+2*q0+2-intOf ((.int .i64 ((ix:Int)+1)))).toNat<_
    simp only[h7,intOf]; omega
   refine Fx.Lv (.bool false) (Fx.eY rfl rfl rfl c43) (Fx.Ln (Fx.sN (Fx.Wc (b:=false) rfl (fun h=>nomatch h) (fun _=>Fx.Wk (Fx.sN ?_)))))
   -- region 10 draws
   refine Fx.W.bH [0,1,2,3,4,5,6,7,8,9,10,12,13,14,11,15,16,17,18,19] [0,0,0,0,0,0,0,0,0,0,0,4,0,0,0,4,0,3,0,3] Fx.Mk Fx.Mk.refl Fx.Mk.trans (aQ := [(17,11,[11]),(19,11,[11]),(17,15,[15]),(19,15,[15]),(18,17,[17]),(19,17,[17])]) (by kernel_rfl) (by kernel_rfl) (by kernel_rfl) (by kernel_rfl) (by kernel_rfl) fun sI fU mR => ?_
   have s7:Fx.Stp w4.heap.size w4 sI:=Fx.Sb fU
   have m17:=m9.bO s7 (Nat.ne_of_lt (m9.lt))
   have m18:=m8.aC s7 m8.ne
   have b8:=s7.below b4 (Nat.le_trans hB b4.size) (Nat.le_trans hB b4.size)
   refine Fx.Rp (.slice (some ⟨g,0,none⟩) (n) (cap)) (fun v1=>Fx.ah rfl h1) (Fx.Rp (.int .i64 ((ix:Int))) (fun v1=>Fx.ah rfl h7) (Fx.Rp (.slice (some ⟨g,0,none⟩) (n) (cap)) (fun v1=>Fx.ah rfl h1) (Fx.Rp (.int .i64 ((a:Int))) (fun v1=>Fx.ah rfl h2) (Fx.Rp (.int .i64 ((o1:Int))) (fun v1=>Fx.ah rfl rfl) (Fx.Rp (.int .i64 ((a:Int)+(o1:Int))) (fun v1=>Fx.aS rfl rfl rfl Fx.io) (Fx.Rp (.slice (some ⟨g,0,none⟩) (n) (cap)) (fun v1=>Fx.ah rfl h1) (Fx.Rp (.int .i64 ((a:Int))) (fun v1=>Fx.ah rfl h2) (Fx.Rp (.int .i64 ((o1:Int))) (fun v1=>Fx.ah rfl rfl) (Fx.Rp (.int .i64 ((a:Int)+(o1:Int))) (fun v1=>Fx.aS rfl rfl rfl Fx.io) (Fx.Rp ((pf g (a+o1))) (fun v1=>Fx.av rfl rfl rfl Tryd.underlying53 (s:=1) (by kernel_rfl) (by omega) (by omega) (by omega)) (Fx.Rp (.slice (some ⟨g,0,none⟩) (n) (cap)) (fun v1=>Fx.ah rfl h1) (Fx.Rp (.int .i64 ((ix:Int))) (fun v1=>Fx.ah rfl h7) (Fx.Rp ((pf g ix)) (fun v1=>Fx.av rfl rfl rfl Tryd.underlying53 (s:=1) (by kernel_rfl) (by omega) (by omega) (by omega)) (Fx.R.s (.int .u64 ((gA dk) (a+o1))) (Fx.ak (x:=Fx.rv .u64 (gA dk)) rfl rfl (by kernel_rfl) m17.aL (i:=a+o1) (by omega) (by omega) rfl) ?_))))))))))))))
   refine Fx.R.s (.int .u64 ((gA dk) ix)) (Fx.ak (x:=Fx.rv .u64 (gA dk)) rfl rfl (by kernel_rfl) m17.aL (i:=ix) (by omega) (by omega) rfl) ?_
   refine Fx.Rp ((pf g ix)) (fun v1=>Fx.av rfl rfl rfl Tryd.underlying53 (s:=1) (by kernel_rfl) (by omega) (by omega) (by omega)) (Fx.R.fP (by rfl) ?_)
   refine Fx.L.eU (x:=Fx.rv .u64 (gA dk)) (u := .int .u64 ((gA dk) (a+o1))) (by rfl) rfl rfl rfl rfl (by rfl) (by kernel_rfl) m17 (i:=ix) (by omega) fun w7 m19 s8 z5 => ?_
   have Ms:=Fx.gD.bP s8 m17.V4
   have m20:=m18.aU Ms (by decide)
   have b9:=s8.below b8 (Nat.le_trans hB b8.size) m17.blk.1
   refine Fx.Ln (Fx.Rp ((pf g (a+o1))) (fun v1=>Fx.av rfl rfl rfl Tryd.underlying53 (s:=1) (by kernel_rfl) (by omega) (by omega) (by omega)) (Fx.R.fP (by rfl) ?_))
   refine Fx.L.eU (x:=Fx.eB (Fx.rv .u64 (gA dk)) ix (.int .u64 ((gA dk) (a+o1)))) (u := .int .u64 ((gA dk) ix)) (by rfl) rfl rfl rfl rfl (by rfl) (by kernel_rfl) m19 (i:=a+o1) (by omega) fun w8 m21 s9 z6 => ?_
   have GV:=Fx.gD.bP s9 m19.V4
   have m22:=m20.aU GV (by decide)
   have b10:=s9.below b9 (Nat.le_trans hB b9.size) m19.blk.1
   have m23:Fx.Own w8 B 22 1 (.slice (some ⟨g,0,none⟩) n cap) n (Fx.rv .u64 (gA (Sort.swp dk ix (a+o1)))):=m21.congr (eO hk (by omega) (by omega))
   refine Fx.Ln (Fx.R.nil (Fx.dV (Fx.sN (Fx.Wl (Fx.Lv (.int .i64 ((ix:Int))) (Fx.ah rfl h7) (Fx.Lv (.int .i64 ((ix:Int)+1)) (Fx.aS rfl rfl rfl Fx.io) (Fx.Lv (.int .i64 ((ix:Int)+1)) (Fx.aj rfl rfl) (Fx.Ln (Fx.kg ⟨ix+1,r1,Sort.swp dk ix (a+o1),(dz hk _ _),(Sort.permIn_trans _ _ _ _ _ hP (Sort.swp_permIn _ _ _ _ _ (by omega) (by omega) (by omega) (by omega) (by omega))),(by omega),h1,(h2.trans Fx.ic),(h3.trans Fx.ic),(h4.trans Fx.ic),h5,(h6.trans Fx.ic),Fx.ic,m23,m22,b10⟩ ?_)))))))))
   show((a:Int)+2*q0+2-intOf ((.int .i64 ((ix:Int)+1)))).toNat<_
   simp only[h7,intOf]; omega
  refine Fx.Lv (.bool false) (Fx.dI rfl rfl rfl Mq) (Fx.Ln (Fx.sN (Fx.Wc (b:=false) rfl (fun h=>nomatch h) (fun _=>Fx.W.exit (Fx.dQ (Fx.jC (Fx.dR (⟨.tuple #[],Fx.jS Tryd.results112,?_⟩))))))))
  exact⟨dk,rfl,hk,hP,m6,b3⟩
 refine Fx.Lv (.bool false) (Fx.eY rfl rfl rfl c15) (Fx.Ln (Fx.sN (Fx.Wc (b:=false) rfl (fun h=>nomatch h) (fun _=>Fx.Wk (⟨.tuple #[],Fx.jS Tryd.results112,?_⟩)))))
 exact⟨d,rfl,hn,Sort.permIn_refl _ _ _,h,(Below.refl B w)⟩
end Go.Proofs.YtahbiajdgealnaaDoor
namespace Go.Proofs.YtahbiajdgealnaaDoor
open Go.RowKit
open Rt
set_option maxRecDepth 10000
theorem Qk(a b sb:Nat)(sw:Int)(B g n cap:Nat)(d:Array Int)(w:World)(h:Fx.Own w B 22 1 (.slice (some ⟨g,0,none⟩) n cap) n (Fx.rv .u64 (gA d)))(hB:B<=w.heap.size)(hn:d.size=n)(hs:n<=1000)(ha:a<n)(hb:b<n)(hb1:B<=sb)(hb2:Fx.aP w sb 1 (fun _ => .int .i64 sw) 3)(hsw:0<=sw/\sw<=1000) :
 Calls Tryd.prog 126 #[.slice (some ⟨g,0,none⟩) (n) (cap),.int .i64 ((a:Int)),.int .i64 ((b:Int)),(pt sb)] w fun e w' => ∃(x y:Nat) (s2:Int),e = .returned (.tuple #[.int .i64 (x:Int),.int .i64 (y:Int)])/\((x=a/\y=b)\/(x=b/\y=a))/\(sw<=s2/\s2<=sw+1)/\Fx.aP w' sb 1 (fun _ => .int .i64 s2) 3/\Fx.Own w' B 22 1 (.slice (some ⟨g,0,none⟩) n cap) n (Fx.rv .u64 (gA d))/\Below B w w':=by
 refine Fx.enter Tryd.func126 rfl (n:=28) rfl (by rfl) ?_
 refine Fx.Ws (Fx.Wl (Fx.Lv (.int .i64 (0)) (Fx.aj rfl rfl) (Fx.Lv (.int .i64 (0)) (Fx.aj rfl rfl) (Fx.Ln (Fx.sN (Fx.Ws (Fx.Ws ?_)))))))
 -- region 1 draws
 refine Fx.W.quiet (fun v1=>Below w.heap.size w v1) (by kernel_rfl) (by kernel_rfl) (Below.refl _ _).drew ?_
 refine Fx.Qv (.slice (some ⟨g,0,none⟩) (n) (cap)) (fun v1 hv1=>Fx.ah rfl rfl) (Fx.Qv (.int .i64 ((b:Int))) (fun v1 hv1=>Fx.ah rfl rfl) (Fx.Qv ((pf g b)) (fun v1 hv1=>Fx.av rfl rfl rfl Tryd.underlying53 (s:=1) (by kernel_rfl) (by omega) (by omega) (by omega)) (Fx.Qv (.int .u64 ((gA d) b)) (fun v1 hv1=>Fx.ak (x:=Fx.rv .u64 (gA d)) rfl rfl (by kernel_rfl) (h.aL.below hv1 (by have:=h.lt; omega)) (i:=b) (by omega) (by omega) rfl) (Fx.Qv (.slice (some ⟨g,0,none⟩) (n) (cap)) (fun v1 hv1=>Fx.ah rfl rfl) (Fx.Qv (.int .i64 ((a:Int))) (fun v1 hv1=>Fx.ah rfl rfl) (Fx.Qv ((pf g a)) (fun v1 hv1=>Fx.av rfl rfl rfl Tryd.underlying53 (s:=1) (by kernel_rfl) (by omega) (by omega) (by omega)) (Fx.Qv (.int .u64 ((gA d) a)) (fun v1 hv1=>Fx.ak (x:=Fx.rv .u64 (gA d)) rfl rfl (by kernel_rfl) (h.aL.below hv1 (by have:=h.lt; omega)) (i:=a) (by omega) (by omega) rfl) ?_)))))))
 by_cases c18:(decide ((gA d) b<(gA d) a))=true
 ·refine Fx.Qt.call (v := .bool true) (by rfl) (fun v1 hv1=>Fx.rC (args := [.int .u64 ((gA d) b),.int .u64 ((gA d) a)]) rfl rfl Tryd.func116 rfl rfl) rfl (fun v1 hv1=>(bU ((gA d) b) ((gA d) a) _).mono fun e v2 h=>⟨by rw[h.1,c18],by rw[h.2]; exact hv1⟩) ?_
  refine Fx.Qt.nil ?_
  intro sG iN
  have s1:Fx.Stp w.heap.size w sG:=Fx.Sb iN
  have m1:=h.bO s1 (Nat.ne_of_lt (h.lt))
  have m2:=hb2.aC s1 hb2.ne
  have b1:=s1.below (Below.refl B w) (Nat.le_trans hB (Below.refl B w).size) (Nat.le_trans hB (Below.refl B w).size)
  refine Fx.sN (Fx.Wc (b:=true) rfl (fun _=>Fx.Ws (Fx.Wl (Fx.Lv ((pt sb)) (Fx.ah rfl rfl) ?_))) (fun h=>nomatch h))
  refine Fx.Lv ((pt sb)) (Fx.aO rfl rfl) (Fx.Lv (.int .i64 (sw)) (Fx.ak (x:=fun _ => .int .i64 sw) rfl rfl (by kernel_rfl) m2.aL (i:=0) (by omega) (by omega) rfl) (Fx.Lv (.int .i64 (sw+1)) (Fx.aS rfl rfl rfl Fx.io) (Fx.Lv ((pt sb)) (Fx.aO rfl rfl) (Fx.L.bV (x:=fun _ => .int .i64 sw) (u := .int .i64 (sw+1)) (by rfl) rfl rfl rfl rfl (by rfl) (by kernel_rfl) m2 (i:=0) (by omega) fun w1 m3 s2 z1 => ?_))))
  have m4:Fx.aP w1 sb 1 (fun _ => .int .i64 (sw+1)) 3:=Fx.je m3
  have aT:=Fx.gD.bP s2 m2.ty
  have m5:=m1.aU aT (by decide)
  have b2:=s2.below b1 (Nat.le_trans hB b1.size) (by omega)
  refine Fx.Ln (Fx.sN (Fx.Ws (Fx.Wl (Fx.Lv (.int .i64 ((b:Int))) (Fx.ah rfl rfl) (Fx.Lv (.int .i64 ((a:Int))) (Fx.ah rfl rfl) (Fx.Lv (.int .i64 ((b:Int))) (Fx.aj rfl rfl) (Fx.Lv (.int .i64 ((a:Int))) (Fx.aj rfl rfl) (Fx.Ln (Fx.sN (Fx.Wr (Fx.sR (⟨.tuple #[.int .i64 ((b:Int)),.int .i64 ((a:Int))],Fx.cB Tryd.results126 (by exact rfl) (by exact rfl),?_⟩))))))))))))
  exact⟨b,a,sw+1,rfl,.inr ⟨rfl,rfl⟩,by omega,m4,m5,b2⟩
 rw[Bool.not_eq_true]at c18
 refine Fx.Qt.call (v := .bool false) (by rfl) (fun v1 hv1=>Fx.rC (args := [.int .u64 ((gA d) b),.int .u64 ((gA d) a)]) rfl rfl Tryd.func116 rfl rfl) rfl (fun v1 hv1=>(bU ((gA d) b) ((gA d) a) _).mono fun e v2 h=>⟨by rw[h.1,c18],by rw[h.2]; exact hv1⟩) ?_
 refine Fx.Qt.nil ?_
 intro yI ji
 have s3:Fx.Stp w.heap.size w yI:=Fx.Sb ji
 have m6:=h.bO s3 (Nat.ne_of_lt (h.lt))
 have m7:=hb2.aC s3 hb2.ne
 have b3:=s3.below (Below.refl B w) (Nat.le_trans hB (Below.refl B w).size) (Nat.le_trans hB (Below.refl B w).size)
 refine Fx.sN (Fx.Wc (b:=false) rfl (fun h=>nomatch h) (fun _=>Fx.Wk (Fx.sN (Fx.Ws (Fx.Wl (Fx.Lv (.int .i64 ((a:Int))) (Fx.ah rfl rfl) (Fx.Lv (.int .i64 ((b:Int))) (Fx.ah rfl rfl) (Fx.Lv (.int .i64 ((a:Int))) (Fx.aj rfl rfl) (Fx.Lv (.int .i64 ((b:Int))) (Fx.aj rfl rfl) (Fx.Ln (Fx.sN (Fx.Wr (⟨.tuple #[.int .i64 ((a:Int)),.int .i64 ((b:Int))],Fx.cB Tryd.results126 (by exact rfl) (by exact rfl),?_⟩)))))))))))))
 exact⟨a,b,sw,rfl,.inl ⟨rfl,rfl⟩,by omega,m7,m6,b3⟩
theorem Ao{aI bI:Int}(a b:Nat)(ea:aI=(a:Int))(eb:bI=(b:Int))(sb:Nat)(sw:Int)(B g n cap:Nat)(d:Array Int)(w:World)(h:Fx.Own w B 22 1 (.slice (some ⟨g,0,none⟩) n cap) n (Fx.rv .u64 (gA d)))(hB:B<=w.heap.size)(hn:d.size=n)(hs:n<=1000)(ha:a<n)(hb:b<n)(hb1:B<=sb)(hb2:Fx.aP w sb 1 (fun _ => .int .i64 sw) 3)(hsw:0<=sw/\sw<=1000) :
 Calls Tryd.prog 126 #[.slice (some ⟨g,0,none⟩) (n) (cap),.int .i64 (aI),.int .i64 (bI),(pt sb)] w fun e w' => ∃(x y:Nat) (s2:Int),e = .returned (.tuple #[.int .i64 (x:Int),.int .i64 (y:Int)])/\((x=a/\y=b)\/(x=b/\y=a))/\(sw<=s2/\s2<=sw+1)/\Fx.aP w' sb 1 (fun _ => .int .i64 s2) 3/\Fx.Own w' B 22 1 (.slice (some ⟨g,0,none⟩) n cap) n (Fx.rv .u64 (gA d))/\Below B w w':=by
 subst ea eb; exact Qk a b sb sw B g n cap d w h hB hn hs ha hb hb1 hb2 hsw
theorem Um(a b c sb:Nat)(sw:Int)(B g n cap:Nat)(d:Array Int)(w:World)(h:Fx.Own w B 22 1 (.slice (some ⟨g,0,none⟩) n cap) n (Fx.rv .u64 (gA d)))(hB:B<=w.heap.size)(hn:d.size=n)(hs:n<=1000)(ha:a<n)(hb:b<n)(hc:c<n)(hb1:B<=sb)(hb2:Fx.aP w sb 1 (fun _ => .int .i64 sw) 3)(hsw:0<=sw/\sw<=100) :
 Calls Tryd.prog 125 #[.slice (some ⟨g,0,none⟩) (n) (cap),.int .i64 ((a:Int)),.int .i64 ((b:Int)),.int .i64 ((c:Int)),(pt sb)] w fun e w' => ∃(x:Nat) (s2:Int),e = .returned (.int .i64 (x:Int))/\(x=a\/x=b\/x=c)/\(sw<=s2/\s2<=sw+3)/\Fx.aP w' sb 1 (fun _ => .int .i64 s2) 3/\Fx.Own w' B 22 1 (.slice (some ⟨g,0,none⟩) n cap) n (Fx.rv .u64 (gA d))/\Below B w w':=by
 refine Fx.enter Tryd.func125 rfl (n:=36) rfl (by rfl) ?_
 refine Fx.Ws (Fx.Wl (Fx.Lv (.int .i64 (0)) (Fx.aj rfl rfl) (Fx.Ln (Fx.sN (Fx.Ws (Fx.Wl (Fx.Lv (.slice (some ⟨g,0,none⟩) (n) (cap)) (Fx.ah rfl rfl) (Fx.Lv (.int .i64 ((a:Int))) (Fx.ah rfl rfl) (Fx.Lv (.int .i64 ((b:Int))) (Fx.ah rfl rfl) (Fx.Lv ((pt sb)) (Fx.ah rfl rfl) (Fx.L.call (by rfl) (Fx.rC (args := [.slice (some ⟨g,0,none⟩) (n) (cap),.int .i64 ((a:Int)),.int .i64 ((b:Int)),(pt sb)]) rfl rfl Tryd.func126 rfl rfl) rfl ((Ao a b (by omega) (by omega) sb sw B g n cap d _ h (Nat.le_trans hB (Below.refl B w).size) hn hs (by omega) (by omega) (by omega) hb2 (by omega)).mono ?_))))))))))))
 rintro e9 w1 ⟨x1,y1,Tp,he,hx1,hs1,m1,m2,hb1⟩
 refine⟨_,he,?_⟩
 clear he
 have b1:=(Below.refl B w).trans hb1
 refine Fx.Lv (.tuple #[.int .i64 ((x1:Int)),.int .i64 ((y1:Int))]) (Fx.ah rfl rfl) (Fx.Lv (.int .i64 ((x1:Int))) (Fx.aD rfl rfl rfl) (Fx.Lv (.int .i64 ((y1:Int))) (Fx.aD rfl rfl rfl) (Fx.Lv (.int .i64 ((x1:Int))) (Fx.aj rfl rfl) (Fx.Lv (.int .i64 ((y1:Int))) (Fx.aj rfl rfl) (Fx.Ln (Fx.sN (Fx.Ws (Fx.Wl (Fx.Lv (.slice (some ⟨g,0,none⟩) (n) (cap)) (Fx.ah rfl rfl) (Fx.Lv (.int .i64 ((y1:Int))) (Fx.ah rfl rfl) (Fx.Lv (.int .i64 ((c:Int))) (Fx.ah rfl rfl) (Fx.Lv ((pt sb)) (Fx.ah rfl rfl) (Fx.L.call (by rfl) (Fx.rC (args := [.slice (some ⟨g,0,none⟩) (n) (cap),.int .i64 ((y1:Int)),.int .i64 ((c:Int)),(pt sb)]) rfl rfl Tryd.func126 rfl rfl) rfl ((Ao y1 c (by omega) (by omega) sb Tp B g n cap d _ m2 (Nat.le_trans hB b1.size) hn hs (by omega) (by omega) (by omega) m1 (by omega)).mono ?_))))))))))))))
 rintro e9 w2 ⟨x2,y2,sn2,he,hx2,hs2,m3,m4,hb2⟩
 refine⟨_,he,?_⟩
 clear he
 have b2:=b1.trans hb2
 refine Fx.Lv (.tuple #[.int .i64 ((x2:Int)),.int .i64 ((y2:Int))]) (Fx.ah rfl rfl) (Fx.Lv (.int .i64 ((x2:Int))) (Fx.aD rfl rfl rfl) (Fx.Lv (.int .i64 ((y2:Int))) (Fx.aD rfl rfl rfl) (Fx.Lv (.int .i64 ((x2:Int))) (Fx.aj rfl rfl) (Fx.Lv (.int .i64 ((y2:Int))) (Fx.aj rfl rfl) (Fx.Ln (Fx.sN (Fx.Ws (Fx.Wl (Fx.Lv (.slice (some ⟨g,0,none⟩) (n) (cap)) (Fx.ah rfl rfl) (Fx.Lv (.int .i64 ((x1:Int))) (Fx.ah rfl rfl) (Fx.Lv (.int .i64 ((x2:Int))) (Fx.ah rfl rfl) (Fx.Lv ((pt sb)) (Fx.ah rfl rfl) (Fx.L.call (by rfl) (Fx.rC (args := [.slice (some ⟨g,0,none⟩) (n) (cap),.int .i64 ((x1:Int)),.int .i64 ((x2:Int)),(pt sb)]) rfl rfl Tryd.func126 rfl rfl) rfl ((Ao x1 x2 (by omega) (by omega) sb sn2 B g n cap d _ m4 (Nat.le_trans hB b2.size) hn hs (by omega) (by omega) (by omega) m3 (by omega)).mono ?_))))))))))))))
 rintro e9 w3 ⟨x3,y3,sn3,he,hx3,hs3,m5,m6,hb3⟩
 refine⟨_,he,?_⟩
 clear he
 have b3:=b2.trans hb3
 refine Fx.Lv (.tuple #[.int .i64 ((x3:Int)),.int .i64 ((y3:Int))]) (Fx.ah rfl rfl) (Fx.Lv (.int .i64 ((x3:Int))) (Fx.aD rfl rfl rfl) (Fx.Lv (.int .i64 ((y3:Int))) (Fx.aD rfl rfl rfl) (Fx.Lv (.int .i64 ((x3:Int))) (Fx.aj rfl rfl) (Fx.Lv (.int .i64 ((y3:Int))) (Fx.aj rfl rfl) (Fx.Ln (Fx.sN (Fx.Ws (Fx.Wl (Fx.Lv (.int .i64 ((y3:Int))) (Fx.ah rfl rfl) (Fx.Lv (.int .i64 ((y3:Int))) (Fx.aj rfl rfl) (Fx.Ln (Fx.sN (Fx.Wr (⟨.int .i64 ((y3:Int)),Fx.rV Tryd.results125 (by exact rfl),?_⟩))))))))))))))
 exact⟨_,_,rfl,by omega,by omega,m5,m6,b3⟩
theorem Ql{aI bI cI:Int}(a b c:Nat)(ea:aI=(a:Int))(eb:bI=(b:Int))(ec:cI=(c:Int))(sb:Nat)(sw:Int)(B g n cap:Nat)(d:Array Int)(w:World)(h:Fx.Own w B 22 1 (.slice (some ⟨g,0,none⟩) n cap) n (Fx.rv .u64 (gA d)))(hB:B<=w.heap.size)(hn:d.size=n)(hs:n<=1000)(ha:a<n)(hb:b<n)(hc:c<n)(hb1:B<=sb)(hb2:Fx.aP w sb 1 (fun _ => .int .i64 sw) 3)(hsw:0<=sw/\sw<=100) :
 Calls Tryd.prog 125 #[.slice (some ⟨g,0,none⟩) (n) (cap),.int .i64 (aI),.int .i64 (bI),.int .i64 (cI),(pt sb)] w fun e w' => ∃(x:Nat) (s2:Int),e = .returned (.int .i64 (x:Int))/\(x=a\/x=b\/x=c)/\(sw<=s2/\s2<=sw+3)/\Fx.aP w' sb 1 (fun _ => .int .i64 s2) 3/\Fx.Own w' B 22 1 (.slice (some ⟨g,0,none⟩) n cap) n (Fx.rv .u64 (gA d))/\Below B w w':=by
 subst ea eb ec; exact Um a b c sb sw B g n cap d w h hB hn hs ha hb hc hb1 hb2 hsw
theorem Un(a b:Nat)(B g n cap:Nat)(d:Array Int)(w:World)(h:Fx.Own w B 22 1 (.slice (some ⟨g,0,none⟩) n cap) n (Fx.rv .u64 (gA d)))(hB:B<=w.heap.size)(hn:d.size=n)(hs:n<=1000)(ha:a<b)(hb:b<=n)(h50:n<50) :
 Calls Tryd.prog 113 #[.slice (some ⟨g,0,none⟩) (n) (cap),.int .i64 ((a:Int)),.int .i64 ((b:Int))] w fun e w' => ∃(p:Nat) (hint:Int),e = .returned (.tuple #[.int .i64 (p:Int),.int .i64 hint])/\a<=p/\p<b/\Fx.Own w' B 22 1 (.slice (some ⟨g,0,none⟩) n cap) n (Fx.rv .u64 (gA d))/\Below B w w':=by
 obtain⟨q0,hq0⟩ : ∃ q0,q0=(b-a) / 4:=⟨_,rfl⟩
 refine Fx.enter Tryd.func113 rfl (n:=57) rfl (by rfl) ?_
 refine Fx.Ws (Fx.Wl (Fx.Lv (.int .i64 (0)) (Fx.aj rfl rfl) (Fx.Lv (.int .i64 (0)) (Fx.aj rfl rfl) (Fx.Ln (Fx.sN (Fx.Ws (Fx.Wl (Fx.Lv (.int .i64 ((b:Int))) (Fx.ah rfl rfl) (Fx.Lv (.int .i64 ((a:Int))) (Fx.ah rfl rfl) (Fx.Lv (.int .i64 ((b:Int)-(a:Int))) (Fx.bD rfl rfl rfl Fx.io) (Fx.Lv (.int .i64 ((b:Int)-(a:Int))) (Fx.aj rfl rfl) (Fx.Ln (Fx.sN (Fx.Ws (Fx.Wl (Fx.L.new (m:=1) (y:=Fx.rv .i64 (fun _=>0)) (by rfl) rfl (by kernel_rfl) rfl fun g1 w1 aZ m1 s1 z1 => ?_))))))))))))))))
 have m2:=h.bO s1 (Nat.ne_of_lt (h.lt))
 have b1:=s1.below (Below.refl B w) (Nat.le_trans hB (Below.refl B w).size) (Nat.le_trans hB (Below.refl B w).size)
 have kM:w.heap.size<=g1:=by rw[aZ]; exact(Below.refl B w).size
 have jk:g≠g1:=by rw[aZ]; exact Nat.ne_of_lt (h.lt)
 have mO:g1<w1.heap.size:=m1.lt
 clear aZ
 refine Fx.Ln (Fx.sN (Fx.Ws (Fx.Wl (Fx.Lv (.int .i64 ((a:Int))) (Fx.ah rfl rfl) (Fx.Lv (.int .i64 ((b:Int)-(a:Int))) (Fx.ah rfl rfl) (Fx.Lv (.int .i64 ((q0:Int))) (Fx.uU rfl rfl rfl (by omega) (Fx.wQ (by omega) (by rw[Int.tdiv_eq_ediv_of_nonneg (by omega)]; omega))) (Fx.Lv (.int .i64 ((q0:Int)*1)) (Fx.yT rfl rfl rfl Fx.io) (Fx.Lv (.int .i64 ((a:Int)+(q0:Int))) (Fx.aS rfl rfl rfl Fx.io) (Fx.Lv (.int .i64 ((a:Int)+(q0:Int))) (Fx.aj rfl rfl) (Fx.Ln (Fx.sN (Fx.Ws (Fx.Wl (Fx.Lv (.int .i64 ((a:Int))) (Fx.ah rfl rfl) (Fx.Lv (.int .i64 ((b:Int)-(a:Int))) (Fx.ah rfl rfl) (Fx.Lv (.int .i64 ((q0:Int))) (Fx.uU rfl rfl rfl (by omega) (Fx.wQ (by omega) (by rw[Int.tdiv_eq_ediv_of_nonneg (by omega)]; omega))) (Fx.Lv (.int .i64 ((q0:Int)*2)) (Fx.yT rfl rfl rfl Fx.io) (Fx.Lv (.int .i64 ((a:Int)+2*(q0:Int))) (Fx.aS rfl rfl rfl Fx.io) (Fx.Lv (.int .i64 ((a:Int)+2*(q0:Int))) (Fx.aj rfl rfl) (Fx.Ln (Fx.sN (Fx.Ws (Fx.Wl (Fx.Lv (.int .i64 ((a:Int))) (Fx.ah rfl rfl) (Fx.Lv (.int .i64 ((b:Int)-(a:Int))) (Fx.ah rfl rfl) (Fx.Lv (.int .i64 ((q0:Int))) (Fx.uU rfl rfl rfl (by omega) (Fx.wQ (by omega) (by rw[Int.tdiv_eq_ediv_of_nonneg (by omega)]; omega))) (Fx.Lv (.int .i64 ((q0:Int)*3)) (Fx.yT rfl rfl rfl Fx.io) (Fx.Lv (.int .i64 ((a:Int)+3*(q0:Int))) (Fx.aS rfl rfl rfl Fx.io) (Fx.Lv (.int .i64 ((a:Int)+3*(q0:Int))) (Fx.aj rfl rfl) (Fx.Ln (Fx.sN (Fx.Ws (Fx.Ws (Fx.Wl (Fx.Lv (.int .i64 ((b:Int)-(a:Int))) (Fx.ah rfl rfl) ?_)))))))))))))))))))))))))))))))))))
 by_cases c32:8<=((b:Int)-(a:Int))
 ·refine Fx.Lv (.bool true) (Fx.gV rfl rfl rfl c32) (Fx.Ln (Fx.sN (Fx.Wc (b:=true) rfl (fun _=>Fx.Ws (Fx.Ws (Fx.Wl (Fx.Lv (.int .i64 ((b:Int)-(a:Int))) (Fx.ah rfl rfl) ?_)))) (fun h=>nomatch h))))
  refine Fx.Lv (.bool false) (Fx.eY rfl rfl rfl (by omega)) (Fx.Ln (Fx.sN (Fx.Wc (b:=false) rfl (fun h=>nomatch h) (fun _=>Fx.Wk (Fx.sN (Fx.Wl (Fx.Lv (.slice (some ⟨g,0,none⟩) (n) (cap)) (Fx.ah rfl rfl) (Fx.Lv (.int .i64 ((a:Int)+(q0:Int))) (Fx.ah rfl rfl) (Fx.Lv (.int .i64 ((a:Int)+2*(q0:Int))) (Fx.ah rfl rfl) (Fx.Lv (.int .i64 ((a:Int)+3*(q0:Int))) (Fx.ah rfl rfl) (Fx.L.call (by rfl) (Fx.rC (args := [.slice (some ⟨g,0,none⟩) (n) (cap),.int .i64 ((a:Int)+(q0:Int)),.int .i64 ((a:Int)+2*(q0:Int)),.int .i64 ((a:Int)+3*(q0:Int)),(pt g1)]) rfl rfl Tryd.func125 rfl rfl) rfl ((Ql (a+q0) (a+2*q0) (a+3*q0) (by omega) (by omega) (by omega) g1 0 B g n cap d _ m2 (Nat.le_trans hB b1.size) hn hs (by omega) (by omega) (by omega) (by omega) m1 (by omega)).mono ?_))))))))))))
  rintro e9 w2 ⟨x1,Tp,he,hx1,hs1,m3,m4,hb1⟩
  refine⟨_,he,?_⟩
  clear he
  have b2:=b1.trans hb1
  refine Fx.Lv (.int .i64 ((x1:Int))) (Fx.aj rfl rfl) (Fx.Ln (Fx.sN (Fx.Ws (Fx.Wl (Fx.Lv (.int .i64 (Tp)) (Fx.ak (x:=fun _ => .int .i64 Tp) rfl rfl (by kernel_rfl) m3.aL (i:=0) (by omega) (by omega) rfl) (Fx.Ln (Fx.sN (Fx.W.block (Fx.Ws (Fx.Wl ?_))))))))))
  by_cases Uo:Tp=0
  ·refine Fx.Lv (.bool true) (Fx.bG rfl rfl rfl Uo) (Fx.Lv (.bool true) (Fx.aj rfl rfl) (Fx.Ln (Fx.sN (Fx.Wc (b:=true) rfl (fun _=>Fx.Ws (Fx.Wl (Fx.Lv (.int .i64 ((x1:Int))) (Fx.ah rfl rfl) ?_))) (fun h=>nomatch h)))))
   refine Fx.Lv (.int .i64 ((x1:Int))) (Fx.aj rfl rfl) (Fx.Lv (.int .i64 (1)) (Fx.aj rfl rfl) (Fx.Ln (Fx.sN (Fx.Wr (Fx.dH (⟨.tuple #[.int .i64 ((x1:Int)),.int .i64 (1)],Fx.cB Tryd.results113 (by exact rfl) (by exact rfl),?_⟩))))))
   exact⟨x1,1,congrArg (fun q=>Ending.returned (.tuple #[.int .i64 q,.int .i64 1])) (by omega),by omega,by omega,m4,b2⟩
  refine Fx.Lv (.bool false) (Fx.dn rfl rfl rfl Uo) (Fx.Lv (.bool false) (Fx.aj rfl rfl) (Fx.Ln (Fx.sN (Fx.Wc (b:=false) rfl (fun h=>nomatch h) (fun _=>Fx.Ws (Fx.Wl ?_))))))
  by_cases Uq:Tp=12
  ·refine Fx.Lv (.bool true) (Fx.bG rfl rfl rfl Uq) (Fx.Lv (.bool true) (Fx.aj rfl rfl) (Fx.Ln (Fx.sN (Fx.Wc (b:=true) rfl (fun _=>Fx.Ws (Fx.Wl (Fx.Lv (.int .i64 ((x1:Int))) (Fx.ah rfl rfl) ?_))) (fun h=>nomatch h)))))
   refine Fx.Lv (.int .i64 ((x1:Int))) (Fx.aj rfl rfl) (Fx.Lv (.int .i64 (2)) (Fx.aj rfl rfl) (Fx.Ln (Fx.sN (Fx.Wr (Fx.dH (⟨.tuple #[.int .i64 ((x1:Int)),.int .i64 (2)],Fx.cB Tryd.results113 (by exact rfl) (by exact rfl),?_⟩))))))
   exact⟨x1,2,congrArg (fun q=>Ending.returned (.tuple #[.int .i64 q,.int .i64 2])) (by omega),by omega,by omega,m4,b2⟩
  refine Fx.Lv (.bool false) (Fx.dn rfl rfl rfl Uq) (Fx.Lv (.bool false) (Fx.aj rfl rfl) (Fx.Ln (Fx.sN (Fx.Wc (b:=false) rfl (fun h=>nomatch h) (fun _=>Fx.Ws (Fx.Wl (Fx.Lv (.int .i64 ((x1:Int))) (Fx.ah rfl rfl) (Fx.Lv (.int .i64 ((x1:Int))) (Fx.aj rfl rfl) (Fx.Lv (.int .i64 (0)) (Fx.aj rfl rfl) (Fx.Ln (Fx.sN (Fx.Wr (Fx.dH (⟨.tuple #[.int .i64 ((x1:Int)),.int .i64 (0)],Fx.cB Tryd.results113 (by exact rfl) (by exact rfl),?_⟩))))))))))))))
  exact⟨x1,0,congrArg (fun q=>Ending.returned (.tuple #[.int .i64 q,.int .i64 0])) (by omega),by omega,by omega,m4,b2⟩
 refine Fx.Lv (.bool false) (Fx.eY rfl rfl rfl c32) (Fx.Ln (Fx.sN (Fx.Wc (b:=false) rfl (fun h=>nomatch h) (fun _=>Fx.Wk (Fx.sN (Fx.Ws (Fx.Wl (Fx.Lv (.int .i64 (0)) (Fx.ak (x:=Fx.rv .i64 (fun _=>0)) rfl rfl (by kernel_rfl) m1.aL (i:=0) (by omega) (by omega) rfl) (Fx.Ln (Fx.sN (Fx.W.block (Fx.Ws (Fx.Wl ?_)))))))))))))
 by_cases Uo:(0:Int)=0
 ·refine Fx.Lv (.bool true) (Fx.bG rfl rfl rfl Uo) (Fx.Lv (.bool true) (Fx.aj rfl rfl) (Fx.Ln (Fx.sN (Fx.Wc (b:=true) rfl (fun _=>Fx.Ws (Fx.Wl (Fx.Lv (.int .i64 ((a:Int)+2*(q0:Int))) (Fx.ah rfl rfl) ?_))) (fun h=>nomatch h)))))
  refine Fx.Lv (.int .i64 ((a:Int)+2*(q0:Int))) (Fx.aj rfl rfl) (Fx.Lv (.int .i64 (1)) (Fx.aj rfl rfl) (Fx.Ln (Fx.sN (Fx.Wr (Fx.dH (⟨.tuple #[.int .i64 ((a:Int)+2*(q0:Int)),.int .i64 (1)],Fx.cB Tryd.results113 (by exact rfl) (by exact rfl),?_⟩))))))
  exact⟨a+2*q0,1,congrArg (fun q=>Ending.returned (.tuple #[.int .i64 q,.int .i64 1])) (by omega),by omega,by omega,m2,b1⟩
 refine Fx.Lv (.bool false) (Fx.dn rfl rfl rfl Uo) (Fx.Lv (.bool false) (Fx.aj rfl rfl) (Fx.Ln (Fx.sN (Fx.Wc (b:=false) rfl (fun h=>nomatch h) (fun _=>Fx.Ws (Fx.Wl ?_))))))
 by_cases Uq:(0:Int)=12
 ·refine Fx.Lv (.bool true) (Fx.bG rfl rfl rfl Uq) (Fx.Lv (.bool true) (Fx.aj rfl rfl) (Fx.Ln (Fx.sN (Fx.Wc (b:=true) rfl (fun _=>Fx.Ws (Fx.Wl (Fx.Lv (.int .i64 ((a:Int)+2*(q0:Int))) (Fx.ah rfl rfl) ?_))) (fun h=>nomatch h)))))
  refine Fx.Lv (.int .i64 ((a:Int)+2*(q0:Int))) (Fx.aj rfl rfl) (Fx.Lv (.int .i64 (2)) (Fx.aj rfl rfl) (Fx.Ln (Fx.sN (Fx.Wr (Fx.dH (⟨.tuple #[.int .i64 ((a:Int)+2*(q0:Int)),.int .i64 (2)],Fx.cB Tryd.results113 (by exact rfl) (by exact rfl),?_⟩))))))
  exact⟨a+2*q0,2,congrArg (fun q=>Ending.returned (.tuple #[.int .i64 q,.int .i64 2])) (by omega),by omega,by omega,m2,b1⟩
 refine Fx.Lv (.bool false) (Fx.dn rfl rfl rfl Uq) (Fx.Lv (.bool false) (Fx.aj rfl rfl) (Fx.Ln (Fx.sN (Fx.Wc (b:=false) rfl (fun h=>nomatch h) (fun _=>Fx.Ws (Fx.Wl (Fx.Lv (.int .i64 ((a:Int)+2*(q0:Int))) (Fx.ah rfl rfl) (Fx.Lv (.int .i64 ((a:Int)+2*(q0:Int))) (Fx.aj rfl rfl) (Fx.Lv (.int .i64 (0)) (Fx.aj rfl rfl) (Fx.Ln (Fx.sN (Fx.Wr (Fx.dH (⟨.tuple #[.int .i64 ((a:Int)+2*(q0:Int)),.int .i64 (0)],Fx.cB Tryd.results113 (by exact rfl) (by exact rfl),?_⟩))))))))))))))
 exact⟨a+2*q0,0,congrArg (fun q=>Ending.returned (.tuple #[.int .i64 q,.int .i64 0])) (by omega),by omega,by omega,m2,b1⟩
end Go.Proofs.YtahbiajdgealnaaDoor
