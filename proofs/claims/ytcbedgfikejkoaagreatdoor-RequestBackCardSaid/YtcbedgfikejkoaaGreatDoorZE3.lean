/-
  What the proof of the law rests on, part 3: walks of functions, and plain laws; each says its conditions itself.
-/
import Derived.Test.YtcbedgfikejkoaaGreatDoorRows
import Derived.BigRegion
import Derived.Deep.DeepCutAuto
import Derived.Test.YtcbedgfikejkoaaGreatDoorZE2
set_option linter.unusedVariables false
namespace Go.Proofs.YtcbedgfikejkoaaGreatDoor
theorem wT0{P:Program}{ops:Array Oper}{Q:Exit->Act->World->Prop}{md:Region.Mode}{S:World->Prop}(i:Nat){oi:Oper}(v:Value){fuel:Nat}{l:Array Bool}{a:Act}{w:World}(hi:ops[i]? = some oi)(hv : ∀ w,S w->(execOp a.eval oi).run P w = .ok (.value v) w)(hS:S w)(h:wpAnyH P md ops Q S fuel (l.setIfInBounds i true) (a.put oi.dst v) w)(hy:Region.wanted oi (yielded ops a.tmps)=true:=by rfl)(hs:Region.noSelect ops=true:=by kernel_rfl)(hf:Region.free md ops l i=true:=by kernel_rfl)(hr:(Region.ready md ops l).contains i=true:=by kernel_rfl)(hQ : ∀ c a w,Q (.panic c) (a.put oi.dst v) w->Q (.panic c) a w:=by exact fun _ _ _ h=>h):wpAnyH P md ops Q S (fuel+1) l a w:=wpAnyH_take hi hs hf hr hQ (.inl ⟨hy,hv⟩) hS h
end Go.Proofs.YtcbedgfikejkoaaGreatDoor
set_option maxHeartbeats 1600000
set_option linter.unusedSimpArgs false
namespace Go.Proofs.YtcbedgfikejkoaaGreatDoor
open Go.RowKit Go Rt
namespace Rt
structure dO where
 n:Nat
 x:Nat->Int
 p:Nat->Int
def dO.zero:dO:=⟨0,fun _=>0,fun _=>0⟩
def dO.has(T:dO)(k:Int):Bool:=eB T.x T.n k
def dO.par(T:dO)(k:Int):Int:=iN T.x T.p T.n k
def dO.path(T:dO)(k:Int):List Int:=jK T.x T.p T.n 4 k
def dO.err(T:dO)(id pa:Int):Int:=sj T.x T.p T.n id pa
def dO.put(T:dO)(id pa:Int):dO:=⟨T.n+1,Fx.aO T.x T.n id,Fx.aO T.p T.n pa⟩
def dO.add(T:dO)(id pa:Int):dO:=if T.err id pa=0 then T.put id pa else T
abbrev dO.ok(T:dO):Prop:=CB T.n T.x T.p
theorem dO.JG{T:dO}(h:T.ok){id pa:Int}(a:0<=id/\id<=18446744073709551615):(T.add id pa).ok:=by
 unfold dO.add;split
 ·rename_i hc; exact CB.put h hc a
 exact h
structure tH(w:World)(B tp mb:Nat)(T:dO):Prop where
 blk:Fx.aQ w tp 1 (fun _ => .map (some mb)) 165
 map:Fx.Mp w mb T.n T.x (fun j => .int .u64 (T.p j))
 inv:T.ok
 gt:B<=tp
 gm:B<=mb
section
variable {w w':World} {B tp mb r:Nat} {T:dO} {id pa k:Int}
theorem tH.up(h:tH w B tp mb T)(a:Below w.heap.size w w'):tH w' B tp mb T:=⟨h.blk.cu (Fx.Sb a) (u_ h.blk.lt),h.map.up a,h.inv,h.gt,h.gm⟩
instance:Rt.Tr w w' (tH w B tp mb T) (tH w' B tp mb T):=⟨fun b h=>h.up b⟩
theorem tH.kV{a:List TypeId}(h:tH w B tp mb T)(b:Fx.jg a w w')(h1:a.contains 165=false):tH w' B tp mb T:=⟨h.blk.kV b h1,h.map.kV b trivial,h.inv,h.gt,h.gm⟩
instance {a:List TypeId}:Rt.Tc a w w' (tH w B tp mb T) (tH w' B tp mb T) (!(a.contains 165)):=⟨fun b h e=>h.kV b (by simpa using e)⟩
theorem tH.CP(h:tH w B tp mb T)(a:Fx.Stp mb w w'):Fx.QV mb w w':=h.map.CP a
theorem tH.eH(h:tH w B tp mb T)(a:Fx.QV r w w')(b:mb≠r):tH w' B tp mb T:=⟨h.blk.eH a,h.map.eH a b,h.inv,h.gt,h.gm⟩
theorem tH.weak{a:Nat}(h:tH w B tp mb T)(b:a<=B):tH w a tp mb T:=⟨h.blk,h.map,h.inv,m_ b h.gt,m_ b h.gm⟩
theorem tH.lt(h:tH w B tp mb T):mb<w.heap.size:=h.map.lt
end
end Rt
theorem abN(w:World):Calls Tryz.prog 58 #[] w fun e w' => ∃ tp mb,e = .returned (.pointer (some ⟨tp,0,none⟩))/\w.heap.size<=mb/\tH w' w.heap.size tp mb dO.zero/\Below w.heap.size w w' :=
 (ahK (fun _=>0) (fun _=>0) w).mono fun e w' ⟨tp,mb,b,c,a,d,f,g⟩=>⟨tp,mb,b,a,⟨d,f,CB.zero _ _,c,a⟩,g⟩
theorem K9{w:World}{B tp mb:Nat}{T:dO}(id pa:Int)(h:tH w B tp mb T)(i:0<=id/\id<=18446744073709551615) :
 Calls Tryz.prog 217 #[.pointer (some ⟨tp,0,none⟩),.int .u64 id,.int .u64 pa] w fun e w'=>e = .returned (.int .i64 (T.err id pa))/\tH w' B tp mb (T.add id pa)/\Fx.Stp mb w w' :=
 (ahL T.x T.p T.n tp mb id pa w h.blk h.map h.inv).mono fun e w' ⟨c,k,m,l,b,j,d,f,g⟩=>by
  cases j with
  | no a h0 =>
    have a:T.err id pa=c:=a;subst a;refine⟨b,⟨d,?_,dO.JG h.inv i,h.gt,h.gm⟩,g⟩;unfold dO.add;rw[b_ h0]; exact f
  | yes a =>
    have a:T.err id pa=0:=a;refine⟨by rw[a]; exact b,⟨d,?_,dO.JG h.inv i,h.gt,h.gm⟩,g⟩;unfold dO.add;rw[d_ a]; exact f
theorem abO{w:World}{B tp mb:Nat}{T:dO}(k:Int)(h:tH w B tp mb T) :
 Calls Tryz.prog 145 #[.pointer (some ⟨tp,0,none⟩),.int .u64 k] w fun e w'=>e = .returned (.bool (T.has k))/\w'=w:=FD T.x T.p T.n tp mb k w h.blk h.map
def Yl(w:World)(B:Nat)(a:Option Addr)(c:Nat)(l:List Int):Prop:=Fx.Own w B 23 1 (.slice a l.length c) l.length (yK l)
theorem Yl.up{w w':World}{B c:Nat}{a:Option Addr}{l:List Int}(h:Yl w B a c l)(b:Below w.heap.size w w'):Yl w' B a c l:=Fx.Own.up h b
instance {w w':World} {B c:Nat} {a:Option Addr} {l:List Int}:Rt.Tr w w' (Yl w B a c l) (Yl w' B a c l):=⟨fun b h=>h.up b⟩
theorem JH{w:World}{B tp mb:Nat}{T:dO}(k:Int)(h:tH w B tp mb T) :
 Calls Tryz.prog 59 #[.pointer (some ⟨tp,0,none⟩),.int .u64 k] w fun e w' => ∃ a c,e = .returned (.slice a (T.path k).length c)/\Yl w' w.heap.size a c (T.path k)/\Below w.heap.size w w' :=
 Nz T.x T.p T.n tp mb 4 k w h.blk h.map h.inv.inj (h.inv.stop k) (h.inv.len k)
theorem UR{w:World}{B tp mb:Nat}{T:dO}(h:tH w B tp mb T) :
 Calls Tryz.prog 46 #[.pointer (some ⟨tp,0,none⟩)] w fun e w' => ∃ a c l,e = .returned (.slice a (List.length l) c)/\Yl w' w.heap.size a c l/\(l.Pairwise (· < ·) /\ ∀ k,k∈l<->T.has k=true)/\l.length<=32/\Below w.heap.size w w' :=
 (adT T.x T.p T.n tp mb w h.blk h.map h.inv).mono fun e w' ⟨a,c,l,b,d,f,g,i⟩=>⟨a,c,l,b,d,⟨f,fun k=>by have:=g k; rw[and_true]at this; exact this⟩,i⟩
namespace Rt
section
variable {T U:dO} {id pa k:Int}
structure vW(U T:dO):Prop where
 has : ∀ k,U.has k=true->T.has k=true
 par : ∀ k,U.has k=true->U.par k=T.par k
theorem vW.same(h:vW U T)(hx : ∀ k,T.has k=true->U.has k=true) : ∀ k,U.path k=T.path k:=fun k=>by
 have e : ∀ k,U.has k=T.has k:=fun k=>by
  cases h1:U.has k with
  | true=>exact(h.has k h1).symm
  | false =>
    cases h2:T.has k with
    | false=>rfl
    | true=>rw[hx k h2]at h1; cases h1
 exact Ib e (fun k a=>h.par k (hx k a)) 4 k
theorem dO.jN(T:dO)(id pa k:Int):(T.put id pa).has k=(T.has k || decide (id=k)):=Rt.jN id k
theorem dO.uI(T:dO)(id pa k:Int):(T.put id pa).par k=if id=k then pa else T.par k:=Rt.uI id pa k
end
end Rt
namespace Fx
theorem adU{P:Program}{f:Nat->Value}{w:World}{o:Oper}{T T':TypeId}{x y:Operand}{a b:Nat}(d:o.op = .binOp .or T x y T')(hx:ev f x = .int .u64 (1099511627776*(a:Int)))(hy:ev f y = .int .u64 (b:Int))(ha:a<=8388607)(g:b<1099511627776):Runs P f o w (.int .u64 (1099511627776*(a:Int)+b)) :=
 uF d hx hy (by
  have e:((BitVec.ofInt 64 (1099511627776*(a:Int)) ||| BitVec.ofInt 64 (b:Int)).toNat:Int)=1099511627776*(a:Int)+b:=by
   rw[BitVec.toNat_or,BitVec.toNat_ofInt,BitVec.toNat_ofInt];rw[show((1099511627776*(a:Int)) % ((2^64:Nat):Int)).toNat=1099511627776*a by omega,show((b:Int) % ((2^64:Nat):Int)).toNat=b by omega];have h:=Nat.shiftLeft_add_eq_or_of_lt (i:=40) (b:=b) (by omega) a;rw[Nat.shiftLeft_eq]at h;rw[show 1099511627776*a=a*2^40 by omega,<- h];omega
  have h:=jQ (c:=1099511627776*(a:Int)+b) (by omega) rfl;simp only[binOp,Op.intBits];show(pure (Value.int .u64 (IntKind.u64.wrap ((BitVec.ofInt 64 (1099511627776*(a:Int)) ||| BitVec.ofInt 64 (b:Int)).toNat:Int))):Sem Value).run P w=_;rw[e,h]; rfl)
theorem adV{w:World}{B c:Nat}{a:Option Addr}{l:List Int}(h:Yl w B a c l):Fx.nV w a l.length 1 (yK l):=Own.ain h (A_ _)
end Fx
end Go.Proofs.YtcbedgfikejkoaaGreatDoor
namespace Go.Proofs.YtcbedgfikejkoaaGreatDoor
open Go.RowKit Rt
open Fx (bf dF Lv sN Ln Ws Qv Wl Rp Wr Sb Wk rV sR Rs Rn Rd Wb Wx Wo Wt Qn yP zB DT qL fP zC uS vN wT zA A9 Ad rv aA aQ bG cK Stp aL flat dJ aS iU bE down jI nV bK bJ cells_one jg bA qR jQ iJ dK bL bU cZ dh gZ iH qm)
namespace Rt
structure EvM where
 o:Int
 seq:Int
 deps:Nat->Int
 kind:Int
 node:Int
 dst:Int
 aT:Int
 req:Int
 of:Int
def bI(v:EvM):Nat->Value:=fun p=>if p=0 then au v.o else if p=1 then aC v.seq else if p<8 then aC (v.deps (p-2))else if p=8 then .int .u8 v.kind else if p=9 then aC v.node else if p=10 then au v.dst else if p=11 then au v.aT else if p=12 then aC v.req else aC v.of
theorem mU(v:EvM){p j:Nat}(h:p=j+2)(a:j<6):bI v p=aC (v.deps j):=by
 subst h; unfold bI; rw[b_ (by omega),b_ (by omega),d_ (by omega),show j+2-2=j by omega]
theorem dW(v:EvM) : ∀ j,j<14->(bI v j).oneCell'=true:=fun j _=>by unfold bI; repeat (first|rfl|split)
def jy(i:Int):Bool:=decide (1<=i)&&decide (i<=6)
def kX(v:EvM):EvM :=
 if v.kind=1 then { v with dst:=0,req:=0,of:=0 } else if v.kind=2 then { v with dst:=0,req:=0,of:=0 } else if v.kind=3 then { v with dst:=0,of:=0 }
 else if v.kind=4 then { v with node:=0,dst:=0,aT:=0 } else if v.kind=5 then { v with req:=0,of:=0 } else if v.kind=6 then { v with node:=0,aT:=0,req:=0,of:=0 }
 else { v with node:=0,dst:=0,aT:=0,req:=0,of:=0 }
def someE(v:EvM):Bool:=decide (1<=v.aT)&&decide (v.aT<=1125899906842624)
def mH(v:EvM):Bool:=jy v.dst && !decide (v.dst=v.o)
def dH(v:EvM):Bool :=
 if v.kind=1 then decide (0<=v.aT)&&decide (v.aT<=1125899906842624)else if v.kind=2 then someE v else if v.kind=3 then someE v&&decide (1<=v.req)
 else if v.kind=4 then decide (1<=v.req)&&decide (1<=v.of) && !decide (v.req=v.of)else if v.kind=5 then someE v&&mH v else if v.kind=6 then mH v else decide (v.kind=7)
end Rt
theorem Ca(n:Int)(w:World) :
 Calls Tryz.prog 121 #[au n] w fun e w'=>e = .returned (.bool (jy n))/\w'=w:=by
 refine Kent Tryz.func121 9 ?_;refine ay<|av aF<|aD<|ay<|av (au n) ?_;by_cases a:1<=n
 ·refine Lv aG (kW a)<|av aG<|av (au n) ?_;by_cases b:n<=6
  ·refine Lv aG (oh b)<|av aG<|av aG<|aD<|Wr<|aJ aG ?_;exact⟨iF (by simp only[jy]; first|(symm; simp; omega)|(symm; simp; done)),rfl⟩
  refine Lv aF (oP b)<|av aF<|av aF<|aD<|Wr<|aJ aF ?_;exact⟨iF (by simp only[jy]; first|(symm; simp; omega)|(symm; simp; done)),rfl⟩
 refine Lv aF (kN a)<|av aF<|bS<|bS<|av aF<|av aF<|aD<|Wr<|aJ aF ?_;exact⟨iF (by simp only[jy]; first|(symm; simp; omega)|(symm; simp; done)),rfl⟩
theorem aio(v:EvM)(w:World) :
 Calls Tryz.prog 122 #[.agg (aA 14 (bI v))] w fun e w'=>e = .returned (.agg (aA 14 (bI (kX v))))/\Below w.heap.size w w':=by
 refine Kent Tryz.func122 60 ?_;refine ay<|pO fun b w1 ku x s1 z1 => ?_;have U:=bB s1.old (Below.refl w.heap.size w);have tC:=gN ku;have uK:=x.lt;refine nS 14 (fun i=>(#[au 0,aC 0,aC 0,aC 0,aC 0,aC 0,aC 0,aC 0,.int .u8 (0),aC 0,au 0,au 0,aC 0,aC 0]:Array Value).getD i undef) fun m w2 uO y s2 z2 => ?_;have⟨s,b2⟩:=fC s2.old x U;have qX:=iK uO U.size;have La:=cO uO x.lt;have zM:=y.lt;refine aD<|ay<|av (pt b)<|Lv (au v.o) (aM s.aH 0)<|av (pf b 1)<|Lv (aC v.seq) (aM s.aH 1)<|av (pf b 2)<|Lv (.agg (aA 6 (rv .u64 v.deps))) (fM s.aH 2 (fun j c=>mU _ (by omega) c))<|av (pf b 8)<|Lv (.int .u8 (v.kind)) (aM s.aH 8)<|av (.agg (aA 14 (bG (bG (bG (bG (fun i=>(#[au 0,aC 0,aC 0,aC 0,aC 0,aC 0,aC 0,aC 0,.int .u8 (0),aC 0,au 0,au 0,aC 0,aC 0]:Array Value).getD i undef) 0 1 (fun _=>au v.o)) 1 1 (fun _=>aC v.seq)) 2 6 (rv .u64 v.deps)) 8 1 (fun _ => .int .u8 (v.kind)))))<|nS 14 (fun i=>(#[au 0,aC 0,aC 0,aC 0,aC 0,aC 0,aC 0,aC 0,.int .u8 (0),aC 0,au 0,au 0,aC 0,aC 0]:Array Value).getD i undef) fun a w3 um m4 s3 z3 => ?_;have⟨m5,m6,b3⟩:=iY s3.old s y b2;have BF:=iK um b2.size;have⟨abP,aip⟩:=rD um s.lt y.lt;have GZ:=m4.lt;refine dM m4 0 (h1:=(fun j c=>by rcases j with _|_|_|_|_|_|_|_|_|_|_|_|_|_|j <;> first|rfl|omega)) fun w4 m7 O z4 => ?_
 have m8:aQ w4 a 14 (bG (bG (bG (bG (fun i=>(#[au 0,aC 0,aC 0,aC 0,aC 0,aC 0,aC 0,aC 0,.int .u8 (0),aC 0,au 0,au 0,aC 0,aC 0]:Array Value).getD i undef) 0 1 (fun _=>au v.o)) 1 1 (fun _=>aC v.seq)) 2 6 (rv .u64 v.deps)) 8 1 (fun _ => .int .u8 (v.kind))) 37:=aL m7;have k:aQ w4 a 14 (bI ⟨v.o,v.seq,v.deps,v.kind,0,0,0,0,0⟩) 37:=m8.congr (fun j c=>by rcases j with _|_|_|_|_|_|_|_|_|_|_|_|_|_|j <;> first|rfl|omega)
 have f:=m5.cu O (by omega);have n:=m6.cu O (by omega);have d:=O.below b3 b3.size (by omega);refine aD<|Ws<|ay<|av (pf b 8)<|Lv (.int .u8 (v.kind)) (aM f.aH 8)<|aD<|Wb<|Ws<|ay ?_;by_cases g:v.kind=1
 ·refine Lv aG (dZ g)<|av aG<|aD<|aN<|Wk<|sN<|aN<|ay<|av (pf b 9)<|Lv (aC v.node) (aM f.aH 9)<|av (pf a 9)<|ji k 9 (aC v.node) fun w5 m12 P z5 => ?_;have m13:aQ w5 a 14 (bI ⟨v.o,v.seq,v.deps,v.kind,v.node,0,0,0,0⟩) 37:=m12.congr (fun j c=>by rcases j with _|_|_|_|_|_|_|_|_|_|_|_|_|_|j <;> first|rfl|omega)
  have m14:=f.cu P (by omega);have m15:=n.cu P (by omega);have b5:=P.below d d.size (by omega);refine aD<|Wl<|av (pf b 11)<|Lv (au v.aT) (aM m14.aH 11)<|av (pf a 11)<|ji m13 11 (au v.aT) fun w6 m16 Q z6 => ?_;have m17:aQ w6 a 14 (bI ⟨v.o,v.seq,v.deps,v.kind,v.node,0,v.aT,0,0⟩) 37:=m16.congr (fun j c=>by rcases j with _|_|_|_|_|_|_|_|_|_|_|_|_|_|j <;> first|rfl|omega)
  have m18:=m14.cu Q (by omega);have m19:=m15.cu Q (by omega);have b6:=Q.below b5 b5.size (by omega);refine Ln<|bU<|sN<|ay<|Lv (.agg (aA 14 (bI ⟨v.o,v.seq,v.deps,v.kind,v.node,0,v.aT,0,0⟩))) (fM m17.aH 0)<|dM m19 0 (h1:=(dW _)) fun w7 m20 R z7 => ?_;have m21:aQ w7 m 14 (bI ⟨v.o,v.seq,v.deps,v.kind,v.node,0,v.aT,0,0⟩) 37:=aL m20;have m22:=m18.cu R (by omega);have m23:=m17.cu R (by omega);have b7:=R.below b6 b6.size (by omega);refine aD (Wr (⟨.agg (aA 14 (bI ⟨v.o,v.seq,v.deps,v.kind,v.node,0,v.aT,0,0⟩)),rV Tryz.results122 ⟨_,rfl,aS m21.aH (by kernel_rfl) (by kernel_rfl)⟩,?_⟩));refine⟨M_ (fun q=>Ending.returned (Value.agg q)) (Fx.dS fun i r => ?_),b7⟩;unfold kX; rw[d_ g]
 refine Lv aF (fB g)<|av aF<|aD<|aK<|Wl ?_;by_cases h:v.kind=2
 ·refine Lv aG (dZ h)<|av aG<|aD<|aN<|ay<|av (pf b 9)<|Lv (aC v.node) (aM f.aH 9)<|av (pf a 9)<|ji k 9 (aC v.node) fun w8 m24 S z8 => ?_;have nW:aQ w8 a 14 (bI ⟨v.o,v.seq,v.deps,v.kind,v.node,0,0,0,0⟩) 37:=m24.congr (fun j c=>by rcases j with _|_|_|_|_|_|_|_|_|_|_|_|_|_|j <;> first|rfl|omega)
  have oN:=f.cu S (by omega);have pU:=n.cu S (by omega);have b8:=S.below d d.size (by omega);refine aD<|Wl<|av (pf b 11)<|Lv (au v.aT) (aM oN.aH 11)<|av (pf a 11)<|ji nW 11 (au v.aT) fun w9 pV T z9 => ?_;have nX:aQ w9 a 14 (bI ⟨v.o,v.seq,v.deps,v.kind,v.node,0,v.aT,0,0⟩) 37:=pV.congr (fun j c=>by rcases j with _|_|_|_|_|_|_|_|_|_|_|_|_|_|j <;> first|rfl|omega)
  have ou:=oN.cu T (by omega);have lu:=pU.cu T (by omega);have b9:=T.below b8 b8.size (by omega);refine Ln<|bU<|sN<|ay<|Lv (.agg (aA 14 (bI ⟨v.o,v.seq,v.deps,v.kind,v.node,0,v.aT,0,0⟩))) (fM nX.aH 0)<|dM lu 0 (h1:=(dW _)) fun su m32 z YP => ?_;have oQ:aQ su m 14 (bI ⟨v.o,v.seq,v.deps,v.kind,v.node,0,v.aT,0,0⟩) 37:=aL m32;have nL:=ou.cu z (by omega);have oO:=nX.cu z (by omega);have b10:=z.below b9 b9.size (by omega);refine aD (Wr (⟨.agg (aA 14 (bI ⟨v.o,v.seq,v.deps,v.kind,v.node,0,v.aT,0,0⟩)),rV Tryz.results122 ⟨_,rfl,aS oQ.aH (by kernel_rfl) (by kernel_rfl)⟩,?_⟩));refine⟨M_ (fun q=>Ending.returned (Value.agg q)) (Fx.dS fun i r => ?_),b10⟩;unfold kX; rw[b_ g,d_ h]
 refine Lv aF (fB h)<|av aF<|aD<|aK<|ay ?_;by_cases l:v.kind=3
 ·refine Lv aG (dZ l)<|av aG<|aD<|aN<|ay<|av (pf b 9)<|Lv (aC v.node) (aM f.aH 9)<|av (pf a 9)<|ji k 9 (aC v.node) fun Ah nT A z11 => ?_;have qV:aQ Ah a 14 (bI ⟨v.o,v.seq,v.deps,v.kind,v.node,0,0,0,0⟩) 37:=nT.congr (fun j c=>by rcases j with _|_|_|_|_|_|_|_|_|_|_|_|_|_|j <;> first|rfl|omega)
  have qB:=f.cu A (by omega);have pE:=n.cu A (by omega);have V:=A.below d d.size (by omega);refine aD<|ay<|av (pf b 11)<|Lv (au v.aT) (aM qB.aH 11)<|av (pf a 11)<|ji qV 11 (au v.aT) fun BZ sJ B z12 => ?_;have mK:aQ BZ a 14 (bI ⟨v.o,v.seq,v.deps,v.kind,v.node,0,v.aT,0,0⟩) 37:=sJ.congr (fun j c=>by rcases j with _|_|_|_|_|_|_|_|_|_|_|_|_|_|j <;> first|rfl|omega)
  have ni:=qB.cu B (by omega);have mR:=pE.cu B (by omega);have W:=B.below V V.size (by omega);refine aD<|Wl<|av (pf b 12)<|Lv (aC v.req) (aM ni.aH 12)<|av (pf a 12)<|ji mK 12 (aC v.req) fun FK qw C z13 => ?_;have qW:aQ FK a 14 (bI ⟨v.o,v.seq,v.deps,v.kind,v.node,0,v.aT,v.req,0⟩) 37:=qw.congr (fun j c=>by rcases j with _|_|_|_|_|_|_|_|_|_|_|_|_|_|j <;> first|rfl|omega)
  have ow:=ni.cu C (by omega);have sK:=mR.cu C (by omega);have X:=C.below W W.size (by omega);refine Ln<|bU<|sN<|ay<|Lv (.agg (aA 14 (bI ⟨v.o,v.seq,v.deps,v.kind,v.node,0,v.aT,v.req,0⟩))) (fM qW.aH 0)<|dM sK 0 (h1:=(dW _)) fun K6 vE D z14 => ?_;have sM:aQ K6 m 14 (bI ⟨v.o,v.seq,v.deps,v.kind,v.node,0,v.aT,v.req,0⟩) 37:=aL vE;have rQ:=ow.cu D (by omega);have uM:=qW.cu D (by omega);have b14:=D.below X X.size (by omega);refine aD (Wr (⟨.agg (aA 14 (bI ⟨v.o,v.seq,v.deps,v.kind,v.node,0,v.aT,v.req,0⟩)),rV Tryz.results122 ⟨_,rfl,aS sM.aH (by kernel_rfl) (by kernel_rfl)⟩,?_⟩));refine⟨M_ (fun q=>Ending.returned (Value.agg q)) (Fx.dS fun i r => ?_),b14⟩;unfold kX; rw[b_ g,b_ h,d_ l]
 refine Lv aF (fB l)<|av aF<|aD<|aK<|ay ?_;by_cases p:v.kind=4
 ·refine Lv aG (dZ p)<|av aG<|aD<|aN<|ay<|av (pf b 12)<|Lv (aC v.req) (aM f.aH 12)<|av (pf a 12)<|ji k 12 (aC v.req) fun JE uw E z15 => ?_;have ug:aQ JE a 14 (bI ⟨v.o,v.seq,v.deps,v.kind,0,0,0,v.req,0⟩) 37:=uw.congr (fun j c=>by rcases j with _|_|_|_|_|_|_|_|_|_|_|_|_|_|j <;> first|rfl|omega)
  have uW:=f.cu E (by omega);have xk:=n.cu E (by omega);have Y:=E.below d d.size (by omega);refine aD<|Wl<|av (pf b 13)<|Lv (aC v.of) (aM uW.aH 13)<|av (pf a 13)<|ji ug 13 (aC v.of) fun w16 uh F z16 => ?_;have rR:aQ w16 a 14 (bI ⟨v.o,v.seq,v.deps,v.kind,0,0,0,v.req,v.of⟩) 37:=uh.congr (fun j c=>by rcases j with _|_|_|_|_|_|_|_|_|_|_|_|_|_|j <;> first|rfl|omega)
  have sw:=uW.cu F (by omega);have vU:=xk.cu F (by omega);have Z:=F.below Y Y.size (by omega);refine Ln<|bU<|sN<|ay<|Lv (.agg (aA 14 (bI ⟨v.o,v.seq,v.deps,v.kind,0,0,0,v.req,v.of⟩))) (fM rR.aH 0)<|dM vU 0 (h1:=(dW _)) fun Ph rE G z17 => ?_;have uj:aQ Ph m 14 (bI ⟨v.o,v.seq,v.deps,v.kind,0,0,0,v.req,v.of⟩) 37:=aL rE;have nY:=sw.cu G (by omega);have uy:=rR.cu G (by omega);have b17:=G.below Z Z.size (by omega);refine aD (Wr (⟨.agg (aA 14 (bI ⟨v.o,v.seq,v.deps,v.kind,0,0,0,v.req,v.of⟩)),rV Tryz.results122 ⟨_,rfl,aS uj.aH (by kernel_rfl) (by kernel_rfl)⟩,?_⟩));refine⟨M_ (fun q=>Ending.returned (Value.agg q)) (Fx.dS fun i r => ?_),b17⟩;unfold kX; rw[b_ g,b_ h,b_ l,d_ p]
 refine Lv aF (fB p)<|av aF<|aD<|aK<|ay ?_;by_cases t:v.kind=5
 ·refine Lv aG (dZ t)<|av aG<|aD<|aN<|ay<|av (pf b 9)<|Lv (aC v.node) (aM f.aH 9)<|av (pf a 9)<|ji k 9 (aC v.node) fun Un m64 H z18 => ?_;have xq:aQ Un a 14 (bI ⟨v.o,v.seq,v.deps,v.kind,v.node,0,0,0,0⟩) 37:=m64.congr (fun j c=>by rcases j with _|_|_|_|_|_|_|_|_|_|_|_|_|_|j <;> first|rfl|omega)
  have wI:=f.cu H (by omega);have vF:=n.cu H (by omega);have aa:=H.below d d.size (by omega);refine aD<|ay<|av (pf b 11)<|Lv (au v.aT) (aM wI.aH 11)<|av (pf a 11)<|ji xq 11 (au v.aT) fun w19 yt I z19 => ?_;have sO:aQ w19 a 14 (bI ⟨v.o,v.seq,v.deps,v.kind,v.node,0,v.aT,0,0⟩) 37:=yt.congr (fun j c=>by rcases j with _|_|_|_|_|_|_|_|_|_|_|_|_|_|j <;> first|rfl|omega)
  have vG:=wI.cu I (by omega);have uN:=vF.cu I (by omega);have ab:=I.below aa aa.size (by omega);refine aD<|Wl<|av (pf b 10)<|Lv (au v.dst) (aM vG.aH 10)<|av (pf a 10)<|ji sO 10 (au v.dst) fun Q7 vH J z20 => ?_;have vI:aQ Q7 a 14 (bI ⟨v.o,v.seq,v.deps,v.kind,v.node,v.dst,v.aT,0,0⟩) 37:=vH.congr (fun j c=>by rcases j with _|_|_|_|_|_|_|_|_|_|_|_|_|_|j <;> first|rfl|omega)
  have yL:=vG.cu J (by omega);have wJ:=uN.cu J (by omega);have b20:=J.below ab ab.size (by omega);refine Ln<|bU<|sN<|ay<|Lv (.agg (aA 14 (bI ⟨v.o,v.seq,v.deps,v.kind,v.node,v.dst,v.aT,0,0⟩))) (fM vI.aH 0)<|dM wJ 0 (h1:=(dW _)) fun w21 yV K z21 => ?_;have yX:aQ w21 m 14 (bI ⟨v.o,v.seq,v.deps,v.kind,v.node,v.dst,v.aT,0,0⟩) 37:=aL yV;have yM:=yL.cu K (by omega);have wK:=vI.cu K (by omega);have M7:=K.below b20 b20.size (by omega);refine aD (Wr (⟨.agg (aA 14 (bI ⟨v.o,v.seq,v.deps,v.kind,v.node,v.dst,v.aT,0,0⟩)),rV Tryz.results122 ⟨_,rfl,aS yX.aH (by kernel_rfl) (by kernel_rfl)⟩,?_⟩));refine⟨M_ (fun q=>Ending.returned (Value.agg q)) (Fx.dS fun i r => ?_),M7⟩;unfold kX; rw[b_ g,b_ h,b_ l,b_ p,d_ t]
 refine Lv aF (fB t)<|av aF<|aD<|aK<|ay ?_;by_cases u:v.kind=6
 ·refine Lv aG (dZ u)<|av aG<|aD<|aN<|Wl<|av (pf b 10)<|Lv (au v.dst) (aM f.aH 10)<|av (pf a 10)<|ji k 10 (au v.dst) fun w22 vV L z22 => ?_;have vJ:aQ w22 a 14 (bI ⟨v.o,v.seq,v.deps,v.kind,0,v.dst,0,0,0⟩) 37:=vV.congr (fun j c=>by rcases j with _|_|_|_|_|_|_|_|_|_|_|_|_|_|j <;> first|rfl|omega)
  have yu:=f.cu L (by omega);have zK:=n.cu L (by omega);have JD:=L.below d d.size (by omega);refine Ln<|bU<|sN<|ay<|Lv (.agg (aA 14 (bI ⟨v.o,v.seq,v.deps,v.kind,0,v.dst,0,0,0⟩))) (fM vJ.aH 0)<|dM zK 0 (h1:=(dW _)) fun w23 wL M z23 => ?_;have Ai:aQ w23 m 14 (bI ⟨v.o,v.seq,v.deps,v.kind,0,v.dst,0,0,0⟩) 37:=aL wL;have zL:=yu.cu M (by omega);have AB:=vJ.cu M (by omega);have SH:=M.below JD JD.size (by omega);refine aD (Wr (⟨.agg (aA 14 (bI ⟨v.o,v.seq,v.deps,v.kind,0,v.dst,0,0,0⟩)),rV Tryz.results122 ⟨_,rfl,aS Ai.aH (by kernel_rfl) (by kernel_rfl)⟩,?_⟩));refine⟨M_ (fun q=>Ending.returned (Value.agg q)) (Fx.dS fun i r => ?_),SH⟩;unfold kX; rw[b_ g,b_ h,b_ l,b_ p,b_ t,d_ u]
 refine Lv aF (fB u)<|av aF<|aD<|aK<|Wk<|bU<|sN<|ay<|Lv (.agg (aA 14 (bI ⟨v.o,v.seq,v.deps,v.kind,0,0,0,0,0⟩))) (fM k.aH 0)<|dM n 0 (h1:=(dW _)) fun w24 yY N z24 => ?_;have yZ:aQ w24 m 14 (bI ⟨v.o,v.seq,v.deps,v.kind,0,0,0,0,0⟩) 37:=aL yY;have Aj:=f.cu N (by omega);have Er:=k.cu N (by omega);have Pg:=N.below d d.size (by omega);refine aD (Wr (⟨.agg (aA 14 (bI ⟨v.o,v.seq,v.deps,v.kind,0,0,0,0,0⟩)),rV Tryz.results122 ⟨_,rfl,aS yZ.aH (by kernel_rfl) (by kernel_rfl)⟩,?_⟩));refine⟨M_ (fun q=>Ending.returned (Value.agg q)) (Fx.dS fun i r => ?_),Pg⟩;unfold kX; rw[b_ g,b_ h,b_ l,b_ p,b_ t,b_ u]
set_option linter.unusedSimpArgs false in
set_option maxHeartbeats 2000000 in
theorem Lb(v:EvM)(w:World) :
 Calls Tryz.prog 123 #[.agg (aA 14 (bI v))] w fun e w'=>e = .returned (.bool (dH v))/\Below w.heap.size w w':=by
 refine Kent Tryz.func123 75 ?_;refine ay<|pO fun g S M B N V => ?_;have I:=bB N.old (Below.refl w.heap.size w);have Q:=gN M;have R:=B.lt;refine av aF<|aD<|A9 (fun f F=>f 1=(pt g)/\f 3 = .bool (someE v)/\aQ F g 14 (bI v) 37/\Below w.heap.size w F) ?_ ?_
 ·refine Wl<|av (pf g 11)<|Lv (au v.aT) (aM B.aH 11) ?_;by_cases D:1<=v.aT
  ·refine Lv aG (kW D)<|av aG<|av (pf g 11)<|Lv (au v.aT) (aM B.aH 11) ?_;by_cases G:v.aT<=1125899906842624
   ·refine Lv aG (oh G)<|av aG<|av aG<|Ln ?_;exact qR ⟨(by rfl),(by show Value.bool true=Value.bool (someE v); unfold someE; rw[f_ D,f_ G]; rfl),B,I⟩
   refine Lv aF (oP G)<|av aF<|av aF<|Ln ?_;exact qR ⟨(by rfl),(by show Value.bool false=Value.bool (someE v); unfold someE; rw[f_ D,g_ G]; rfl),B,I⟩
  refine Lv aF (kN D)<|av aF<|bS<|bS<|bS<|av aF<|av aF<|Ln ?_;exact qR ⟨(by rfl),(by show Value.bool false=Value.bool (someE v); unfold someE; rw[g_ D]; rfl),B,I⟩
 rintro O T ⟨A,K,C,J⟩;refine A9 (fun f F=>f 1=(pt g)/\f 3 = .bool (someE v)/\f 4 = .bool (mH v)/\aQ F g 14 (bI v) 37/\Below w.heap.size w F) ?_ ?_
 ·refine Wl<|Lv (pf g 10) (jo A 10)<|Lv (au v.dst) (aM C.aH 10) ?_;by_cases t:(jy v.dst)=true
  ·refine lX (Ca v.dst _) aG (by rw[t])<|av aG<|Lv (pf g 10) (jo A 10)<|Lv (au v.dst) (aM C.aH 10)<|Lv (pt g) (jo A 0)<|Lv (au v.o) (aM C.aH 0) ?_;by_cases H:v.dst=v.o
   ·refine Lv aF (jR H)<|av aF<|av aF<|Ln ?_;exact qR ⟨A,K,(by show Value.bool false=Value.bool (mH v); unfold mH; rw[t,f_ H]; rfl),C,J⟩
   refine Lv aG (kY H)<|av aG<|av aG<|Ln ?_;exact qR ⟨A,K,(by show Value.bool true=Value.bool (mH v); unfold mH; rw[t,g_ H]; rfl),C,J⟩
  rw[U_]at t;refine lX (Ca v.dst _) aF (by rw[t])<|av aF<|bS<|bS<|bS<|bS<|bS<|av aF<|av aF<|Ln ?_;exact qR ⟨A,K,(by show Value.bool false=Value.bool (mH v); unfold mH; rw[t]; rfl),C,J⟩
 rintro P U ⟨m,E,L,n,h⟩;refine Ws<|ay<|Lv (pf g 8) (jo m 8)<|Lv (.int .u8 (v.kind)) (aM n.aH 8)<|aD<|Wb<|ay ?_;by_cases a:v.kind=1
 ·refine Lv aG (dZ a)<|av aG<|aD<|aN<|ay<|Lv (pf g 11) (jo m 11)<|Lv (au v.aT) (aM n.aH 11) ?_;by_cases p:0<=v.aT
  ·refine Lv aG (kW p)<|av aG<|Lv (pf g 11) (jo m 11)<|Lv (au v.aT) (aM n.aH 11) ?_;by_cases u:v.aT<=1125899906842624
   ·refine Lv aG (oh u)<|av aG<|av aG<|aD<|Wr<|bL<|sR<|aJ aG ?_;exact⟨iF (Eq.symm (by unfold dH; first|(rw[d_ a]; done)|(rw[d_ a]; first|(simp[p,u]; done)|(simp[p,u]; omega)))),h⟩
   refine Lv aF (oP u)<|av aF<|av aF<|aD<|Wr<|bL<|sR<|aJ aF ?_;exact⟨iF (Eq.symm (by unfold dH; first|(rw[d_ a]; done)|(rw[d_ a]; first|(simp[p,u]; done)|(simp[p,u]; omega)))),h⟩
  refine Lv aF (kN p)<|av aF<|bS<|bS<|bS<|av aF<|av aF<|aD<|Wr<|bL<|sR<|aJ aF ?_;exact⟨iF (Eq.symm (by unfold dH; first|(rw[d_ a]; done)|(rw[d_ a]; first|(simp[p]; done)|(simp[p]; omega)))),h⟩
 refine Lv aF (fB a)<|av aF<|aD<|aK<|ay ?_;by_cases b:v.kind=2
 ·refine Lv aG (dZ b)<|av aG<|aD<|aN<|ay<|aU E<|av (.bool (someE v))<|aD<|Wr<|bL<|sR<|aJ (.bool (someE v)) ?_;exact⟨iF (Eq.symm (by unfold dH; first|(rw[b_ a,d_ b]; done)|(rw[b_ a,d_ b]; first|(simp[]; done)|(simp[]; omega)))),h⟩
 refine Lv aF (fB b)<|av aF<|aD<|aK<|ay ?_;by_cases c:v.kind=3
 ·refine Lv aG (dZ c)<|av aG<|aD<|aN<|ay ?_;by_cases k:(someE v)=true
  ·refine aU (E.trans (M_ Value.bool k))<|av aG<|Lv (pf g 12) (jo m 12)<|Lv (aC v.req) (aM n.aH 12) ?_;by_cases x:1<=v.req
   ·refine Lv aG (kW x)<|av aG<|av aG<|aD<|Wr<|bL<|sR<|aJ aG ?_;exact⟨iF (Eq.symm (by unfold dH; first|(rw[b_ a,b_ b,d_ c]; done)|(rw[b_ a,b_ b,d_ c]; first|(simp[k,x]; done)|(simp[k,x]; omega)))),h⟩
   refine Lv aF (kN x)<|av aF<|av aF<|aD<|Wr<|bL<|sR<|aJ aF ?_;exact⟨iF (Eq.symm (by unfold dH; first|(rw[b_ a,b_ b,d_ c]; done)|(rw[b_ a,b_ b,d_ c]; first|(simp[k,x]; done)|(simp[k,x]; omega)))),h⟩
  rw[U_]at k;refine aU (E.trans (M_ Value.bool k))<|av aF<|bS<|bS<|bS<|av aF<|av aF<|aD<|Wr<|bL<|sR<|aJ aF ?_;exact⟨iF (Eq.symm (by unfold dH; first|(rw[b_ a,b_ b,d_ c]; done)|(rw[b_ a,b_ b,d_ c]; first|(simp[k]; done)|(simp[k]; omega)))),h⟩
 refine Lv aF (fB c)<|av aF<|aD<|aK<|ay ?_;by_cases d:v.kind=4
 ·refine Lv aG (dZ d)<|av aG<|aD<|aN<|ay<|Lv (pf g 12) (jo m 12)<|Lv (aC v.req) (aM n.aH 12) ?_;by_cases j:1<=v.req
  ·refine Lv aG (kW j)<|av aG<|Lv (pf g 13) (jo m 13)<|Lv (aC v.of) (aM n.aH 13) ?_;by_cases q:1<=v.of
   ·refine Lv aG (kW q)<|av aG<|av aG<|Lv (pf g 12) (jo m 12)<|Lv (aC v.req) (aM n.aH 12)<|Lv (pf g 13) (jo m 13)<|Lv (aC v.of) (aM n.aH 13) ?_;by_cases y:v.req=v.of
    ·refine Lv aF (jR y)<|av aF<|av aF<|aD<|Wr<|bL<|sR<|aJ aF ?_;exact⟨iF (Eq.symm (by unfold dH; first|(rw[b_ a,b_ b,b_ c,d_ d]; done)|(rw[b_ a,b_ b,b_ c,d_ d]; first|(simp[j,q,y]; done)|(simp[j,q,y]; omega)))),h⟩
    refine Lv aG (kY y)<|av aG<|av aG<|aD<|Wr<|bL<|sR<|aJ aG ?_;exact⟨iF (Eq.symm (by unfold dH; first|(rw[b_ a,b_ b,b_ c,d_ d]; done)|(rw[b_ a,b_ b,b_ c,d_ d]; first|(simp[j,q,y]; done)|(simp[j,q,y]; omega)))),h⟩
   refine Lv aF (kN q)<|av aF<|av aF<|bS<|bS<|bS<|bS<|bS<|av aF<|av aF<|aD<|Wr<|bL<|sR<|aJ aF ?_;exact⟨iF (Eq.symm (by unfold dH; first|(rw[b_ a,b_ b,b_ c,d_ d]; done)|(rw[b_ a,b_ b,b_ c,d_ d]; first|(simp[j,q]; done)|(simp[j,q]; omega)))),h⟩
  refine Lv aF (kN j)<|av aF<|bS<|bS<|bS<|av aF<|av aF<|bS<|bS<|bS<|bS<|bS<|av aF<|av aF<|aD<|Wr<|bL<|sR<|aJ aF ?_;exact⟨iF (Eq.symm (by unfold dH; first|(rw[b_ a,b_ b,b_ c,d_ d]; done)|(rw[b_ a,b_ b,b_ c,d_ d]; first|(simp[j]; done)|(simp[j]; omega)))),h⟩
 refine Lv aF (fB d)<|av aF<|aD<|aK<|ay ?_;by_cases i:v.kind=5
 ·refine Lv aG (dZ i)<|av aG<|aD<|aN<|ay ?_;by_cases l:(someE v)=true
  ·refine aU (E.trans (M_ Value.bool l))<|av aG ?_;by_cases s:(mH v)=true
   ·refine aU (L.trans (M_ Value.bool s))<|av aG<|av aG<|aD<|Wr<|bL<|sR<|aJ aG ?_;exact⟨iF (Eq.symm (by unfold dH; first|(rw[b_ a,b_ b,b_ c,b_ d,d_ i]; done)|(rw[b_ a,b_ b,b_ c,b_ d,d_ i]; first|(simp[l,s]; done)|(simp[l,s]; omega)))),h⟩
   rw[U_]at s;refine aU (L.trans (M_ Value.bool s))<|av aF<|av aF<|aD<|Wr<|bL<|sR<|aJ aF ?_;exact⟨iF (Eq.symm (by unfold dH; first|(rw[b_ a,b_ b,b_ c,b_ d,d_ i]; done)|(rw[b_ a,b_ b,b_ c,b_ d,d_ i]; first|(simp[l,s]; done)|(simp[l,s]; omega)))),h⟩
  rw[U_]at l;refine aU (E.trans (M_ Value.bool l))<|av aF<|bS<|av aF<|av aF<|aD<|Wr<|bL<|sR<|aJ aF ?_;exact⟨iF (Eq.symm (by unfold dH; first|(rw[b_ a,b_ b,b_ c,b_ d,d_ i]; done)|(rw[b_ a,b_ b,b_ c,b_ d,d_ i]; first|(simp[l]; done)|(simp[l]; omega)))),h⟩
 refine Lv aF (fB i)<|av aF<|aD<|aK<|ay ?_;by_cases r:v.kind=6
 ·refine Lv aG (dZ r)<|av aG<|aD<|aN<|ay<|aU L<|av (.bool (mH v))<|aD<|Wr<|bL<|sR<|aJ (.bool (mH v)) ?_;exact⟨iF (Eq.symm (by unfold dH; first|(rw[b_ a,b_ b,b_ c,b_ d,b_ i,d_ r]; done)|(rw[b_ a,b_ b,b_ c,b_ d,b_ i,d_ r]; first|(simp[]; done)|(simp[]; omega)))),h⟩
 refine Lv aF (fB r)<|av aF<|aD<|aK<|Wk<|bU<|sN<|ay<|Lv (pf g 8) (jo m 8)<|Lv (.int .u8 (v.kind)) (aM n.aH 8) ?_;by_cases z:v.kind=7
 ·refine Lv aG (dZ z)<|av aG<|aD<|Wr<|aJ aG ?_;exact⟨iF (Eq.symm (by unfold dH; first|(rw[b_ a,b_ b,b_ c,b_ d,b_ i,b_ r]; done)|(rw[b_ a,b_ b,b_ c,b_ d,b_ i,b_ r]; first|(simp[z]; done)|(simp[z]; omega)))),h⟩
 refine Lv aF (fB z)<|av aF<|aD<|Wr<|aJ aF ?_;exact⟨iF (Eq.symm (by unfold dH; first|(rw[b_ a,b_ b,b_ c,b_ d,b_ i,b_ r]; done)|(rw[b_ a,b_ b,b_ c,b_ d,b_ i,b_ r]; first|(simp[z]; done)|(simp[z]; omega)))),h⟩
namespace Rt
def jA(n:Int):Prop:=0<=n/\n<=18446744073709551615
def tJ(n:Int):Prop := -9223372036854775808<=n/\n<=9223372036854775807
structure gI(v:EvM):Prop where
 o:tJ v.o
 seq:jA v.seq
 deps : ∀ i,i<6->jA (v.deps i)
 kind:0<=v.kind/\v.kind<=255
 node:jA v.node
 dst:tJ v.dst
 aT:tJ v.aT
 req:jA v.req
 of:jA v.of
theorem gI.own{v:EvM}(h:gI v):gI (kX v):=by
 have z:jA 0:=⟨by decide,by decide⟩;have y:tJ 0:=⟨by decide,by decide⟩;unfold kX;split
 ·exact⟨h.o,h.seq,h.deps,h.kind,h.node,y,h.aT,z,z⟩
 split
 ·exact⟨h.o,h.seq,h.deps,h.kind,h.node,y,h.aT,z,z⟩
 split
 ·exact⟨h.o,h.seq,h.deps,h.kind,h.node,y,h.aT,h.req,z⟩
 split
 ·exact⟨h.o,h.seq,h.deps,h.kind,z,y,y,h.req,h.of⟩
 split
 ·exact⟨h.o,h.seq,h.deps,h.kind,h.node,h.dst,h.aT,z,z⟩
 split
 ·exact⟨h.o,h.seq,h.deps,h.kind,z,h.dst,y,z,z⟩
 exact⟨h.o,h.seq,h.deps,h.kind,z,y,y,z,z⟩
theorem AJ{v:EvM}(h:gI v):Fx.Kd [(some .i64),(some .u64),(some .u64),(some .u64),(some .u64),(some .u64),(some .u64),(some .u64),(some .u8),(some .u64),(some .i64),(some .i64),(some .u64),(some .u64)] (bI v):=by
 have a : ∀(k:IntKind) (n:Int),(Lit.int k n).wf=true -> ∃ l,uG (some k) (.int k n)=some l:=fun k n d=>by
  obtain⟨l,c⟩:=Fx.Tm (k:=k) (n:=1) (x:=fun _=>n) (fun _ _=>d) 0 (by simp);exact⟨l,c⟩
 intro i b;have e:i<14:=b
 rcases i with _|_|_|_|_|_|_|_|_|_|_|_|_|_|i
 ·exact a .i64 v.o (Fx.Yx h.o)
 ·exact a .u64 v.seq (Fx.vL h.seq)
 ·exact a .u64 (v.deps 0) (Fx.vL (h.deps 0 (by decide)))
 ·exact a .u64 (v.deps 1) (Fx.vL (h.deps 1 (by decide)))
 ·exact a .u64 (v.deps 2) (Fx.vL (h.deps 2 (by decide)))
 ·exact a .u64 (v.deps 3) (Fx.vL (h.deps 3 (by decide)))
 ·exact a .u64 (v.deps 4) (Fx.vL (h.deps 4 (by decide)))
 ·exact a .u64 (v.deps 5) (Fx.vL (h.deps 5 (by decide)))
 ·exact a .u8 v.kind (Fx.amV h.kind)
 ·exact a .u64 v.node (Fx.vL h.node)
 ·exact a .i64 v.dst (Fx.Yx h.dst)
 ·exact a .i64 v.aT (Fx.Yx h.aT)
 ·exact a .u64 v.req (Fx.vL h.req)
 ·exact a .u64 v.of (Fx.vL h.of)
 omega
def xu(v:EvM):Bool:=(List.range 6).all fun i=>decide (v.deps i<1099511627776)
def qC(v:EvM):Bool:=decide (v.node=(kX v).node)&&decide (v.dst=(kX v).dst)&&decide (v.aT=(kX v).aT)&&decide (v.req=(kX v).req)&&decide (v.of=(kX v).of)
def bR(v:EvM):Bool:=jy v.o&&decide (1<=v.seq)&&decide (v.seq<1099511627776)&&decide (v.deps (v.o-1).toNat=v.seq-1)&&xu v&&qC v&&dH v
theorem UU(v:EvM):(kX v).o=v.o/\(kX v).seq=v.seq/\(kX v).deps=v.deps/\(kX v).kind=v.kind:=by
 unfold kX; repeat (first|exact⟨rfl,rfl,rfl,rfl⟩|split)
theorem CX(v:EvM):qC v=true <-> ∀ i,i<14->bI v i=bI (kX v) i:=by
 obtain⟨m,n,p,q⟩:=UU v;unfold qC;simp only[T_,decide_eq_true_eq];constructor
 ·rintro ⟨⟨⟨⟨a,b⟩,c⟩,d⟩,e⟩ i r;have:kX v=v:=by
   cases hv:kX v with
   | mk o seq deps kind node dst aT req of =>
     rw[hv]at m n p q a b c d e
     cases v; simp_all
  rw[this]
 intro h;have l:Value.int .u64 v.node=aC (kX v).node:=h 9 (by decide);have f:Value.int .i64 v.dst=au (kX v).dst:=h 10 (by decide);have g:Value.int .i64 v.aT=au (kX v).aT:=h 11 (by decide);have j:Value.int .u64 v.req=aC (kX v).req:=h 12 (by decide);have k:Value.int .u64 v.of=aC (kX v).of:=h 13 (by decide);simp only[Value.int.injEq,true_and]at l f g j k;exact⟨⟨⟨⟨l,f⟩,g⟩,j⟩,k⟩
theorem eU{i:Int}(h:jy i=true) : ∃ a:Nat,a<6/\i=(a:Int)+1:=by
 unfold jy at h; simp at h;obtain⟨a,b⟩:=Int.eq_ofNat_of_zero_le (show 0<=i-1 by omega);exact⟨a,by omega,by omega⟩
theorem Ij{v:EvM}{k:Nat}(a:k<6)(h:1099511627776<=v.deps k):xu v=false:=by
 unfold xu; rw[List.all_eq_false]; exact⟨k,P_.2 a,by simp; omega⟩
theorem xw{v:EvM}{k:Nat}(b : ¬ (k:Int)<6)(h : ∀ i,i<k->v.deps i<1099511627776):xu v=true:=by
 unfold xu; rw[List.all_eq_true]; intro i a; have:=P_.1 a; simp; exact h i (by omega)
theorem Q9{v:EvM}{k:Nat}(h : ∀ i,i<k->v.deps i<1099511627776)(a:v.deps k<1099511627776) : ∀ i,i<k+1->v.deps i<1099511627776:=fun i b=>by
 by_cases e:i=k
 ·subst e; exact a
 ·exact h i (by omega)
theorem je{v:EvM}(h:bR v=true):jy v.o=true:=by
 unfold bR at h; simp only[T_]at h; exact h.1.1.1.1.1.1
end Rt
set_option maxHeartbeats 2000000 in
theorem Ik(v:EvM)(w:World)(D:gI v) :
 Calls Tryz.prog 78 #[.agg (aA 14 (bI v))] w fun e w'=>e = .returned (.bool (bR v))/\Below w.heap.size w w':=by
 refine Kent Tryz.func78 47 ?_;refine ay<|pO fun m w1 Q q s1 z1 => ?_;have t:=bB s1.old (Below.refl w.heap.size w);have tC:=gN Q;have uK:=q.lt;refine av aF<|aD<|Ws<|Ws ?_;refine nD<|aX (pt m)<|Qv (au v.o) (fun c b=>aM (q.cb b) 0) ?_;by_cases j:(jy v.o)=true
 ·obtain⟨a,ha,ea⟩:=eU j;refine qO (fun _ _=>Ca v.o _) aG (by rw[j])<|aX aF<|aX aF<|aX (pf m 1)<|Qv (aC v.seq) (fun c b=>aM (q.cb b) 1) ?_;by_cases F:v.seq<1
  ·refine Qv aG (fun c b=>iD F)<|aX aG<|aX aG<|aR<|aR<|aR<|aX aG<|aX aG<|aR<|aR<|aR<|aR<|aR<|aR<|aR<|aR<|aR<|aR<|aX aG<|Qn ?_;intro YL R;have⟨d,J⟩:=fC R q t;refine sN<|aN<|ay<|av aF<|aD<|Wr<|sR<|aJ aF ?_;have d:decide (1<=v.seq)=false:=g_ (by omega);exact⟨iF (Eq.symm (by unfold bR; rw[j,d]; rfl)),J⟩
  refine Qv aF (fun c b=>iE F)<|aX aF<|aX aF<|aX (pf m 1)<|Qv (aC v.seq) (fun c b=>aM (q.cb b) 1) ?_;by_cases G:1099511627776<=v.seq
  ·refine Qv aG (fun c b=>kW G)<|aX aG<|aX aG<|aR<|aR<|aR<|aR<|aR<|aR<|aR<|aR<|aR<|aR<|aX aG<|Qn ?_;intro wb2 S;have⟨l,K⟩:=fC S q t;refine sN<|aN<|ay<|av aF<|aD<|Wr<|sR<|aJ aF ?_;have d:decide (1<=v.seq)=true:=f_ (by omega);have l:decide (v.seq<1099511627776)=false:=g_ (by omega);exact⟨iF (Eq.symm (by unfold bR; rw[j,d,l]; rfl)),K⟩
  refine Qv aF (fun c b=>kN G)<|aX aF<|aX aF<|aX (pt m)<|Qv (au v.o) (fun c b=>aM (q.cb b) 0)<|Qv (au a) (fun c b=>gP)<|aX (pf m 2)<|Qv (pf m (a+2)) (fun c b=>jD 6 1)<|Qv (aC (v.deps a)) (fun c b=>aM (q.cb b) (a+2) (mU _ (by omega) (by omega)))<|aX (pf m 1)<|Qv (aC v.seq) (fun c b=>aM (q.cb b) 1)<|Qv (aC (v.seq-1)) (fun c b=>gP) ?_;by_cases r:(v.deps a)=(v.seq-1)
  ·refine Qv aF (fun c b=>jR r)<|aX aF<|Qn ?_;intro wb3 T;have⟨p,L⟩:=fC T q t;refine sN<|aK<|Wk<|sN<|Ws<|ay<|av (au 0)<|aD<|Wb<|Wo (fun f H => ∃ k:Nat,k<=6/\(∀ i,i<k->v.deps i<1099511627776)/\f 1=(pt m)/\f 3=au (k:Int)/\aQ H m 14 (bI v) 37/\Below w.heap.size w H) (fun f _=>(6-(intOf (f 3)).toNat)) ⟨0,by omega,(fun i h=>N_ h (by omega)),(by rfl),Fx.ic,p,L⟩ ?_;rintro f1 w2 ⟨k,hk,C,A,B,g,u⟩;refine Ws<|ay<|aU B ?_;by_cases x:(k:Int)<6
   ·refine Lv aG (iD x)<|aD<|aN<|Wk<|sN<|Ws<|Wb<|ay<|aU B<|Lv (pf m 2) (jo A 2)<|Lv (pf m (k+2)) (jD 6 1)<|Lv (aC (v.deps k)) (aM g.aH (k+2) (mU _ (by omega) (by omega))) ?_;by_cases E:1099511627776<=(v.deps k)
    ·refine Lv aG (kW E)<|aD<|aN<|ay<|av aF<|aD<|Wr<|bL<|sR<|qm<|bL<|sR<|aJ aF ?_;have d:decide (1<=v.seq)=true:=f_ (by omega);have l:decide (v.seq<1099511627776)=true:=f_ (by omega);have p:decide (v.deps (v.o-1).toNat=v.seq-1)=true:=f_ (by rw[show(v.o-1).toNat=a by omega]; exact r);have g:=Ij (by omega) E;exact⟨iF (Eq.symm (by unfold bR; rw[j,d,l,p,g]; rfl)),u⟩
    refine Lv aF (kN E)<|aD<|aK<|Wk<|bU<|sN<|Wl<|aU B<|Lv (au ((k:Int)+1)) fH<|av (au ((k:Int)+1))<|Ln<|iH ⟨k+1,by omega,(Q9 C (by omega)),A,Fx.ic,g,u⟩ ?_;show(6-(intOf (au ((k:Int)+1))).toNat)<_;simp only[B,intOf]; omega
   refine Lv aF (iE x)<|aD<|aK<|Wx<|cZ<|gZ<|dh<|sN<|Ws ?_;refine nD<|Qv (.agg (aA 14 (bI v))) (fun c b=>fM (g.cb b) 0 (ha:=A))<|Qv (.agg (aA 14 (bI v))) (fun c b=>fM (g.cb b) 0 (ha:=A))<|Ae (fun _ _=>aio v _) _ rfl ?_;by_cases y : ∀ i,i<14->(bI v) i=(bI (kX v)) i
   ·refine Qv aG (fun c b=>Fx.wQ (n:=14) (ks := [(some .i64),(some .u64),(some .u64),(some .u64),(some .u64),(some .u64),(some .u64),(some .u64),(some .u8),(some .u64),(some .i64),(some .i64),(some .u64),(some .u64)]) (X:=bI v) (Y:=bI (kX v)) 12 true rfl rfl rfl (Fx.Tn y) (AJ D) (AJ D.own) rfl (by kernel_rfl) (by kernel_rfl) (by kernel_rfl) (by kernel_rfl) (by kernel_rfl))<|aX aG<|Qv (.agg (aA 14 (bI v))) (fun c b=>fM (g.cb b) 0 (ha:=A)) ?_;by_cases z:(dH v)=true
    ·refine Ae (fun _ _=>Lb v _) aG (by rw[z])<|aX aG<|aX aG<|Qn ?_;intro wb4 U;have⟨s,M⟩:=fC U g u;refine sN<|Wr<|aJ aG ?_;have d:decide (1<=v.seq)=true:=f_ (by omega);have l:decide (v.seq<1099511627776)=true:=f_ (by omega);have p:decide (v.deps (v.o-1).toNat=v.seq-1)=true:=f_ (by rw[show(v.o-1).toNat=a by omega]; exact r);have g:=xw x C;have s:=(CX v).2 y;exact⟨iF (Eq.symm (by unfold bR; rw[j,d,l,p,g,s,z]; rfl)),M⟩
    rw[U_]at z;refine Ae (fun _ _=>Lb v _) aF (by rw[z])<|aX aF<|aX aF<|Qn ?_;intro wb5 V;have N:=bB V u;refine sN<|Wr<|aJ aF ?_;have d:decide (1<=v.seq)=true:=f_ (by omega);have l:decide (v.seq<1099511627776)=true:=f_ (by omega);have p:decide (v.deps (v.o-1).toNat=v.seq-1)=true:=f_ (by rw[show(v.o-1).toNat=a by omega]; exact r);have g:=xw x C;have s:=(CX v).2 y;exact⟨iF (Eq.symm (by unfold bR; rw[j,d,l,p,g,s,z]; rfl)),N⟩
   refine Qv aF (fun c b=>Fx.wQ (n:=14) (ks := [(some .i64),(some .u64),(some .u64),(some .u64),(some .u64),(some .u64),(some .u64),(some .u64),(some .u8),(some .u64),(some .i64),(some .i64),(some .u64),(some .u64)]) (X:=bI v) (Y:=bI (kX v)) 12 false rfl rfl rfl (Fx.nob y) (AJ D) (AJ D.own) rfl (by kernel_rfl) (by kernel_rfl) (by kernel_rfl) (by kernel_rfl) (by kernel_rfl))<|aX aF<|aR<|aR<|aX aF<|aX aF<|Qn ?_;intro wb6 W;have O:=bB W u;refine sN<|Wr<|aJ aF ?_;have d:decide (1<=v.seq)=true:=f_ (by omega);have l:decide (v.seq<1099511627776)=true:=f_ (by omega);have p:decide (v.deps (v.o-1).toNat=v.seq-1)=true:=f_ (by rw[show(v.o-1).toNat=a by omega]; exact r);have g:=xw x C;have s:qC v=false:=Bool.eq_false_iff.2 (fun h=>y ((CX v).1 h));exact⟨iF (Eq.symm (by unfold bR; rw[j,d,l,p,g,s]; rfl)),O⟩
  refine Qv aG (fun c b=>kY r)<|aX aG<|Qn ?_;intro wb7 Z;have P:=bB Z t;refine sN<|aN<|ay<|av aF<|aD<|Wr<|sR<|aJ aF ?_;have d:decide (1<=v.seq)=true:=f_ (by omega);have l:decide (v.seq<1099511627776)=true:=f_ (by omega);have p:decide (v.deps (v.o-1).toNat=v.seq-1)=false:=g_ (by rw[show(v.o-1).toNat=a by omega]; exact r);exact⟨iF (Eq.symm (by unfold bR; rw[j,d,l,p]; rfl)),P⟩
 rw[U_]at j;refine qO (fun _ _=>Ca v.o _) aF (by rw[j])<|aX aG<|aX aG<|aR<|aR<|aR<|aX aG<|aX aG<|aR<|aR<|aR<|aX aG<|aX aG<|aR<|aR<|aR<|aR<|aR<|aR<|aR<|aR<|aR<|aR<|aX aG<|Qn ?_;intro wb8 aa;have I:=bB aa t;refine sN<|aN<|ay<|av aF<|aD<|Wr<|sR<|aJ aF ?_;exact⟨iF (Eq.symm (by unfold bR; rw[j]; rfl)),I⟩
namespace Rt
def mV(K:Nat->Int)(v:EvM):Bool:=bR v&&decide (v.seq<=K (v.o-1).toNat)
def za(D K:Nat->Int):Bool:=(List.range 6).all fun i=>decide (D i<=K i)
def dG(K:Nat->Int)(v:EvM):Bool:=bR v&&decide (v.seq=K (v.o-1).toNat+1)&&za v.deps K
theorem UW{D K:Nat->Int}{k:Nat}(a:k<6)(h:K k<D k):za D K=false:=by
 unfold za; rw[List.all_eq_false]; exact⟨k,P_.2 a,by simp; omega⟩
theorem Ra{D K:Nat->Int}{k:Nat}(b : ¬ (k:Int)<6)(h : ∀ i,i<k->D i<=K i):za D K=true:=by
 unfold za; rw[List.all_eq_true]; intro i a; have:=P_.1 a; simp; exact h i (by omega)
theorem le_step{D K:Nat->Int}{k:Nat}(h : ∀ i,i<k->D i<=K i)(b : ¬ K k<D k) : ∀ i,i<k+1->D i<=K i:=fun i a=>by
 by_cases e:i=k
 ·subst e; omega
 ·exact h i (by omega)
def Es(K:Nat->Int):Prop := ∀ i,i<6->0<=K i/\K i<1099511627776
theorem EM{v:EvM}(h:bR v=true):1<=v.seq/\v.seq<1099511627776:=by
 unfold bR at h; simp only[T_,decide_eq_true_eq]at h; exact⟨h.1.1.1.1.1.2,h.1.1.1.1.2⟩
end Rt
theorem UY(K:Nat->Int)(v:EvM)(w:World)(m:gI v) :
 Calls Tryz.prog 79 #[.agg (aA 6 (rv .u64 K)),.agg (aA 14 (bI v))] w fun e w'=>e = .returned (.bool (mV K v))/\Below w.heap.size w w':=by
 refine Kent Tryz.func79 17 ?_;refine ay<|pO fun s I r i z O => ?_;have j:=bB z.old (Below.refl w.heap.size w);have D:=gN r;have G:=i.lt;refine pO fun l J k c A P => ?_;have⟨y,h⟩:=fC A.old i j;have E:=iK k j.size;have F:=cO k i.lt;have H:=c.lt;refine av aF<|aD<|Ws ?_;refine nD<|Qv (.agg (aA 14 (bI v))) (fun f b=>fM (c.cb b) 0) ?_;by_cases d:(bR v)=true
 ·obtain⟨a,C,B⟩:=eU (je d);refine Ae (fun _ _=>Ik v _ m) aG (by rw[d])<|aX aG<|aX (pf l 1)<|Qv (aC v.seq) (fun f b=>aM (c.cb b) 1)<|aX (pt l)<|Qv (au v.o) (fun f b=>aM (c.cb b) 0)<|Qv (au a) (fun f b=>gP)<|Qv (pf s a) (fun f b=>jD 6 1)<|Qv (aC (K a)) (fun f b=>aM (y.cb b) a) ?_;by_cases g:v.seq<=(K a)
  ·refine Qv aG (fun f b=>oh g)<|aX aG<|aX aG<|Qn ?_;intro L t;have n:=bB t h;refine sN<|Wr<|aJ aG ?_;have c:decide (v.seq<=K (v.o-1).toNat)=true:=f_ (by rw[show(v.o-1).toNat=a by omega]; exact g);exact⟨iF (Eq.symm (by unfold mV; rw[d,c]; rfl)),n⟩
  refine Qv aF (fun f b=>oP g)<|aX aF<|aX aF<|Qn ?_;intro M u;have p:=bB u h;refine sN<|Wr<|aJ aF ?_;have c:decide (v.seq<=K (v.o-1).toNat)=false:=g_ (by rw[show(v.o-1).toNat=a by omega]; exact g);exact⟨iF (Eq.symm (by unfold mV; rw[d,c]; rfl)),p⟩
 rw[U_]at d;refine Ae (fun _ _=>Ik v _ m) aF (by rw[d])<|aX aF<|aR<|aR<|aR<|aR<|aR<|aR<|aR<|aR<|aX aF<|aX aF<|Qn ?_;intro N x;have q:=bB x h;refine sN<|Wr<|aJ aF ?_;exact⟨iF (Eq.symm (by unfold mV; rw[d]; rfl)),q⟩
theorem Pk(K:Nat->Int)(v:EvM)(w:World)(H:gI v)(R:Es K) :
 Calls Tryz.prog 80 #[.agg (aA 6 (rv .u64 K)),.agg (aA 14 (bI v))] w fun e w'=>e = .returned (.bool (dG K v))/\Below w.heap.size w w':=by
 refine Kent Tryz.func80 32 ?_;refine ay<|pO fun s w1 Q A s1 z1 => ?_;have C:=bB s1.old (Below.refl w.heap.size w);have tC:=gN Q;have uK:=A.lt;refine pO fun l w2 D d s2 z2 => ?_;have⟨m,t⟩:=fC s2.old A C;have qX:=iK D C.size;have La:=cO D A.lt;have zM:=d.lt;refine av aF<|aD<|Ws<|Ws ?_;refine nD<|Qv (.agg (aA 14 (bI v))) (fun c b=>fM (d.cb b) 0) ?_;by_cases g:(bR v)=true
 ·obtain⟨a,S,ea⟩:=eU (je g);have ka:=R a S;refine Ae (fun _ _=>Ik v _ H) aG (by rw[g])<|aX aF<|aX aF<|aX (pf l 1)<|Qv (aC v.seq) (fun c b=>aM (d.cb b) 1)<|aX (pt l)<|Qv (au v.o) (fun c b=>aM (d.cb b) 0)<|Qv (au a) (fun c b=>gP)<|Qv (pf s a) (fun c b=>jD 6 1)<|Qv (aC (K a)) (fun c b=>aM (m.cb b) a)<|Qv (aC ((K a)+1)) (fun c b=>fH) ?_;by_cases n:v.seq=((K a)+1)
  ·refine Qv aF (fun c b=>jR n)<|aX aF<|Qn ?_;intro YL T;have⟨Y,Z,L⟩:=iY T m d t;refine sN<|aK<|Wk<|sN<|Ws<|ay<|av (au 0)<|aD<|Wb<|Wo (fun f B => ∃ k:Nat,k<=6/\(∀ i,i<k->v.deps i<=K i)/\f 2=(pt s)/\f 3=(pt l)/\f 5=au (k:Int)/\aQ B s 6 (rv .u64 K) 35/\aQ B l 14 (bI v) 37/\Below w.heap.size w B) (fun f _=>(6-(intOf (f 5)).toNat)) ⟨0,by omega,(fun i h=>N_ h (by omega)),(by rfl),(by rfl),Fx.ic,Y,Z,L⟩ ?_;rintro f1 j ⟨k,hk,G,E,F,p,I,J,u⟩;refine Ws<|ay<|aU p ?_;by_cases x:(k:Int)<6
   ·refine Lv aG (iD x)<|aD<|aN<|Wk<|sN<|Ws<|Wb<|Ws ?_;refine Af<|eT p<|Qv (pf l 2) (fun c b=>jo F 2)<|Qv (pf l (k+2)) (fun c b=>jD 6 1)<|Qv (aC (v.deps k)) (fun c b=>aM (J.aH.dr b) (k+2) (mU _ (by omega) (by omega)))<|eT p<|Qv (pf s k) (fun c b=>jD 6 1 (hx:=E))<|Qv (aC (K k)) (fun c b=>aM (I.aH.dr b) k) ?_;by_cases r:(K k)<(v.deps k)
    ·refine Qv aG (fun c b=>nA r)<|Qn ?_;rintro _ ⟨q,rfl⟩;obtain⟨Et,y⟩ : ∃ c,c=World.drewN j q:=⟨_,rfl⟩;rw[<- y];have s4:Stp j.heap.size j Et:=(by rw[y]; exact Sb (jX j q));have M:=bB s4.old u;clear y;refine sN<|aN<|ay<|av aF<|aD<|Wr<|bL<|sR<|qm<|bL<|sR<|aJ aF ?_;have d:decide (v.seq=K (v.o-1).toNat+1)=true:=f_ (by rw[show(v.o-1).toNat=a by omega]; exact n);have m:=UW (by omega) r;exact⟨iF (Eq.symm (by unfold dG; rw[g,d,m]; rfl)),M⟩
    refine Qv aF (fun c b=>nC r)<|Qn ?_;rintro _ ⟨q,rfl⟩;obtain⟨wq2,z⟩ : ∃ c,c=World.drewN j q:=⟨_,rfl⟩;rw[<- z];have s5:Stp j.heap.size j wq2:=(by rw[z]; exact Sb (jX j q));have⟨W,X,N⟩:=iY s5.old I J u;clear z;refine sN<|aK<|Wk<|bU<|sN<|Wl<|aU p<|Lv (au ((k:Int)+1)) fH<|av (au ((k:Int)+1))<|Ln<|iH ⟨k+1,by omega,(le_step G r),E,F,Fx.ic,W,X,N⟩ ?_;show(6-(intOf (au ((k:Int)+1))).toNat)<_;simp only[p,intOf]; omega
   refine Lv aF (iE x)<|aD<|aK<|Wx<|cZ<|gZ<|dh<|sN<|ay<|av aG<|aD<|Wr<|aJ aG ?_;have d:decide (v.seq=K (v.o-1).toNat+1)=true:=f_ (by rw[show(v.o-1).toNat=a by omega]; exact n);have m:=Ra x G;exact⟨iF (Eq.symm (by unfold dG; rw[g,d,m]; rfl)),u⟩
  refine Qv aG (fun c b=>kY n)<|aX aG<|Qn ?_;intro wb2 U;have O:=bB U t;refine sN<|aN<|ay<|av aF<|aD<|Wr<|sR<|aJ aF ?_;have d:decide (v.seq=K (v.o-1).toNat+1)=false:=g_ (by rw[show(v.o-1).toNat=a by omega]; exact n);exact⟨iF (Eq.symm (by unfold dG; rw[g,d]; rfl)),O⟩
 rw[U_]at g;refine Ae (fun _ _=>Ik v _ H) aF (by rw[g])<|aX aG<|aX aG<|aR<|aR<|aR<|aR<|aR<|aR<|aR<|aR<|aR<|aX aG<|Qn ?_;intro wb3 V;have P:=bB V t;refine sN<|aN<|ay<|av aF<|aD<|Wr<|sR<|aJ aF ?_;exact⟨iF (Eq.symm (by unfold dG; rw[g]; rfl)),P⟩
set_option maxHeartbeats 400000 in
theorem JI(a:Option Addr)(len cap:Nat)(l:List Int)(w:World)(hlen:len<=100)(hl:Hid (l.length=len))(hr:RdI .i64 w a l) :
 Calls Tryz.prog 146 #[.slice a len cap] w fun e w'=>e = .returned (.tuple #[.int .i64 (nG l).1,.bool (nG l).2])/\w'=w:=by
 go_enter Tryz.func146,Tryz.ntmps146
 go_wp2
 go_loop [2,3,8] (fun v o i=>o = .bool false /\ ∃ k:Nat,k<=len/\i = .int .i64 k/\mP (l.take k)=true/\v = .int .i64 (l.take k).sum) (fun _ _ i=>len-(intOf i).toNat)
 case atStart=>exact⟨rfl,0,L_ _,rfl,rfl,rfl⟩
 case round =>
  obtain⟨rfl,k,hk,rfl,hok,rfl⟩:=hrel;by_cases hk2:k<len
  ·have hk3:k<l.length:=(by rw[hl.out]; exact hk2);obtain⟨b,off,rfl,hc⟩:=hr k hk3;have hb:=CQ _ hok;have hle:(l.take k).length<=k:=List.length_take_le _ _;have HS:Hid _:=He l k hk3;have HO:Hid _:=Ep l k hk3;have HF:Hid (A8 l[k]=false->nG l=(0,false)):=(by intro h; unfold nG; rw[b_ (by rw[Hf hk3 h]; decide)]);have Hok:Hid _:=hok;clear hr hok;generalize l[k]=x at *;generalize hs:(l.take k).sum=s at *;clear hs;by_cases h0:x<0
   ·have hn:A8 x=false:=(by unfold A8; simp; omega);have HR:Hid _:=HF.out hn;clear HF hn HS HO
    go_wp2
    go_ret2
    rw[HR.out]; exact⟨rfl,rfl⟩
   ·by_cases h1:1125899906842624<x
    ·have hn:A8 x=false:=(by unfold A8; simp; omega);have HR:Hid _:=HF.out hn;clear HF hn HS HO
     go_wp2
     go_ret2
     rw[HR.out]; exact⟨rfl,rfl⟩
    ·have hy:Hid (A8 x=true):=(by unfold A8 Hid; simp; omega);clear HF
     go_wp2
     go_round
     case rel=>exact⟨rfl,k+1,by omega,by go_num,by rw[HO.out,Hok.out,hy.out]; rfl,by rw[HS.out]⟩
     case measure=>simp[intOf]; omega
  ·have hT:Hid (l.take k=l):=List.take_of_length_le (by rw[hl.out]; omega);rw[hT.out]at hok ⊢;have HR:Hid (nG l=(l.sum,true)):=(by unfold nG Hid; rw[d_ hok]);clear hok;generalize l.sum=s at *
   go_wp2
   go_ret2
   rw[HR.out]; exact⟨rfl,rfl⟩
def Two(a w:World)(d f:Nat)(b:List Int)(e g:Nat)(c:List Int):Prop :=
 w.ownsRow a.heap.size 2 1 (.slice (some ⟨d,0,none⟩) b.length f) b.length (b.map (Value.int .i64)) /\
 w.ownsRow a.heap.size 2 1 (.slice (some ⟨e,0,none⟩) c.length g) c.length (c.map (Value.int .i64))/\d≠e/\Below a.heap.size a w
theorem Two.alloc{g w:World}{c a:Nat}{e:List Int}{d b:Nat}{f:List Int}(h:Two g w c a e d b f)(o:Obj):Two g (w.alloc o) c a e d b f :=
 ⟨World.ownsRow.alloc h.1 o,World.ownsRow.alloc h.2.1 o,h.2.2.1,h.2.2.2.alloc h.2.2.2.size o⟩
theorem Two.drew{g w:World}{c a:Nat}{e:List Int}{d b:Nat}{f:List Int}(h:Two g w c a e d b f):Two g w.drew c a e d b f :=
 ⟨h.1,h.2.1,h.2.2.1,h.2.2.2.drew⟩
theorem Two.swap{g w:World}{c a:Nat}{e:List Int}{d b:Nat}{f:List Int}(h:Two g w c a e d b f):Two g w d b f c a e:=⟨h.2.1,h.1,h.2.2.1.symm,h.2.2.2⟩
theorem YV:(Tryz.prog.info? 2).map (fun i=>(i.zero,i.size,i.bytes))=some (some (.int .i64 0),1,8):=by kernel_rfl
theorem Lc{P:Array Oper}{o:Oper}{a:Act}{q w:World}{K:Act->World->Prop}{Q:Exit->Act->World->Prop}{E:Prop}(C:o.guard=none)(s x:Operand)
 (I:o.op = .call { callee := .builtin .append,args := #[s,x],argTypes := #[178,178] }) (l r:Nat) (d:List Int) (m t:Nat) (y:List Int) (h:Two q w l r d m t y)
 (n:Nat) (G:d.length=n) (J:a.eval s = .slice (some ⟨l,0,none⟩) n r) (i:Nat) (v:Int) (hx:a.eval x = .slice (some ⟨i,0,none⟩) 1 1) (B:w.cell? ⟨i,0,none⟩=some (.int .i64 v)) (S:n<=100)
 (A : ∀ g f w',Two q w' g f (d ++ [v]) m t y->(∀ a u,w.cell? a=some u->a.block≠l->w'.cell? a=some u)->K (a.put o.dst (.slice (some ⟨g,0,none⟩) (n+1) f)) w') :
 if Region.wanted o (yielded P a.tmps)=true then Oper.wp Tryz.prog o a w K Q else E:=by
 obtain⟨O,D,L,M,N⟩:=info_parts YV;subst G
 refine step_append_lies w C s x 178 I q.heap.size 2 O (.int .i64 0) 1 8 Tryz.underlying178 D L M N rfl (by decide) _ d.length (d.map (Value.int .i64)) J h.1 ⟨i,0,none⟩ 1 1 [.int .i64 v] hx rfl
  (by intro j u b; cases j with
   | zero=>simp at b; subst b; rw[addr_add]; exact B
   | succ j=>simp at b) (by intro u b; simp at b; subst b; rfl) (by decide) (by unfold maxLen; omega) (by omega) h.2.2.2.size w.heap.size rfl ?_
 intro g f w' z p c R;refine A g f w' ⟨?_,?_,?_,?_⟩ (fun a u b H=>p.cell b (by simp[Value.ownBlock]; exact H))
 ·rw[G_,List.map_append]; exact z
 ·exact World.ownsRow.kept h.2.1 p (.inr (by simp[Value.ownBlock]; exact fun e=>h.2.2.1 e.symm))
 ·have T:=World.ownsRow.lt h.2.1 m rfl
  rcases c with c|c
  ·simp[Value.ownBlock]at c; subst c; exact h.2.2.1
  omega
 exact h.2.2.2.grown p h.2.2.2.size (fun k F=>(World.ownsRow.lt h.1 k F).1)
theorem Two.rd1{j w:World}{a c:Nat}{b:List Int}{e d:Nat}{g:List Int}(h:Two j w a c b e d g):RdI .i64 w (some ⟨a,0,none⟩) b:=by
 intro i f;refine⟨a,0,rfl,?_⟩;rw[H_,World.ownsRow.cellAt h.1 i (by omega)];simp[f]
theorem Two.start(w:World)(v a b:Int):Two w ((w.alloc (.cells #[.int .i64 v] 2)).alloc (.cells #[.int .i64 a,.int .i64 b] 2)) w.heap.size 1 [v] (w.heap.size+1) 2 [a,b]:=by
 refine⟨World.ownsRow.alloc (World.ownsRow_lit w #[.int .i64 v] 1 (A_ _) (by unfold maxLen; omega) rfl) _,?_,by omega,((Below.refl _ _).alloc (A_ _) _).alloc (by simp) _⟩;have:=World.ownsRow_lit (base:=w.heap.size) (e:=2) (size:=1) (w.alloc (.cells #[.int .i64 v] 2)) #[.int .i64 a,.int .i64 b] 2 (by simp) (by unfold maxLen; omega) rfl
 simpa using this
theorem Two.adW(w:World)(v a b:Int):Two w ((w.alloc (.cells #[.int .i64 a,.int .i64 b] 2)).alloc (.cells #[.int .i64 v] 2)) (w.heap.size+1) 1 [v] w.heap.size 2 [a,b]:=by
 refine⟨?_,World.ownsRow.alloc (World.ownsRow_lit w #[.int .i64 a,.int .i64 b] 2 (A_ _) (by unfold maxLen; omega) rfl) _,by omega,((Below.refl _ _).alloc (A_ _) _).alloc (by simp) _⟩;have:=World.ownsRow_lit (base:=w.heap.size) (e:=2) (size:=1) (w.alloc (.cells #[.int .i64 a,.int .i64 b] 2)) #[.int .i64 v] 1 (by simp) (by unfold maxLen; omega) rfl
 simpa using this
theorem Two.at{c w:World}{g d:Nat}{k:List Int}{j e:Nat}{l:List Int}(h:Two c w g d k j e l){b:Nat}{x:Nat->Int}{T:TypeId}{f:Nat × Nat}(a:c.heap[b]? = some (.cells (bV .i64 54 x) T f))(i:Nat)(hi:i<54) :
 w.cell? ⟨b,i,none⟩=some (.int .i64 (x i)) :=
 gT ((h.2.2.2.block b (t_.1 a).1).trans a) i hi
theorem Two.lt{a w:World}{e c:Nat}{i:List Int}{f d:Nat}{j:List Int}(h:Two a w e c i f d j){b:Nat}(g:b<a.heap.size):b<w.heap.size:=n_ g h.2.2.2.size
theorem FL(x:Nat->Int)(k:Nat) : ∀ j,(outs x k j).length=j+1
 | 0=>rfl
 | j+1=>by rw[outs,G_,FL x k j]; rfl
theorem JJ(x:Nat->Int)(k:Nat) : ∀ j,(ins x k j).length=j+2
 | 0=>rfl
 | j+1=>by rw[ins,G_,JJ x k j]; rfl
def aiq(w:World)(x:Nat->Int)(k j:Nat)(e f:Value)(g:World):Prop :=
 ∃ c a d b,e = .slice (some ⟨c,0,none⟩) (j+1) a/\f = .slice (some ⟨d,0,none⟩) (j+2) b/\Two w g c a (outs x k j) d b (ins x k j)
set_option maxHeartbeats 4000000 in
theorem Il(b:Nat)(T:TypeId)(fz:Nat × Nat)(x:Nat->Int)(k:Nat)(w:World)(hk:k<6)(hb:Hid (w.heap[b]? = some (.cells (bV .i64 54 x) T fz))) :
 Calls Tryz.prog 96 #[.pointer (some ⟨b,0,none⟩),.int .i64 k] w fun e w'=>e = .returned (.tuple #[.int .i64 (localM x k).1,.bool (localM x k).2])/\Below w.heap.size w w':=by
 have hlt:b<w.heap.size:=(t_.1 hb.out).1;have hki:(k:Int)<6:=by omega
 go_enter Tryz.func96,Tryz.ntmps96
 go_upto_region 1 with (fail)
 go_cut [6,7] (fun s6 s7 wx=>aiq w x k 0 s6 s7 wx)
 case first =>
  have c1:=gT hb.out (6+k) (by omega);have c2:=gT hb.out k (by omega);have c3:=gT hb.out (12+k) (by omega)
  go_wp2
  go_region
  all_goals go_wp2
  all_goals go_meet
  case rel=>exact⟨_,_,_,_,rfl,rfl,(Two.start w (x (6+k)) (x k) (x (12+k))).drew⟩
  case rel=>exact⟨_,_,_,_,rfl,rfl,(Two.adW w (x (6+k)) (x k) (x (12+k))).drew⟩
 case rest =>
  clear hlt
  go_wp2
  go_loopw [6,7,33] (fun s6 s7 i wx => ∃ j:Nat,j<=6/\i = .int .i64 j/\aiq w x k j s6 s7 wx) (fun _ _ i _=>6-(intOf i).toNat)
  case atStart=>exact⟨0,L_ _,rfl,hcut⟩
  case round =>
   obtain⟨j,hj,rfl,g1,c1,g2,c2,rfl,rfl,hT⟩:=hrel;by_cases hj2:j<6
   ·have hji:(j:Int)<6:=(by omega);have hlt:b<w.heap.size:=(t_.1 hb.out).1;have hrow:wr.heap[b]? = some (.cells (bV .i64 54 x) T fz):=(hT.2.2.2.block b hlt).trans hb.out;have e1:=gT hrow (18+k*6+j) (by omega);have e2:=gT hrow (18+j*6+k) (by omega);have hlt2:b<wr.heap.size:=(t_.1 hrow).1;have UZ:Hid _:=hrow;have hg1:g1<wr.heap.size:=(World.ownsRow.lt hT.1 g1 rfl).2;have hg2:g2<wr.heap.size:=(World.ownsRow.lt hT.2.1 g2 rfl).2;clear hrow;have HO:Hid ((outs x k j).length=j+1):=FL x k j;have HI:Hid ((ins x k j).length=j+2):=JJ x k j
    go_wp2
    go_region_law (first
     | (refine Lc (o:=⟨some 46,_,_,_,_,_⟩) (by rfl) (.tmp 36) (.tmp 45) (by rfl) g1 c1 (outs x k j) _ _ _ (by first|assumption|exact Two.alloc (by assumption) _|exact Two.alloc (Two.alloc (by assumption) _) _|exact hT.drew.alloc _|exact(hT.drew.alloc _).alloc _) (j+1) HO.out (by rfl) _ (x (18+k*6+j)) (by rfl) (by first|(go_simp; done)|exact hkp _ _ (by go_simp; done) (by simp; omega)) (by omega) ?_; intro g cp w1 hT1 hkp; have e1':=hT1.at hb.out (18+k*6+j) (by omega); have e2':=hT1.at hb.out (18+j*6+k) (by omega); have hlt':=hT1.lt hlt)
     | (refine Lc (o:=⟨some 57,_,_,_,_,_⟩) (by rfl) (.tmp 47) (.tmp 56) (by rfl) g2 c2 (ins x k j) _ _ _ (by first|exact Two.swap (by assumption)|exact(Two.alloc (by assumption) _).swap|exact(Two.alloc (Two.alloc (by assumption) _) _).swap|exact(hT.drew.alloc _).swap|exact((hT.drew.alloc _).alloc _).swap) (j+2) HI.out (by rfl) _ (x (18+j*6+k)) (by rfl) (by first|(go_simp; done)|exact hkp _ _ (by go_simp; done) (by simp; omega)) (by omega) ?_; intro g cp w1 hT1 hkp; have e1':=hT1.at hb.out (18+k*6+j) (by omega); have e2':=hT1.at hb.out (18+j*6+k) (by omega); have hlt':=hT1.lt hlt))
    all_goals go_wp2
    all_goals go_roundw
    all_goals first
     | (simp[intOf]; omega)
     | exact⟨j+1,by omega,by go_num,_,_,_,_,rfl,rfl,hT1.swap⟩
   ·obtain rfl:j=6:=(by omega);have r1:=hT.rd1;have r2:=hT.swap.rd1;have hbel:=hT.2.2.2;have HO:Hid ((outs x k 6).length=7):=FL x k 6;have HI:Hid ((ins x k 6).length=8):=JJ x k 6;have b1:=wZ (outs x k 6);have b2:=wZ (ins x k 6);rw[HO.out]at b1;rw[HI.out]at b2;have HL:Hid (localM x k=((nG (ins x k 6)).1-(nG (outs x k 6)).1,(nG (outs x k 6)).2&&(nG (ins x k 6)).2)):=rfl;generalize outs x k 6=lo at *;generalize ins x k 6=li at *;clear hT
    go_wp2_with fail
    refine(JI _ 7 c1 lo _ (by omega) HO r1).mono ?_;rintro e w1 ⟨rfl,rfl⟩
    go_wp2_with fail
    refine(JI _ 8 c2 li _ (by omega) HI r2).mono ?_;rintro e w2 ⟨rfl,rfl⟩;generalize (nG li).1=n2 at *;generalize (nG lo).1=n1 at *;generalize (nG li).2=o2 at *;generalize (nG lo).2=o1 at *
    cases o1
    all_goals
     go_wp2_with fail
     go_ret2
     rw[HL.out]; exact⟨rfl,hbel⟩
namespace Rt
def CY(x:Nat->Int)(k:Nat):Bool:=(localM x k).2&&decide (0<=(localM x k).1)&&decide (F x k<=C x k)&&(R x k k==0)
def Eu(x:Nat->Int):Nat->Bool
 | 0=>true
 | k+1=>Eu x k&&CY x k
def gs(x:Nat->Int):List Int := [x 0,x 1,x 2,x 3,x 4,x 5]
def may(x:Nat->Int):Bool:=Eu x 6&&((nG (gs x)).2&&decide ((nG (gs x)).1<=1125899906842624))
theorem FM(x:Nat->Int)(k:Nat)(h:CY x k=false) : ∀ n,k<n->Eu x n=false
 | 0,hn=>N_ hn (by omega)
 | n+1,hn=>by
   rw[Eu];by_cases e:k=n
   ·subst e; rw[h,J_]
   ·rw[FM x k h n (by omega),Bool.false_and]
theorem Rb(x:Nat->Int)(k:Nat)(a:k<6)(h:CY x k=false):may x=false:=by
 unfold may; rw[FM x k h 6 a,Bool.false_and]
end Rt
theorem air{w:World}{g:Nat}{x:Nat->Int}{t:TypeId}{a:Nat × Nat}(h:w.heap[g]? = some (.cells (bV .i64 54 x) t a)):RdI .i64 w (some ⟨g,0,none⟩) (gs x):=by
 intro i b;have c:i<6:=b;refine⟨g,0,rfl,?_⟩;rw[H_,gT h i (by omega)]
 rcases(show i=0\/i=1\/i=2\/i=3\/i=4\/i=5 by omega)with rfl|rfl|rfl|rfl|rfl|rfl <;> rfl
set_option maxHeartbeats 1000000 in
theorem Pm(x:Nat->Int)(w:World) :
 Calls Tryz.prog 95 #[.agg (bV .i64 54 x)] w fun e w'=>e = .returned (.bool (may x))/\Below w.heap.size w w':=by
 go_enter Tryz.func95,Tryz.ntmps95
 go_wp2
 go_loopw [2,3,8] (fun r _ i wr=>r = .bool false /\ ∃ k:Nat,k<=6/\i = .int .i64 k/\Eu x k=true/\wr.heap[w.heap.size]? = some (.cells (bV .i64 54 x) 82 (0,0))/\Below w.heap.size w wr) (fun _ _ i _=>6-(intOf i).toNat)
 case atStart=>exact⟨rfl,0,L_ _,rfl,rfl,heap_alloc_new w _,(Below.refl _ _).alloc (A_ _) _⟩
 case round =>
  obtain⟨rfl,k,hk,rfl,hN,hrow,hbel⟩:=hrel;have hlt:w.heap.size<wr.heap.size:=(t_.1 hrow).1;have UZ:Hid _:=hrow;have HN:Hid _:=hN;clear hrow hN;by_cases hk2:k<6
  ·have hki:(k:Int)<6:=(by omega);have HM:Hid (Eu x (k+1)=(Eu x k&&CY x k)):=rfl;have HF:Hid (CY x k=false->may x=false):=fun h=>Rb x k hk2 h;have HK:Hid (CY x k=((localM x k).2&&decide (0<=(localM x k).1)&&decide (F x k<=C x k)&&(R x k k==0))):=rfl
   go_wp2_with fail
   refine(Il w.heap.size _ _ x k wr hk2 UZ).mono ?_;rintro e w1 ⟨rfl,hb1⟩;have Ld:=(hb1.block _ hlt).trans UZ.out;have Lf:=hbel.trans (hb1.mono (Nat.le_of_lt hlt));have c1:=gT Ld (12+k) (by omega);have c2:=gT Ld (6+k) (by omega);have c3:=gT Ld (18+k*6+k) (by omega);have ais:Hid _:=Ld;clear Ld UZ hbel hb1;generalize (localM x k).1=n at *;generalize hF:F x k=f at *;generalize hC:C x k=c at *;generalize hR:R x k k=r at *;unfold F at hF; unfold C at hC; unfold R at hR;rw[hF]at c1; rw[hC]at c2; rw[hR]at c3;clear hF hC hR
   cases his:(localM x k).2
   ·rw[his]at HK;clear his;have HR:Hid _:=HF.out (by rw[HK.out]; rfl);clear HK HF HM
    go_wp2_with fail
    go_quiet (fail)
    go_wp2
    go_ret
    rw[HR.out]; exact⟨rfl,bN Lf _⟩
   ·rw[his]at HK;clear his;by_cases h1:n<0
    ·have d1:decide (n<0)=true:=(by simpa using h1);have d1':decide (0<=n)=false:=(by simp; omega);have HR:Hid _:=HF.out (by rw[HK.out]; rw[d1']; rfl);clear HK HF HM
     go_wp2_with fail
     go_quiet (fail)
     go_wp2
     go_ret
     rw[HR.out]; exact⟨rfl,bN Lf _⟩
    ·have d1:decide (n<0)=false:=(by simp; omega);have d1':Hid (decide (0<=n)=true):=(by unfold Hid; simp; omega);by_cases h2:c<f
     ·have d2:decide (c<f)=true:=(by simpa using h2);have d2':decide (f<=c)=false:=(by simp; omega);have HR:Hid _:=HF.out (by rw[HK.out]; rw[d2',J_,Bool.false_and]);clear HK HF HM
      go_wp2_with fail
      go_quiet (fail)
      go_wp2
      go_ret
      rw[HR.out]; exact⟨rfl,bN Lf _⟩
     ·have d2:decide (c<f)=false:=(by simp; omega);have d2':Hid (decide (f<=c)=true):=(by unfold Hid; simp; omega);by_cases h3:r=0
      ·subst h3
       go_wp2_with fail
       go_quiet (fail)
       go_wp2
       go_roundw
       case rel=>exact⟨rfl,k+1,by omega,by go_num,by rw[HM.out,HN.out,HK.out,d1'.out,d2'.out]; rfl,ais.out,bN Lf _⟩
       case measure=>simp[intOf]; omega
      ·have d3:(r != 0)=true:=(by simpa using h3);have d3':(r==0)=false:=(by simpa using h3);have HR:Hid _:=HF.out (by rw[HK.out]; rw[d3',J_]);clear HK HF HM
       go_wp2_with fail
       go_quiet (fail)
       go_wp2
       go_ret
       rw[HR.out]; exact⟨rfl,bN Lf _⟩
  ·obtain rfl:k=6:=(by omega);have HV:Hid (may x=((nG (gs x)).2&&decide ((nG (gs x)).1<=1125899906842624))):=(by unfold Hid may; rw[HN.out,Bool.true_and]);have hg:RdI .i64 wr (some ⟨w.heap.size,0,none⟩) (gs x):=air UZ.out;have HL:Hid ((gs x).length=6):=rfl;generalize gs x=l at *;clear HN
   go_wp2_with fail
   refine(JI _ 6 _ l _ (by omega) HL hg).mono ?_;rintro e w1 ⟨rfl,rfl⟩;generalize (nG l).1=n at *
   cases h:(nG l).2
   ·rw[h]at HV;clear h
    go_wp2_with fail
    go_ret
    rw[HV.out]; exact⟨rfl,hbel⟩
   ·rw[h]at HV;clear h
    go_wp2_with fail
    go_ret
    rw[HV.out]; exact⟨rfl,hbel⟩
namespace Rt
def iq(i:Int):Bool:=decide (1<=i)&&decide (i<=6)
def fU(x:Nat->Int)(i:Int):Int:=if iq i&&may x then(localM x (i.toNat-1)).1 else 0
theorem Bb{n:Int}(h:A8 n=true):0<=n/\n<=1125899906842624:=by unfold A8 at h; simpa using h
theorem Pn{l:List Int}(h:(nG l).2=true):mP l=true:=by
 unfold nG at h;by_cases a:mP l=true
 ·exact a
 rw[b_ a]at h; exact N_ h (by decide)
theorem zN{l:List Int}(h:mP l=true){n:Int}(a:n∈l):0<=n/\n<=1125899906842624:=by
 unfold mP at h;rw[List.all_eq_true]at h;exact Bb (h n a)
theorem Lg(x:Nat->Int)(k:Nat) : ∀ j,C x k∈outs x k j
 | 0=>by simp[outs]
 | j+1=>by rw[outs]; exact List.mem_append_left _ (Lg x k j)
theorem Im(x:Nat->Int)(k i:Nat) : ∀ j,i<j->R x k i∈outs x k j
 | 0,h=>N_ h (by omega)
 | j+1,h=>by
   rw[outs];by_cases e:i=j
   ·subst e; simp
   ·exact List.mem_append_left _ (Im x k i j (by omega))
theorem EN(x:Nat->Int)(k:Nat) : ∀ j,G x k∈ins x k j/\F x k∈ins x k j
 | 0=>by simp[ins]
 | j+1=>by rw[ins]; exact⟨List.mem_append_left _ (EN x k j).1,List.mem_append_left _ (EN x k j).2⟩
theorem Po(x:Nat->Int)(k:Nat) : ∀ n,Eu x n=true->k<n->CY x k=true
 | 0,_,hk=>N_ hk (by omega)
 | n+1,h,hk=>by
   rw[Eu,T_]at h;by_cases e:k=n
   ·subst e; exact h.2
   ·exact Po x k n h.1 (by omega)
theorem U0{x:Nat->Int}(h:may x=true)(k:Nat)(a:k<6):CY x k=true:=by
 unfold may at h; rw[T_]at h; exact Po x k 6 h.1 a
structure En(x:Nat->Int)(k:Nat):Prop where
 g:0<=G x k/\G x k<=1125899906842624
 c:0<=C x k/\C x k<=1125899906842624
 f:0<=F x k/\F x k<=1125899906842624
 fc:F x k<=C x k
 r : ∀ i,i<6->0<=R x k i/\R x k i<=1125899906842624
 l:0<=(localM x k).1
 rkk:R x k k=0
 l2:(localM x k).2=true
theorem YW{x:Nat->Int}{k:Nat}(h:CY x k=true):En x k:=by
 unfold CY at h;rw[T_,T_,T_]at h;obtain⟨⟨⟨a,e⟩,h3⟩,h4⟩:=h;have d:=a;unfold localM at a;rw[T_]at a;have c:=Pn a.1;have b:=Pn a.2;exact⟨zN b (EN x k 6).1,zN c (Lg x k 6),zN b (EN x k 6).2,by simpa using h3,fun i f=>zN c (Im x k i 6 f),by simpa using e,by simpa using h4,d⟩
theorem xA{x:Nat->Int}(h:may x=true)(k:Nat)(a:k<6):En x k:=YW (U0 h k a)
theorem Rc(x:Nat->Int)(k:Nat) : -(1125899906842624*8)<=(localM x k).1/\(localM x k).1<=1125899906842624*8:=by
 have a:=wZ (ins x k 6);have b:=wZ (outs x k 6);rw[TQ]at a;rw[QZ]at b;unfold localM;simp only;omega
end Rt
set_option maxHeartbeats 400000 in
theorem tK(i:Int)(w:World)(hi : -9223372036854775808<=i/\i<=9223372036854775807) :
 Calls Tryz.prog 94 #[.int .i64 i] w fun e w'=>e = .returned (.bool (iq i))/\w'=w:=by
 unfold iq;by_cases h1:i<1
 ·have d1:decide (1<=i)=false:=by simp; omega
  have D1:Hid _:=d1
  go_enter Tryz.func94,Tryz.ntmps94
  go_wp2
  go_ret
  first|exact⟨rfl,rfl⟩|(rw[D1.out]; exact⟨rfl,rfl⟩)
 have d1:decide (1<=i)=true:=by simp; omega
 have D1:Hid _:=d1
 go_enter Tryz.func94,Tryz.ntmps94
 go_wp2
 go_ret
 first|exact⟨rfl,rfl⟩|(rw[D1.out]; exact⟨rfl,rfl⟩)
theorem nM:(Tryz.prog.info? 82).map (·.size)=some 54:=by kernel_rfl
set_option maxRecDepth 100000 in
set_option maxHeartbeats 400000 in
theorem xB(x:Nat->Int)(i:Int)(w:World)(hi : -9223372036854775808<=i/\i<=9223372036854775807) :
 Calls Tryz.prog 60 #[.agg (bV .i64 54 x),.int .i64 i] w fun e w'=>e = .returned (.int .i64 (fU x i))/\Below w.heap.size w w':=by
 have HV:Hid (fU x i=if iq i&&may x then(localM x (i.toNat-1)).1 else 0):=rfl;have hrow:Hid ((w.alloc (.cells (bV .i64 54 x) 82)).heap[w.heap.size]? = some (.cells (bV .i64 54 x) 82 (0,0))):=heap_alloc_new w _;have HR:Hid (iq i=true<->1<=i/\i<=6):=by unfold Hid iq; simp
 have U1:Hid (∀ w',Calls Tryz.prog 94 #[.int .i64 i] w' fun e w''=>e = .returned (.bool (iq i))/\w''=w'):=fun w'=>tK i w' hi;have hmay:Hid (∀ w',Calls Tryz.prog 95 #[.agg (bV .i64 54 x)] w' fun e w''=>e = .returned (.bool (may x))/\Below w'.heap.size w' w''):=fun w'=>Pm x w';generalize iq i=r at *
 cases r
 ·go_enter Tryz.func60,Tryz.ntmps60
  go_wp2_with (go_at_call 94; refine(U1.out _).mono ?_; rintro e w' ⟨rfl,rfl⟩)
  go_ret
  rw[HV.out]; exact⟨rfl,(Below.refl _ _).alloc (A_ _) _⟩
 have hb:1<=i/\i<=6:=HR.out.1 rfl;obtain⟨k,hk⟩:=Int.eq_ofNat_of_zero_le (show 0<=i-1 by omega);have Hk:Hid (i-1=(k:Int)):=hk;have hk6:k<6:=by omega
 have hkt:Hid (i.toNat-1=k):=by unfold Hid; omega
 clear hk;generalize may x=m at *
 cases m
 ·go_enter Tryz.func60,Tryz.ntmps60
  go_wp2_with (first
   | (go_at_call 94; refine(U1.out _).mono ?_; rintro e w' ⟨rfl,rfl⟩)
   | (refine Au (by rfl) (wp_load_row (o:=⟨some 11,_,_,_,_,_⟩) 82 (.tmp 2) (by rfl) w.heap.size (by rfl) 82 (bV .i64 54 x) (0,0) _ hrow.out Tryz.underlying82 (by rfl) (by rw[bQ]; exact nM) ?_))
   | (go_at_call 95; refine(hmay.out _).mono ?_; rintro e w1 ⟨rfl,hb1⟩))
  go_ret
  rw[HV.out]; exact⟨rfl,bal hb1⟩
 go_enter Tryz.func60,Tryz.ntmps60
 go_wp2_with (first
  | (go_at_call 94; refine(U1.out _).mono ?_; rintro e w' ⟨rfl,rfl⟩)
  | (refine Au (by rfl) (wp_load_row (o:=⟨some 11,_,_,_,_,_⟩) 82 (.tmp 2) (by rfl) w.heap.size (by rfl) 82 (bV .i64 54 x) (0,0) _ hrow.out Tryz.underlying82 (by rfl) (by rw[bQ]; exact nM) ?_))
  | (go_at_call 95; refine(hmay.out _).mono ?_; rintro e w1 ⟨rfl,hb1⟩)
  | (go_at_call 96; rw[Hk.out]; refine(Il w.heap.size 82 (0,0) x k w1 hk6 ((hb1.block _ (by simp)).trans hrow.out)).mono ?_; rintro e w2 ⟨rfl,hb2⟩))
 go_ret
 rw[HV.out,hkt.out]; exact⟨rfl,M6 (bal hb1) hb2⟩
namespace Rt
def zero:Nat->Int:=fun _=>0
def dn(x:Nat->Int)(n:Int)(is:Bool)(a:Int)(off:Nat):(Nat->Int) × Int :=
 if may x&&decide (1<=n)&&decide (n<=1125899906842624)then
  if is then
   if a=0 then
    if x off+n<=1125899906842624 then(upd x off (x off+n),0)else(zero,6)
   else(zero,a)
  else(zero,10)
 else(zero,1)
end Rt
theorem EO(T:TypeId)(a:Nat × Nat):Obj.cells (bV .i64 54 zero) T a = .cells #[.int .i64 0,.int .i64 0,.int .i64 0,.int .i64 0,.int .i64 0,.int .i64 0,.int .i64 0,.int .i64 0,.int .i64 0,.int .i64 0,.int .i64 0,.int .i64 0,.int .i64 0,.int .i64 0,.int .i64 0,.int .i64 0,.int .i64 0,.int .i64 0,.int .i64 0,.int .i64 0,.int .i64 0,.int .i64 0,.int .i64 0,.int .i64 0,.int .i64 0,.int .i64 0,.int .i64 0,.int .i64 0,.int .i64 0,.int .i64 0,.int .i64 0,.int .i64 0,.int .i64 0,.int .i64 0,.int .i64 0,.int .i64 0,.int .i64 0,.int .i64 0,.int .i64 0,.int .i64 0,.int .i64 0,.int .i64 0,.int .i64 0,.int .i64 0,.int .i64 0,.int .i64 0,.int .i64 0,.int .i64 0,.int .i64 0,.int .i64 0,.int .i64 0,.int .i64 0,.int .i64 0,.int .i64 0] T a:=by rfl
theorem results_cell_tmp{P:Program}{b:Func}{p q:Tmp}{ty:TypeId}(h:b.results = #[.cell p ty,.tmp q])(a:Array Value)(w:World)(g:Nat)(t:TypeId)(cs:Array Value)(c:Nat × Nat)(d:TypeDesc)
 (i:a.getD p undef = .pointer (some ⟨g,0,none⟩)) (f:w.heap[g]? = some (.cells cs t c))
 (k:P.underlying ty=some d) (e:(match d with | .struct _ | .array _ _=>true|_=>false)=true) (hi:(P.info? ty).map (·.size)=some cs.size) :
 (results b a).run P w = .ok (.tuple #[.agg cs,a.getD q undef]) w:=by
 have j:a[p]?.getD undef = .pointer (some ⟨g,0,none⟩):=by simpa using i
 simp[results,h,j,asAddr,run_loadVar_row w g t ty cs c d f k e hi]
def FN(x:Nat->Int)(n:Int)(is:Bool)(a:Int)(off:Nat)(w:World)(e:Ending)(w':World):Prop :=
 e = .returned (.tuple #[.agg (bV .i64 54 (dn x n is a off).1),.int .i64 (dn x n is a off).2])/\Below w.heap.size w w'
theorem jZ{w a:World}{B g:Nat}{e:Array Value}(c:Below B w a)(b:B<=g)(d:a.heap[g]? = some (.cells e 82 (0,0)))(y:Nat->Int) :
 (a.setRow g (bV .i64 54 y)).heap[g]? = some (.cells (bV .i64 54 y) 82 (0,0))/\Below B w (a.setRow g (bV .i64 54 y)) :=
 ⟨setRow_heap _ _ _ _ _ _ d,amU c b⟩
theorem xC{x:Nat->Int}{n:Int}{is:Bool}{c:Int}{off:Nat}{w b:World}{a:Act}{g:Nat}{y:Nat->Int}{k:Int}(d:dn x n is c off=(y,k))(f:a.defers = [])
 (i:a.tmps.getD 10 undef = .pointer (some ⟨g,0,none⟩)) (j:a.tmps.getD 11 undef = .int .i64 k) (h:b.heap[g]? = some (.cells (bV .i64 54 y) 82 (0,0))) (e:Below w.heap.size w b) :
 bodyPost Tryz.prog Tryz.f233 (FN x n is c off w) .ret a b:=by
 refine bodyPost_ret (v := .tuple #[.agg (bV .i64 54 y),.int .i64 k]) ?_ f ⟨?_,e⟩
 ·rw[results_cell_tmp rfl a.tmps b g 82 _ (0,0) _ i h Tryz.underlying82 rfl (by rw[bQ]; exact nM),j]
 rw[d]
theorem U2(x:Nat->Int)(n:Int)(is:Bool)(a:Int)(off:Nat)(v:Int)(f:x off=v) :
 (may x=false/\Hid (dn x n is a off=(zero,1)))\/(may x=true/\n<1/\Hid (dn x n is a off=(zero,1)))\/(may x=true/\1125899906842624<n/\Hid (dn x n is a off=(zero,1))) \/
 (may x=true/\1<=n/\n<=1125899906842624/\is=false/\Hid (dn x n is a off=(zero,10)))\/(may x=true/\1<=n/\n<=1125899906842624/\is=true/\(a != 0)=true/\Hid (dn x n is a off=(zero,a))) \/
 (may x=true/\1<=n/\n<=1125899906842624/\is=true/\a=0/\1125899906842624<v+n/\Hid (dn x n is a off=(zero,6)))\/(may x=true/\1<=n/\n<=1125899906842624/\is=true/\a=0/\v+n<=1125899906842624/\Hid (dn x n is a off=(upd x off (v+n),0))):=by
 unfold Hid dn; rw[f]
 cases may x
 ·exact .inl ⟨rfl,rfl⟩
 by_cases b:n<1
 ·exact .inr (.inl ⟨rfl,b,by rw[g_ (show ¬ 1<=n by omega)]; rfl⟩)
 by_cases c:1125899906842624<n
 ·exact .inr (.inr (.inl ⟨rfl,c,by rw[g_ (show ¬ n<=1125899906842624 by omega),J_]; rfl⟩))
 rw[f_ (show 1<=n by omega),f_ (show n<=1125899906842624 by omega)];have b:1<=n:=by omega
 have c:n<=1125899906842624:=by omega
 cases is
 ·exact .inr (.inr (.inr (.inl ⟨rfl,b,c,rfl,rfl⟩)))
 by_cases d:a=0
 ·subst d;by_cases e:v+n<=1125899906842624
  ·exact .inr (.inr (.inr (.inr (.inr (.inr ⟨rfl,b,c,rfl,rfl,e,by rw[d_ e]; rfl⟩)))))
  exact .inr (.inr (.inr (.inr (.inr (.inl ⟨rfl,b,c,rfl,rfl,by omega,by rw[b_ e]; rfl⟩)))))
 exact .inr (.inr (.inr (.inr (.inl ⟨rfl,b,c,rfl,by simpa using d,by rw[b_ d]; rfl⟩))))
set_option maxRecDepth 100000 in
set_option maxHeartbeats 14000000 in
theorem xD(x:Nat->Int)(n:Int)(is:Bool)(fm fn:FuncId)(cm cn:Array Value)(em:Int)(off:Nat)(w:World)(hoff:is=true->off<54)(hx:is=true->may x=true->0<=x off/\x off<=1125899906842624)
 (hcm : ∀(args:Array Value) (w:World),(callFunc fm args).run Tryz.prog w = .ok (.enter fm args) w)
 (hcn : ∀(args:Array Value) (w:World),(callFunc fn args).run Tryz.prog w = .ok (.enter fn args) w)
 (hm:may x=true->1<=n->n<=1125899906842624->is=true -> ∀ w',Below w.heap.size w w'->Calls Tryz.prog fm cm w' fun e w''=>e = .returned (.int .i64 em)/\Below w'.heap.size w' w'')
 (hn:is=true -> ∀ w' g,Below w.heap.size w w'->Calls Tryz.prog fn (#[.pointer (some ⟨g,0,none⟩)]++cn) w' fun e w''=>e = .returned (.pointer (some ⟨g,off,none⟩))/\Below w'.heap.size w' w'') :
 Calls Tryz.prog 233 #[.agg (bV .i64 54 x),.int .i64 n,.bool is,.func (.func fm) #[] cm,.func (.func fn) #[] cn] w (FN x n is em off w):=by
 have hmay:Hid (∀ w',Calls Tryz.prog 95 #[.agg (bV .i64 54 x)] w' fun e w''=>e = .returned (.bool (may x))/\Below w'.heap.size w' w''):=fun w'=>Pm x w';obtain⟨v,hv⟩ : ∃ v,x off=v:=⟨_,rfl⟩;rw[hv]at hx
 rcases U2 x n is em off v hv with ⟨h,hT⟩|⟨h,h1,hT⟩|⟨h,h1,hT⟩|⟨h,h1,h2,rfl,hT⟩|⟨h,h1,h2,rfl,h3,hT⟩|⟨h,h1,h2,rfl,rfl,h3,hT⟩|⟨h,h1,h2,rfl,rfl,h3,hT⟩
 all_goals
  try replace hm:Hid _:=hm h h1 h2 rfl
  try replace hn:Hid _:=hn rfl
  try replace hoff:=hoff rfl
  try replace hx:=hx rfl h
  go_enter Tryz.func233,Tryz.ntmps233
  go_upto_region 1 with (fail)
  rw[<- EO];have hx0:Hid (((w.alloc (.cells (bV .i64 54 x) 82)).alloc (.cells (bV .i64 54 zero) 82)).heap[w.heap.size]? = some (.cells (bV .i64 54 x) 82 (0,0))):=heap_alloc2_old w _ _;have hz0:Hid (((w.alloc (.cells (bV .i64 54 x) 82)).alloc (.cells (bV .i64 54 zero) 82)).heap[w.heap.size+1]? = some (.cells (bV .i64 54 zero) 82 (0,0))):=heap_alloc2_new w _ _;have hb0:Below w.heap.size w ((w.alloc (.cells (bV .i64 54 x) 82)).alloc (.cells (bV .i64 54 zero) 82)):=((Below.refl _ _).alloc (A_ _) _).alloc (by simp) _;have hs0:w.heap.size+1<((w.alloc (.cells (bV .i64 54 x) 82)).alloc (.cells (bV .i64 54 zero) 82)).heap.size:=by simp
  generalize (w.alloc (.cells (bV .i64 54 x) 82)).alloc (.cells (bV .i64 54 zero) 82)=W at *;rw[h]at hmay
  go_wp2_with (first
   | (refine wpList_load_row (o:=⟨some 15,_,_,_,_,_⟩) (by rfl) 82 (.tmp 5) (by rfl) w.heap.size (by rfl) 82 (bV .i64 54 x) (0,0) _ hx0.out Tryz.underlying82 (by rfl) (by rw[bQ]; exact nM) ?_)
   | (go_at_call 95; refine(hmay.out _).mono ?_; rintro e w1 ⟨rfl,hb1⟩; have hz1:Hid _:=(hb1.block (w.heap.size+1) hs0).trans hz0.out; have hx1:Hid _:=(hb1.block w.heap.size (by omega)).trans hx0.out; have hB1:=hb0.trans (hb1.mono hb0.size); have hs1:=n_ hs0 hb1.size)
   | (refine(hm.out _ hB1).mono ?_; rintro e w2 ⟨rfl,hb2⟩; have hz2:Hid _:=(hb2.block (w.heap.size+1) hs1).trans hz1.out; have hx2:Hid _:=(hb2.block w.heap.size (by omega)).trans hx1.out; have hB2:=hB1.trans (hb2.mono hB1.size); have hs2:=n_ hs1 hb2.size)
   | (refine(hn.out _ _ hB2).mono ?_; rintro e w3 ⟨rfl,hb3⟩; have hz3:Hid _:=(hb3.block (w.heap.size+1) hs2).trans hz2.out; have hx3:=(hb3.block w.heap.size (by omega)).trans hx2.out; have hB3:=hB2.trans (hb3.mono hB2.size); have hs3:=n_ hs2 hb3.size; have hc3:=gT hx3 off hoff; have hf3:=frozen_of_row w3 w.heap.size off _ _ hx3; have hz4:Hid ((w3.setCell ⟨w.heap.size,off,none⟩ (.int .i64 (v+n))).heap[w.heap.size+1]? = some (.cells (bV .i64 54 zero) 82 (0,0))):=(heap_setCell_other _ _ _ _ (by simp)).trans hz3.out; have hx4:Hid ((w3.setCell ⟨w.heap.size,off,none⟩ (.int .i64 (v+n))).heap[w.heap.size]? = some (.cells (bV .i64 54 (upd x off (v+n))) 82 (0,0))):=by { unfold Hid; rw[heap_setCell_same _ _ _ _ _ _ hx3,KC] }; have hB4:Below w.heap.size w (w3.setCell ⟨w.heap.size,off,none⟩ (.int .i64 (v+n))):=hB3.setCell (A_ _) _; clear hx3; rw[hv]at hc3)
   | (refine wpList_load_row (o:=⟨some 46,_,_,_,_,_⟩) (by rfl) 82 (.tmp 5) (by rfl) w.heap.size (by rfl) 82 (bV .i64 54 (upd x off (v+n))) (0,0) _ hx4.out Tryz.underlying82 (by rfl) (by rw[bQ]; exact nM) ?_)
   | (refine wpList_store_row (o:=⟨none,.store 82 (.tmp 10) (.tmp 45),_,_,_,_⟩) (by rfl) 82 (.tmp 10) (.tmp 45) (by rfl) (w.heap.size+1) (bV .i64 54 zero) (by rfl) (by rfl) 82 (bV .i64 54 zero) hz4.out (by rw[bQ]; exact nM) (by rw[bQ]) (nZ _ _ _) ?_)
   | (refine wpList_store_row (o:=⟨none,.store 82 (.tmp 10) (.tmp 46),_,_,_,_⟩) (by rfl) 82 (.tmp 10) (.tmp 46) (by rfl) (w.heap.size+1) (bV .i64 54 (upd x off (v+n))) (by rfl) (by rfl) 82 (bV .i64 54 zero) hz4.out (by rw[bQ]; exact nM) (by rw[bQ,bQ]) (nZ _ _ _) ?_)
   | (refine wpList_store_row (o:=⟨none,.store 82 (.tmp 10) (.tmp 31),_,_,_,_⟩) (by rfl) 82 (.tmp 10) (.tmp 31) (by rfl) (w.heap.size+1) (bV .i64 54 zero) (by rfl) (by rfl) 82 (bV .i64 54 zero) hz2.out (by rw[bQ]; exact nM) (by rw[bQ]) (nZ _ _ _) ?_)
   | (refine wpList_store_row (o:=⟨none,.store 82 (.tmp 10) (.tmp 26),_,_,_,_⟩) (by rfl) 82 (.tmp 10) (.tmp 26) (by rfl) (w.heap.size+1) (bV .i64 54 zero) (by rfl) (by rfl) 82 (bV .i64 54 zero) hz1.out (by rw[bQ]; exact nM) (by rw[bQ]) (nZ _ _ _) ?_)
   | (refine wpList_store_row (o:=⟨none,.store 82 (.tmp 10) (.tmp 22),_,_,_,_⟩) (by rfl) 82 (.tmp 10) (.tmp 22) (by rfl) (w.heap.size+1) (bV .i64 54 zero) (by rfl) (by rfl) 82 (bV .i64 54 zero) hz1.out (by rw[bQ]; exact nM) (by rw[bQ]) (nZ _ _ _) ?_))
  try exact xC hT.out rfl rfl rfl (jZ hB1 (by omega) hz1.out _).1 (jZ hB1 (by omega) hz1.out _).2
 ·have hend:=jZ hB2 (by omega) hz2.out zero;exact xC hT.out rfl rfl rfl hend.1 hend.2
 ·have hend:=jZ hB4 (by omega) hz4.out zero;exact xC hT.out rfl rfl rfl hend.1 hend.2
 have hend:=jZ hB4 (by omega) hz4.out (upd x off (v+n));exact xC hT.out rfl rfl rfl hend.1 hend.2
section
namespace Rt
def own(p:Nat):Nat:=if p<6 then p else if p<12 then p-6 else if p<18 then p-12 else(p-18) / 6
end Rt
def JS(a:World)(g:Nat)(x y:Nat->Int)(w':World):Prop:=w'.heap[g]? = some (.cells (bV .i64 54 x) 82 (0,0))/\w'.heap[g+1]? = some (.cells (bV .i64 54 y) 82 (0,0))/\w'.heap[g+1+1]? = some (.cells (bV .i64 54 zero) 82 (0,0))/\Below g a w'
theorem JS.drew{a w:World}{g:Nat}{x y:Nat->Int}(h:JS a g x y w):JS a g x y w.drew:=⟨h.1,h.2.1,h.2.2.1,bN h.2.2.2 1⟩
theorem JS.a{b w:World}{g:Nat}{x y:Nat->Int}(h:JS b g x y w)(i:Nat)(hi:i<54):w.cell? ⟨g,i,none⟩=some (.int .i64 (x i)):=gT h.1 i hi
theorem JS.b{a w:World}{g:Nat}{x y:Nat->Int}(h:JS a g x y w)(i:Nat)(hi:i<54):w.cell? ⟨g+1,i,none⟩=some (.int .i64 (y i)):=gT h.2.1 i hi
theorem JS.fr{a w:World}{g:Nat}{x y:Nat->Int}(h:JS a g x y w)(i:Nat):w.frozen? ⟨g,i,none⟩=false:=frozen_of_row w g i _ _ h.1
theorem JS.set{d w:World}{g:Nat}{x y:Nat->Int}(h:JS d g x y w)(i:Nat)(v:Int):JS d g (upd x i v) y (w.setCell ⟨g,i,none⟩ (.int .i64 v)):=by
 obtain⟨a,b,z,c⟩:=h;refine⟨?_,?_,?_,?_⟩
 ·rw[heap_setCell_same _ _ _ _ _ _ a,KC]
 ·rw[heap_setCell_other _ _ _ _ (by simp)]; exact b
 ·rw[heap_setCell_other _ _ _ _ (by simp; omega)]; exact z
 exact c.setCell (A_ _) _
theorem JS.congr{a w:World}{g:Nat}{x y b:Nat->Int}(h:JS a g x y w)(hx : ∀ i,i<54->x i=b i):JS a g b y w:=by
 unfold JS at *; rw[<- Ng hx]; exact h
def JSb(c:World)(g:Nat)(x y:Nat->Int)(b:Bool)(w':World):Prop := ∃ a,JS c g a y w'/\(b=false->a=x)
theorem JSb.a{b w:World}{g:Nat}{x y:Nat->Int}(h:JSb b g x y false w)(i:Nat)(hi:i<54):w.cell? ⟨g,i,none⟩=some (.int .i64 (x i)):=by
 obtain⟨c,h,e⟩:=h;rw[<- e rfl]; exact h.a i hi
attribute [local irreducible] Oper.wp wpList Code.wp
end
section
set_option maxHeartbeats 400000 in
theorem FP(is:Bool)(e:Int)(w:World) :
 Calls Tryz.prog 235 #[.bool is,.int .i64 e] w fun r w'=>r = .returned (.int .i64 (if is then e else 0))/\w'=w:=by
 cases is
 all_goals
  go_enter Tryz.func235,Tryz.ntmps235
  go_wp2
  go_ret
  exact⟨rfl,rfl⟩
def Pp(r:(Nat->Int) × Int)(w:World)(e:Ending)(w':World):Prop :=
 e = .returned (.tuple #[.agg (bV .i64 54 r.1),.int .i64 r.2])/\Below w.heap.size w w'
theorem uP{c:Func}{p q:Tmp}(j:c.results = #[.cell p 82,.tmp q]){b w:World}{a:Act}{g:Nat}{r:(Nat->Int) × Int}(e:a.defers = [])
 (h:a.tmps.getD p undef = .pointer (some ⟨g,0,none⟩)) (i:a.tmps.getD q undef = .int .i64 r.2) (f:w.heap[g]? = some (.cells (bV .i64 54 r.1) 82 (0,0))) (d:Below b.heap.size b w) :
 bodyPost Tryz.prog c (Pp r b) .ret a w :=
 bodyPost_ret (by rw[results_cell_tmp j a.tmps w g 82 _ (0,0) _ h f Tryz.underlying82 rfl (by rw[bQ]; exact nM),i]) e ⟨rfl,d⟩
def RS2(x:Nat->Int)(g:Nat)(i n:Int)(w':World):Prop:=w'.heap[g]? = some (.cells (bV .i64 54 x) 82 (0,0))/\w'.cell? ⟨g+1,0,none⟩=some (.int .i64 i)/\w'.cell? ⟨g+1+1,0,none⟩=some (.int .i64 n)
theorem oz(i:Int):iq i=true<->1<=i/\i<=6:=by unfold iq; simp
attribute [local irreducible] Oper.wp wpList Code.wp
end
section
namespace Rt
def qD(x:Nat->Int)(i n:Int):Int:=if decide (fU x i<n)then 11 else 0
def bF(x:Nat->Int)(i n:Int):(Nat->Int) × Int:=dn x n (iq i) (qD x i n) (6+(i.toNat-1))
theorem CZ(x:Nat->Int)(i:Int) : -(1125899906842624*8)<=fU x i/\fU x i<=1125899906842624*8:=by
 unfold fU;split
 ·exact Rc x _
 omega
end Rt
attribute [local irreducible] Oper.wp wpList Code.wp in
set_option maxRecDepth 100000 in
set_option maxHeartbeats 1000000 in
theorem Rf(x:Nat->Int)(i n:Int)(g h hi:Nat)(w:World)(hn:1<=n/\n<=1125899906842624)(hib : -9223372036854775808<=i/\i<=9223372036854775807)(hx:Hid (w.heap[g]? = some (.cells (bV .i64 54 x) 82 (0,0))))(hc:w.cell? ⟨h,0,none⟩=some (.int .i64 n))(hci:w.cell? ⟨hi,0,none⟩=some (.int .i64 i)) :
 Calls Tryz.prog 234 #[.pointer (some ⟨h,0,none⟩),.pointer (some ⟨g,0,none⟩),.pointer (some ⟨hi,0,none⟩)] w fun e w'=>e = .returned (.int .i64 (qD x i n))/\Below w.heap.size w w':=by
 have HE:Hid (qD x i n=if decide (fU x i<n)then 11 else 0):=rfl;have hb:=CZ x i;have hlh:=block_lt_of_cell hc;have YX:=block_lt_of_cell hci;have hlg:g<w.heap.size:=(t_.1 hx.out).1
 dsimp only at hlh YX
 have hB0:Below w.heap.size w w.drew:=jX w 1;have hs:Hid (∀ w',Calls Tryz.prog 60 #[.agg (bV .i64 54 x),.int .i64 i] w' fun e w''=>e = .returned (.int .i64 (fU x i))/\Below w'.heap.size w' w''):=fun w'=>xB x i w' hib;generalize fU x i=s1 at *;obtain⟨b,r,hd,HE⟩ : ∃(b:Bool) (r:Int),(b=true/\r=11/\s1<n\/b=false/\r=0 /\ ¬ s1<n)/\Hid (qD x i n=r):=by
  by_cases hd:s1<n
  ·exact⟨true,11,.inl ⟨rfl,rfl,hd⟩,by rw[f_ hd,d_ rfl]at HE; exact HE⟩
  ·exact⟨false,0,.inr ⟨rfl,rfl,hd⟩,by rw[g_ hd,b_ (by decide)]at HE; exact HE⟩
 go_enter Tryz.func234,Tryz.ntmps234
 go_upto_region 1 with (fail)
 rename_i K0 SI;refine wp_region_noPanic<|wp_region_held_drew (S:=Below w.heap.size w) (by kernel_rfl) hB0 fun hS => ?_;refine wT0 0 (.int .i64 n) rfl (fun w' hw=>?_) hS ?_
 ·have h2:=(hw.cell (p:=⟨h,0,none⟩) hlh).trans hc;clear hw hc hci
  go_simp
 refine wT0 1 (.agg (bV .i64 54 x)) rfl (fun w' hw=>?_) hS ?_
 ·exact mM 82 (.tmp 1) (by rfl) g (by rfl) 82 (bV .i64 54 x) (0,0) _ ((hw.block _ hlg).trans hx.out) Tryz.underlying82 (by rfl) (by rw[bQ]; exact nM)
 refine wT0 2 (.int .i64 i) rfl (fun w' hw=>?_) hS ?_
 ·have h2:=(hw.cell (p:=⟨hi,0,none⟩) YX).trans hci;clear hw hc hci
  go_simp
 refine wpAnyH_all (rs := [3]) (by kernel_rfl) (by decide) ?_;intro j hj;obtain rfl:j=3:=by simpa using hj
 refine wpOp_step rfl<|fun K hK => ?_;clear hj
 go_simp
 refine(hs.out _).mono ?_;rintro e w1 ⟨rfl,hb1⟩;have hS:=M6 hS hb1;refine hK _ _ ⟨hS,?_⟩;clear hK K;refine wT0 4 (.bool b) rfl (fun w' hw=>?_) hS ?_
 ·clear hw hc hci
  rcases hd with ⟨rfl,rfl,hd⟩|⟨rfl,rfl,hd⟩ <;> go_simp
 refine wpAnyH_all (rs := [5]) (by kernel_rfl) (by decide) ?_;intro j hj;obtain rfl:j=5:=by simpa using hj
 refine wpOp_step rfl<|fun K hK => ?_;clear hj
 go_simp
 refine(FP _ _ _).mono ?_;rintro e w2 ⟨rfl,rfl⟩;refine hK _ _ ⟨hS,?_⟩;clear hK K;refine wT0 6 (.int .i64 r) rfl (fun w' hw=>?_) hS ?_
 ·clear hw hc hci
  rcases hd with ⟨rfl,rfl,hd⟩|⟨rfl,rfl,hd⟩ <;> go_simp
 refine wpAnyH_done (by kernel_rfl) ?_ _;refine SI _ _ ?_
 rcases hd with ⟨rfl,rfl,hd⟩|⟨rfl,rfl,hd⟩ <;> (go_wp2; go_ret; rw[HE.out]; exact⟨rfl,hS⟩)
set_option maxHeartbeats 400000 in
theorem Rh(g h:Nat)(i:Int)(w:World)(hi:1<=i/\i<=6)(hc:w.cell? ⟨h,0,none⟩=some (.int .i64 i)) :
 Calls Tryz.prog 236 #[.pointer (some ⟨g,0,none⟩),.pointer (some ⟨h,0,none⟩)] w fun e w'=>e = .returned (.pointer (some ⟨g,6+(i.toNat-1),none⟩))/\Below w.heap.size w w':=by
 obtain⟨k,hk⟩:=Int.eq_ofNat_of_zero_le (show 0<=i-1 by omega);obtain rfl:i=(k:Int)+1:=by omega
 have hk6:(k:Int)<6:=by omega
 have HE:Hid (((k:Int)+1).toNat-1=k):=by unfold Hid; omega
 clear hk
 go_enter Tryz.func236,Tryz.ntmps236
 go_wp2_with fail
 go_quiet (fail)
 go_wp2
 go_ret
 rw[HE.out];exact⟨rfl,bN (Below.refl _ _) _⟩
theorem U3(args:Array Value)(w:World):(callFunc 234 args).run Tryz.prog w = .ok (.enter 234 args) w:=kK Tryz.func234 rfl rfl args w
theorem U4(args:Array Value)(w:World):(callFunc 236 args).run Tryz.prog w = .ok (.enter 236 args) w:=kK Tryz.func236 rfl rfl args w
attribute [local irreducible] Oper.wp wpList Code.wp
set_option maxRecDepth 100000 in
set_option maxHeartbeats 1000000 in
theorem U5(x:Nat->Int)(i n:Int)(w:World)(hi : -9223372036854775808<=i/\i<=9223372036854775807) :
 Calls Tryz.prog 221 #[.agg (bV .i64 54 x),.int .i64 i,.int .i64 n] w (Pp (bF x i n) w):=by
 have hmf : ∀(fn:Fn) (first cap:Array Value) (w:World),(Instr.makeFunc fn first cap).run Tryz.prog w = .ok (.func fn first cap) w:=fun _ _ _ _=>rfl
 go_enter Tryz.func221,Tryz.ntmps221
 go_upto_region 1 with (fail)
 rename_i K0 SI;rw[<- EO];have ha:=SY w (.cells (bV .i64 54 x) 82) (.cells #[.int .i64 i] 3) (.cells #[.int .i64 n] 2) (.cells (bV .i64 54 zero) 82);generalize (((w.alloc (.cells (bV .i64 54 x) 82)).alloc (.cells #[.int .i64 i] 3)).alloc (.cells #[.int .i64 n] 2)).alloc (.cells (bV .i64 54 zero) 82)=W at *;obtain⟨hx,hI,hN,hz,hs,hB⟩:=ha;have cI:=sU hI;have cN:=sU hN;have Hx:Hid _:=hx;have Hz:Hid _:=hz;have HI:Hid _:=hI;have HN:Hid _:=hN;have Hs:Hid _:=hs;clear hx hz hI hN hs;refine wp_region_noPanic<|wp_region_held_drew (S:=RS2 x w.heap.size i n) (by kernel_rfl) ⟨Hx.out,cI,cN⟩ fun hS => ?_;refine wT0 0 (.agg (bV .i64 54 x)) rfl (fun w' hw=>?_) hS ?_
 ·exact mM 82 (.tmp 3) (by rfl) w.heap.size (by rfl) 82 (bV .i64 54 x) (0,0) _ hw.1 Tryz.underlying82 (by rfl) (by rw[bQ]; exact nM)
 refine wT0 1 (.int .i64 n) rfl (fun w' hw=>?_) hS ?_
 ·have h2:=hw.2.2
  go_simp
 refine wT0 2 (.int .i64 i) rfl (fun w' hw=>?_) hS ?_
 ·have h2:=hw.2.1;have h3:=hw.2.2;clear hw
  go_simp
 refine wT0 4 (.func (.func 234) #[] #[.pointer (some ⟨w.heap.size+1+1,0,none⟩),.pointer (some ⟨w.heap.size,0,none⟩),.pointer (some ⟨w.heap.size+1,0,none⟩)]) rfl (fun w' hw=>?_) hS ?_
 ·have h2:=hw.2.1;have h3:=hw.2.2;clear hw
  go_simp
 refine wT0 5 (.func (.func 236) #[] #[.pointer (some ⟨w.heap.size+1,0,none⟩)]) rfl (fun w' hw=>?_) hS ?_
 ·have h2:=hw.2.1;have h3:=hw.2.2;clear hw
  go_simp
 refine wpAnyH_all (rs := [3]) (by kernel_rfl) (by decide) ?_;intro j hj;obtain rfl:j=3:=by simpa using hj
 refine wpOp_step rfl<|fun K hK => ?_;clear hj
 go_simp
 refine(tK i _ hi).mono ?_;rintro e w' ⟨rfl,rfl⟩;refine hK _ _ ⟨hS,?_⟩;clear hK K;refine wpAnyH_all (rs := [6]) (by kernel_rfl) (by decide) ?_;intro j hj;obtain rfl:j=6:=by simpa using hj
 refine wpOp_step rfl<|fun K hK => ?_;clear hj
 go_simp
 have hlx:w.heap.size<W.drew.heap.size:=(t_.1 hS.1).1;have YZ:=block_lt_of_cell hS.2.1;have hlN:=block_lt_of_cell hS.2.2
 dsimp only at YZ hlN
 refine(xD x n (iq i) 234 236 _ _ (qD x i n) (6+(i.toNat-1)) W.drew ?o1 ?o2 U3 U4 ?o3 ?o4).mono ?_
 case o1=>intro h; have:=(oz i).1 h; omega
 case o2=>intro h hm; have:=(oz i).1 h; exact(xA hm (i.toNat-1) (by omega)).c
 case o3 =>
  intro hm h1 h2 h3 w' hb;exact Rf x i n _ _ _ w' ⟨h1,h2⟩ hi ((hb.block _ hlx).trans hS.1) ((hb.cell (p:=⟨w.heap.size+1+1,0,none⟩) hlN).trans hS.2.2) ((hb.cell (p:=⟨w.heap.size+1,0,none⟩) YZ).trans hS.2.1)
 case o4 =>
  intro h w' g hb;exact Rh g _ i w' ((oz i).1 h) ((hb.cell (p:=⟨w.heap.size+1,0,none⟩) YZ).trans hS.2.1)
 rintro e w2 ⟨rfl,hb2⟩;have hHR:Hid (bF x i n=dn x n (iq i) (qD x i n) (6+(i.toNat-1))):=rfl;generalize dn x n (iq i) (qD x i n) (6+(i.toNat-1))=r at *;have hS2:RS2 x w.heap.size i n w2:=⟨(hb2.block _ hlx).trans hS.1,(hb2.cell (p:=⟨w.heap.size+1,0,none⟩) YZ).trans hS.2.1,(hb2.cell (p:=⟨w.heap.size+1+1,0,none⟩) hlN).trans hS.2.2⟩;have hz2:Hid (w2.heap[w.heap.size+1+1+1]? = some (.cells (bV .i64 54 zero) 82 (0,0))):=(hb2.block _ (by show _<W.heap.size; have:=Hs.out; omega)).trans Hz.out;have hB2:Below w.heap.size w w2:=hB.trans ((bdr hb2).mono hB.size);refine hK _ _ ⟨hS2,?_⟩;clear hK K hS hb2;refine wT0 7 (.agg (bV .i64 54 r.1)) rfl (fun w' hw=>?_) hS2 ?_
 ·clear hw
  go_simp
 refine wT0 8 (.int .i64 r.2) rfl (fun w' hw=>?_) hS2 ?_
 ·clear hw
  go_simp
 refine wpAnyH_all (rs := [9]) (by kernel_rfl) (by decide) ?_;intro j hj;obtain rfl:j=9:=by simpa using hj
 clear hj;refine wO (by rfl) (by rfl)<|fun K hK => ?_;refine wp_store_row 82 (.tmp 6) (.tmp 15) (by rfl) (w.heap.size+1+1+1) (bV .i64 54 r.1) (by rfl) (by rfl) 82 (bV .i64 54 zero) hz2.out (by rw[bQ]; exact nM) (by rw[bQ,bQ]) (nZ _ _ _) ?_;have hend:=jZ hB2 (by omega) hz2.out r.1;have hS3:RS2 x w.heap.size i n (w2.setRow (w.heap.size+1+1+1) (bV .i64 54 r.1)):=⟨(setRow_other _ _ _ _ (by omega)).trans hS2.1,(World.cell?_of_block (setRow_other _ _ _ _ (by show w.heap.size+1≠_; omega))).trans hS2.2.1,(World.cell?_of_block (setRow_other _ _ _ _ (by show w.heap.size+1+1≠_; omega))).trans hS2.2.2⟩;refine hK _ _ ⟨hS3,?_⟩;clear hK K hz2 hB2 hS2;generalize w2.setRow (w.heap.size+1+1+1) (bV .i64 54 r.1)=w3 at *;refine wT0 10 (.int .i64 r.2) rfl (fun w' hw=>?_) hS3 ?_
 ·clear hw
  go_simp
 refine wpAnyH_done (by kernel_rfl) ?_ _;refine SI _ _<|wp_ret ?_;rw[hHR.out];exact uP (p:=6) (q:=7) (by kernel_rfl) (by kernel_rfl) (by kernel_rfl) (by kernel_rfl) hend.1 hend.2
end
section
namespace Rt
def qE(x:Nat->Int)(i n:Int):Int:=if decide (C x (i.toNat-1)-F x (i.toNat-1)<n)then 12 else 0
def bH(x:Nat->Int)(i n:Int):(Nat->Int) × Int:=dn x n (iq i) (qE x i n) (12+(i.toNat-1))
end Rt
attribute [local irreducible] Oper.wp wpList Code.wp in
set_option maxRecDepth 100000 in
set_option maxHeartbeats 1000000 in
theorem Ri(x:Nat->Int)(i n:Int)(g h hi:Nat)(w:World)(hn:1<=n/\n<=1125899906842624)(hib:1<=i/\i<=6)(hm:may x=true)(hx:Hid (w.heap[g]? = some (.cells (bV .i64 54 x) 82 (0,0))))(hc:w.cell? ⟨h,0,none⟩=some (.int .i64 n))(hci:w.cell? ⟨hi,0,none⟩=some (.int .i64 i)) :
 Calls Tryz.prog 237 #[.pointer (some ⟨h,0,none⟩),.pointer (some ⟨g,0,none⟩),.pointer (some ⟨hi,0,none⟩)] w fun e w'=>e = .returned (.int .i64 (qE x i n))/\Below w.heap.size w w':=by
 obtain⟨k,hk⟩:=Int.eq_ofNat_of_zero_le (show 0<=i-1 by omega);obtain rfl:i=(k:Int)+1:=by omega
 have hk6:k<6:=by omega
 have ho:=xA hm k hk6;have h1:=ho.c;have h2:=ho.f;have h3:=ho.fc;have c6:w.cell? ⟨g,6+k,none⟩=some (.int .i64 (C x k)):=gT hx.out (6+k) (by omega);have c12:w.cell? ⟨g,12+k,none⟩=some (.int .i64 (F x k)):=gT hx.out (12+k) (by omega);have HE:Hid (qE x ((k:Int)+1) n=if decide (C x k-F x k<n)then 12 else 0):=by
  unfold Hid qE;rw[show((k:Int)+1).toNat-1=k by omega]
 clear ho hm hk;generalize C x k=c at *;generalize F x k=f at *;have hlh:=block_lt_of_cell hc;have YX:=block_lt_of_cell hci;have hlg:g<w.heap.size:=(t_.1 hx.out).1
 dsimp only at hlh YX
 have hB0:Below w.heap.size w w.drew:=jX w 1;obtain⟨b,r,hd,HE⟩ : ∃(b:Bool) (r:Int),(b=true/\r=12/\c-f<n\/b=false/\r=0 /\ ¬ c-f<n)/\Hid (qE x ((k:Int)+1) n=r):=by
  by_cases hd:c-f<n
  ·exact⟨true,12,.inl ⟨rfl,rfl,hd⟩,by rw[f_ hd,d_ rfl]at HE; exact HE⟩
  ·exact⟨false,0,.inr ⟨rfl,rfl,hd⟩,by rw[g_ hd,b_ (by decide)]at HE; exact HE⟩
 go_enter Tryz.func237,Tryz.ntmps237
 go_upto_region 1 with (fail)
 rename_i K0 SI;refine wp_region_noPanic<|wp_region_held_drew (S:=Below w.heap.size w) (by kernel_rfl) hB0 fun hS => ?_;refine wT0 0 (.int .i64 n) rfl (fun w' hw=>?_) hS ?_
 ·have h2:=(hw.cell (p:=⟨h,0,none⟩) hlh).trans hc;clear hw hc hci
  go_simp
 refine wT0 1 (.int .i64 ((k:Int)+1)) rfl (fun w' hw=>?_) hS ?_
 ·have h2:=(hw.cell (p:=⟨hi,0,none⟩) YX).trans hci;clear hw hc hci
  go_simp
 refine wT0 2 (.int .i64 (k:Int)) rfl (fun w' hw=>?_) hS ?_
 ·clear hw hc hci
  go_simp
  exact IntWalk.i64_in _ (by omega)
 refine wT0 3 (.pointer (some ⟨g,6,none⟩)) rfl (fun w' hw=>?_) hS ?_
 ·clear hw hc hci
  go_simp
 refine wT0 4 (.pointer (some ⟨g,6+k,none⟩)) rfl (fun w' hw=>?_) hS ?_
 ·have hk7:(k:Int)<6:=by omega
  clear hw hc hci
  go_simp
 refine wT0 5 (.int .i64 c) rfl (fun w' hw=>?_) hS ?_
 ·have h2:=(hw.cell (p:=⟨g,6+k,none⟩) hlg).trans c6;clear hw hc hci
  go_simp
 refine wT0 6 (.int .i64 ((k:Int)+1)) rfl (fun w' hw=>?_) hS ?_
 ·have h2:=(hw.cell (p:=⟨hi,0,none⟩) YX).trans hci;clear hw hc hci
  go_simp
 refine wT0 7 (.int .i64 (k:Int)) rfl (fun w' hw=>?_) hS ?_
 ·clear hw hc hci
  go_simp
  exact IntWalk.i64_in _ (by omega)
 refine wT0 8 (.pointer (some ⟨g,12,none⟩)) rfl (fun w' hw=>?_) hS ?_
 ·clear hw hc hci
  go_simp
 refine wT0 9 (.pointer (some ⟨g,12+k,none⟩)) rfl (fun w' hw=>?_) hS ?_
 ·have hk7:(k:Int)<6:=by omega
  clear hw hc hci
  go_simp
 refine wT0 10 (.int .i64 f) rfl (fun w' hw=>?_) hS ?_
 ·have h2:=(hw.cell (p:=⟨g,12+k,none⟩) hlg).trans c12;clear hw hc hci
  go_simp
 refine wT0 11 (.int .i64 (c-f)) rfl (fun w' hw=>?_) hS ?_
 ·clear hw hc hci
  go_simp
  exact IntWalk.i64_in _ (by omega)
 refine wT0 12 (.bool b) rfl (fun w' hw=>?_) hS ?_
 ·clear hw hc hci
  rcases hd with ⟨rfl,rfl,hd⟩|⟨rfl,rfl,hd⟩ <;> go_simp
 refine wpAnyH_all (rs := [13]) (by kernel_rfl) (by decide) ?_;intro j hj;obtain rfl:j=13:=by simpa using hj
 refine wpOp_step rfl<|fun K hK => ?_;clear hj
 go_simp
 refine(FP _ _ _).mono ?_;rintro e w2 ⟨rfl,rfl⟩;refine hK _ _ ⟨hS,?_⟩;clear hK K;refine wT0 14 (.int .i64 r) rfl (fun w' hw=>?_) hS ?_
 ·clear hw hc hci
  rcases hd with ⟨rfl,rfl,hd⟩|⟨rfl,rfl,hd⟩ <;> go_simp
 refine wpAnyH_done (by kernel_rfl) ?_ _;refine SI _ _ ?_
 rcases hd with ⟨rfl,rfl,hd⟩|⟨rfl,rfl,hd⟩ <;> (go_wp2; go_ret; rw[HE.out]; exact⟨rfl,hS⟩)
attribute [local irreducible] Oper.wp wpList Code.wp
set_option maxHeartbeats 400000 in
theorem Rj(g h:Nat)(i:Int)(w:World)(hi:1<=i/\i<=6)(hc:w.cell? ⟨h,0,none⟩=some (.int .i64 i)) :
 Calls Tryz.prog 238 #[.pointer (some ⟨g,0,none⟩),.pointer (some ⟨h,0,none⟩)] w fun e w'=>e = .returned (.pointer (some ⟨g,12+(i.toNat-1),none⟩))/\Below w.heap.size w w':=by
 obtain⟨k,hk⟩:=Int.eq_ofNat_of_zero_le (show 0<=i-1 by omega);obtain rfl:i=(k:Int)+1:=by omega
 have hk6:(k:Int)<6:=by omega
 have HE:Hid (((k:Int)+1).toNat-1=k):=by unfold Hid; omega
 clear hk
 go_enter Tryz.func238,Tryz.ntmps238
 go_wp2_with fail
 go_quiet (fail)
 go_wp2
 go_ret
 rw[HE.out];exact⟨rfl,bN (Below.refl _ _) _⟩
theorem U6(args:Array Value)(w:World):(callFunc 237 args).run Tryz.prog w = .ok (.enter 237 args) w:=kK Tryz.func237 rfl rfl args w
theorem U7(args:Array Value)(w:World):(callFunc 238 args).run Tryz.prog w = .ok (.enter 238 args) w:=kK Tryz.func238 rfl rfl args w
set_option maxRecDepth 100000 in
set_option maxHeartbeats 1000000 in
theorem U8(x:Nat->Int)(i n:Int)(w:World)(hi : -9223372036854775808<=i/\i<=9223372036854775807) :
 Calls Tryz.prog 224 #[.agg (bV .i64 54 x),.int .i64 i,.int .i64 n] w (Pp (bH x i n) w):=by
 have hmf : ∀(fn:Fn) (first cap:Array Value) (w:World),(Instr.makeFunc fn first cap).run Tryz.prog w = .ok (.func fn first cap) w:=fun _ _ _ _=>rfl
 go_enter Tryz.func224,Tryz.ntmps224
 go_upto_region 1 with (fail)
 rename_i K0 SI;rw[<- EO];have ha:=SY w (.cells (bV .i64 54 x) 82) (.cells #[.int .i64 i] 3) (.cells #[.int .i64 n] 2) (.cells (bV .i64 54 zero) 82);generalize (((w.alloc (.cells (bV .i64 54 x) 82)).alloc (.cells #[.int .i64 i] 3)).alloc (.cells #[.int .i64 n] 2)).alloc (.cells (bV .i64 54 zero) 82)=W at *;obtain⟨hx,hI,hN,hz,hs,hB⟩:=ha;have cI:=sU hI;have cN:=sU hN;have Hx:Hid _:=hx;have Hz:Hid _:=hz;have HI:Hid _:=hI;have HN:Hid _:=hN;have Hs:Hid _:=hs;clear hx hz hI hN hs;refine wp_region_noPanic<|wp_region_held_drew (S:=RS2 x w.heap.size i n) (by kernel_rfl) ⟨Hx.out,cI,cN⟩ fun hS => ?_;refine wT0 0 (.agg (bV .i64 54 x)) rfl (fun w' hw=>?_) hS ?_
 ·exact mM 82 (.tmp 3) (by rfl) w.heap.size (by rfl) 82 (bV .i64 54 x) (0,0) _ hw.1 Tryz.underlying82 (by rfl) (by rw[bQ]; exact nM)
 refine wT0 1 (.int .i64 n) rfl (fun w' hw=>?_) hS ?_
 ·have h2:=hw.2.2
  go_simp
 refine wT0 2 (.int .i64 i) rfl (fun w' hw=>?_) hS ?_
 ·have h2:=hw.2.1;have h3:=hw.2.2;clear hw
  go_simp
 refine wT0 4 (.func (.func 237) #[] #[.pointer (some ⟨w.heap.size+1+1,0,none⟩),.pointer (some ⟨w.heap.size,0,none⟩),.pointer (some ⟨w.heap.size+1,0,none⟩)]) rfl (fun w' hw=>?_) hS ?_
 ·have h2:=hw.2.1;have h3:=hw.2.2;clear hw
  go_simp
 refine wT0 5 (.func (.func 238) #[] #[.pointer (some ⟨w.heap.size+1,0,none⟩)]) rfl (fun w' hw=>?_) hS ?_
 ·have h2:=hw.2.1;have h3:=hw.2.2;clear hw
  go_simp
 refine wpAnyH_all (rs := [3]) (by kernel_rfl) (by decide) ?_;intro j hj;obtain rfl:j=3:=by simpa using hj
 refine wpOp_step rfl<|fun K hK => ?_;clear hj
 go_simp
 refine(tK i _ hi).mono ?_;rintro e w' ⟨rfl,rfl⟩;refine hK _ _ ⟨hS,?_⟩;clear hK K;refine wpAnyH_all (rs := [6]) (by kernel_rfl) (by decide) ?_;intro j hj;obtain rfl:j=6:=by simpa using hj
 refine wpOp_step rfl<|fun K hK => ?_;clear hj
 go_simp
 have hlx:w.heap.size<W.drew.heap.size:=(t_.1 hS.1).1;have YZ:=block_lt_of_cell hS.2.1;have hlN:=block_lt_of_cell hS.2.2
 dsimp only at YZ hlN
 refine(xD x n (iq i) 237 238 _ _ (qE x i n) (12+(i.toNat-1)) W.drew ?o1 ?o2 U6 U7 ?o3 ?o4).mono ?_
 case o1=>intro h; have:=(oz i).1 h; omega
 case o2=>intro h hm; have:=(oz i).1 h; exact(xA hm (i.toNat-1) (by omega)).f
 case o3 =>
  intro hm h1 h2 h3 w' hb;exact Ri x i n _ _ _ w' ⟨h1,h2⟩ ((oz i).1 h3) hm ((hb.block _ hlx).trans hS.1) ((hb.cell (p:=⟨w.heap.size+1+1,0,none⟩) hlN).trans hS.2.2) ((hb.cell (p:=⟨w.heap.size+1,0,none⟩) YZ).trans hS.2.1)
 case o4 =>
  intro h w' g hb;exact Rj g _ i w' ((oz i).1 h) ((hb.cell (p:=⟨w.heap.size+1,0,none⟩) YZ).trans hS.2.1)
 rintro e w2 ⟨rfl,hb2⟩;have hHR:Hid (bH x i n=dn x n (iq i) (qE x i n) (12+(i.toNat-1))):=rfl;generalize dn x n (iq i) (qE x i n) (12+(i.toNat-1))=r at *;have hS2:RS2 x w.heap.size i n w2:=⟨(hb2.block _ hlx).trans hS.1,(hb2.cell (p:=⟨w.heap.size+1,0,none⟩) YZ).trans hS.2.1,(hb2.cell (p:=⟨w.heap.size+1+1,0,none⟩) hlN).trans hS.2.2⟩;have hz2:Hid (w2.heap[w.heap.size+1+1+1]? = some (.cells (bV .i64 54 zero) 82 (0,0))):=(hb2.block _ (by show _<W.heap.size; have:=Hs.out; omega)).trans Hz.out;have hB2:Below w.heap.size w w2:=hB.trans ((bdr hb2).mono hB.size);refine hK _ _ ⟨hS2,?_⟩;clear hK K hS hb2;refine wT0 7 (.agg (bV .i64 54 r.1)) rfl (fun w' hw=>?_) hS2 ?_
 ·clear hw
  go_simp
 refine wT0 8 (.int .i64 r.2) rfl (fun w' hw=>?_) hS2 ?_
 ·clear hw
  go_simp
 refine wpAnyH_all (rs := [9]) (by kernel_rfl) (by decide) ?_;intro j hj;obtain rfl:j=9:=by simpa using hj
 clear hj;refine wO (by rfl) (by rfl)<|fun K hK => ?_;refine wp_store_row 82 (.tmp 6) (.tmp 15) (by rfl) (w.heap.size+1+1+1) (bV .i64 54 r.1) (by rfl) (by rfl) 82 (bV .i64 54 zero) hz2.out (by rw[bQ]; exact nM) (by rw[bQ,bQ]) (nZ _ _ _) ?_;have hend:=jZ hB2 (by omega) hz2.out r.1;have hS3:RS2 x w.heap.size i n (w2.setRow (w.heap.size+1+1+1) (bV .i64 54 r.1)):=⟨(setRow_other _ _ _ _ (by omega)).trans hS2.1,(World.cell?_of_block (setRow_other _ _ _ _ (by show w.heap.size+1≠_; omega))).trans hS2.2.1,(World.cell?_of_block (setRow_other _ _ _ _ (by show w.heap.size+1+1≠_; omega))).trans hS2.2.2⟩;refine hK _ _ ⟨hS3,?_⟩;clear hK K hz2 hB2 hS2;generalize w2.setRow (w.heap.size+1+1+1) (bV .i64 54 r.1)=w3 at *;refine wT0 10 (.int .i64 r.2) rfl (fun w' hw=>?_) hS3 ?_
 ·clear hw
  go_simp
 refine wpAnyH_done (by kernel_rfl) ?_ _;refine SI _ _<|wp_ret ?_;rw[hHR.out];exact uP (p:=6) (q:=7) (by kernel_rfl) (by kernel_rfl) (by kernel_rfl) (by kernel_rfl) hend.1 hend.2
end
namespace Rt
def nN(x:Nat->Int)(i j n:Int):Int:=if i=j then 1 else if decide (fU x i<n)then 11 else 0
def lD(i j:Int):Nat:=18+(i.toNat-1)*6+(j.toNat-1)
def dA(x:Nat->Int)(i j n:Int):(Nat->Int) × Int:=dn x n (iq i&&iq j) (nN x i j n) (lD i j)
end Rt
attribute [local irreducible] Oper.wp wpList Code.wp in
set_option maxRecDepth 100000 in
set_option maxHeartbeats 1000000 in
theorem Io(x:Nat->Int)(i j0 n:Int)(g h hi hj:Nat)(w:World)(hn:1<=n/\n<=1125899906842624)(hib : -9223372036854775808<=i/\i<=9223372036854775807)(hjb : -9223372036854775808<=j0/\j0<=9223372036854775807)(hx:Hid (w.heap[g]? = some (.cells (bV .i64 54 x) 82 (0,0))))(hc:w.cell? ⟨h,0,none⟩=some (.int .i64 n))(hci:w.cell? ⟨hi,0,none⟩=some (.int .i64 i))(hcj:w.cell? ⟨hj,0,none⟩=some (.int .i64 j0)) :
 Calls Tryz.prog 239 #[.pointer (some ⟨hi,0,none⟩),.pointer (some ⟨hj,0,none⟩),.pointer (some ⟨h,0,none⟩),.pointer (some ⟨g,0,none⟩)] w fun e w'=>e = .returned (.int .i64 (nN x i j0 n))/\Below w.heap.size w w':=by
 have HE:Hid (nN x i j0 n=if i=j0 then 1 else if decide (fU x i<n)then 11 else 0):=rfl;have hb:=CZ x i;have hlh:=block_lt_of_cell hc;have YX:=block_lt_of_cell hci;have hlg:g<w.heap.size:=(t_.1 hx.out).1
 dsimp only at hlh YX
 have hB0:Below w.heap.size w w.drew:=jX w 1;have hs:Hid (∀ w',Calls Tryz.prog 60 #[.agg (bV .i64 54 x),.int .i64 i] w' fun e w''=>e = .returned (.int .i64 (fU x i))/\Below w'.heap.size w' w''):=fun w'=>xB x i w' hib;generalize fU x i=s1 at *;by_cases he:i=j0
 ·rw[d_ he]at HE;subst he
  go_enter Tryz.func239,Tryz.ntmps239
  go_wp2
  go_ret
  rw[HE.out];exact⟨rfl,Below.refl _ _⟩
 rw[b_ he]at HE;have hne:(i==j0)=false:=by simpa using he
 clear he;obtain⟨b,r,hd,HE⟩ : ∃(b:Bool) (r:Int),(b=true/\r=11/\s1<n\/b=false/\r=0 /\ ¬ s1<n)/\Hid (nN x i j0 n=r):=by
  by_cases hd:s1<n
  ·exact⟨true,11,.inl ⟨rfl,rfl,hd⟩,by rw[f_ hd,d_ rfl]at HE; exact HE⟩
  ·exact⟨false,0,.inr ⟨rfl,rfl,hd⟩,by rw[g_ hd,b_ (by decide)]at HE; exact HE⟩
 go_enter Tryz.func239,Tryz.ntmps239
 go_upto_region 3 with (fail)
 rename_i K0 SI;refine wp_region_noPanic<|wp_region_held_drew (S:=Below w.heap.size w) (by kernel_rfl) hB0 fun hS => ?_;refine wT0 0 (.int .i64 n) rfl (fun w' hw=>?_) hS ?_
 ·have h2:=(hw.cell (p:=⟨h,0,none⟩) hlh).trans hc;clear hw hc hci
  go_simp
 refine wT0 1 (.agg (bV .i64 54 x)) rfl (fun w' hw=>?_) hS ?_
 ·exact mM 82 (.tmp 3) (by rfl) g (by rfl) 82 (bV .i64 54 x) (0,0) _ ((hw.block _ hlg).trans hx.out) Tryz.underlying82 (by rfl) (by rw[bQ]; exact nM)
 refine wT0 2 (.int .i64 i) rfl (fun w' hw=>?_) hS ?_
 ·have h2:=(hw.cell (p:=⟨hi,0,none⟩) YX).trans hci;clear hw hc hci
  go_simp
 refine wpAnyH_all (rs := [3]) (by kernel_rfl) (by decide) ?_;intro j hj;obtain rfl:j=3:=by simpa using hj
 refine wpOp_step rfl<|fun K hK => ?_;clear hj
 go_simp
 refine(hs.out _).mono ?_;rintro e w1 ⟨rfl,hb1⟩;have hS:=M6 hS hb1;refine hK _ _ ⟨hS,?_⟩;clear hK K;refine wT0 4 (.bool b) rfl (fun w' hw=>?_) hS ?_
 ·clear hw hc hci
  rcases hd with ⟨rfl,rfl,hd⟩|⟨rfl,rfl,hd⟩ <;> go_simp
 refine wpAnyH_all (rs := [5]) (by kernel_rfl) (by decide) ?_;intro j hj;obtain rfl:j=5:=by simpa using hj
 refine wpOp_step rfl<|fun K hK => ?_;clear hj
 go_simp
 refine(FP _ _ _).mono ?_;rintro e w2 ⟨rfl,rfl⟩;refine hK _ _ ⟨hS,?_⟩;clear hK K;refine wT0 6 (.int .i64 r) rfl (fun w' hw=>?_) hS ?_
 ·clear hw hc hci
  rcases hd with ⟨rfl,rfl,hd⟩|⟨rfl,rfl,hd⟩ <;> go_simp
 refine wpAnyH_done (by kernel_rfl) ?_ _;refine SI _ _ ?_
 rcases hd with ⟨rfl,rfl,hd⟩|⟨rfl,rfl,hd⟩ <;> (go_wp2; go_ret; rw[HE.out]; exact⟨rfl,hS⟩)
set_option maxHeartbeats 400000 in
theorem Iq(g h1 h2:Nat)(i j:Int)(w:World)(hi:1<=i/\i<=6)(hj:1<=j/\j<=6)(hci:w.cell? ⟨h1,0,none⟩=some (.int .i64 i))(hcj:w.cell? ⟨h2,0,none⟩=some (.int .i64 j)) :
 Calls Tryz.prog 240 #[.pointer (some ⟨g,0,none⟩),.pointer (some ⟨h1,0,none⟩),.pointer (some ⟨h2,0,none⟩)] w fun e w'=>e = .returned (.pointer (some ⟨g,lD i j,none⟩))/\Below w.heap.size w w':=by
 obtain⟨k,hk⟩:=Int.eq_ofNat_of_zero_le (show 0<=i-1 by omega);obtain rfl:i=(k:Int)+1:=by omega
 obtain⟨l,hl⟩:=Int.eq_ofNat_of_zero_le (show 0<=j-1 by omega);obtain rfl:j=(l:Int)+1:=by omega
 have hk6:(k:Int)<6:=by omega
 have hl6:(l:Int)<6:=by omega
 have HE:Hid (lD ((k:Int)+1) ((l:Int)+1)=18+k*6+l):=by unfold Hid lD; omega
 clear hk hl
 go_enter Tryz.func240,Tryz.ntmps240
 go_wp2_with fail
 go_quiet (fail)
 go_wp2
 go_ret
 rw[HE.out];exact⟨rfl,bN (Below.refl _ _) _⟩
theorem Lh(args:Array Value)(w:World):(callFunc 239 args).run Tryz.prog w = .ok (.enter 239 args) w:=kK Tryz.func239 rfl rfl args w
theorem Li(args:Array Value)(w:World):(callFunc 240 args).run Tryz.prog w = .ok (.enter 240 args) w:=kK Tryz.func240 rfl rfl args w
section
def M8(x:Nat->Int)(g:Nat)(i j n:Int)(w':World):Prop:=w'.heap[g]? = some (.cells (bV .i64 54 x) 82 (0,0))/\w'.cell? ⟨g+1,0,none⟩=some (.int .i64 i)/\w'.cell? ⟨g+1+1,0,none⟩=some (.int .i64 j)/\w'.cell? ⟨g+1+1+1,0,none⟩=some (.int .i64 n)
theorem M8.up{x:Nat->Int}{g:Nat}{i j n:Int}{w w':World}(h:M8 x g i j n w)(e:Below w.heap.size w w'):M8 x g i j n w':=by
 obtain⟨a,b,c,d⟩:=h;exact⟨(e.block _ (t_.1 a).1).trans a,(e.cell (p:=⟨g+1,0,none⟩) (block_lt_of_cell b)).trans b,(e.cell (p:=⟨g+1+1,0,none⟩) (block_lt_of_cell c)).trans c,(e.cell (p:=⟨g+1+1+1,0,none⟩) (block_lt_of_cell d)).trans d⟩
instance {x:Nat->Int} {g:Nat} {i j n:Int} {w w':World}:Rt.Tr w w' (M8 x g i j n w) (M8 x g i j n w'):=⟨fun b h=>h.up b⟩
theorem M8.row{x:Nat->Int}{g:Nat}{i j n:Int}{w:World}(h:M8 x g i j n w)(cs:Array Value):M8 x g i j n (w.setRow (g+1+1+1+1) cs):=by
 obtain⟨a,b,c,d⟩:=h;exact⟨(setRow_other _ _ _ _ (by omega)).trans a,(World.cell?_of_block (setRow_other _ _ _ _ (by show g+1≠_; omega))).trans b,(World.cell?_of_block (setRow_other _ _ _ _ (by show g+1+1≠_; omega))).trans c,(World.cell?_of_block (setRow_other _ _ _ _ (by show g+1+1+1≠_; omega))).trans d⟩
attribute [local irreducible] Oper.wp wpList Code.wp
set_option maxRecDepth 100000 in
set_option maxHeartbeats 2000000 in
theorem U9(x:Nat->Int)(i j n:Int)(w:World)(hi : -9223372036854775808<=i/\i<=9223372036854775807)(hj0 : -9223372036854775808<=j/\j<=9223372036854775807) :
 Calls Tryz.prog 226 #[.agg (bV .i64 54 x),.int .i64 i,.int .i64 j,.int .i64 n] w (Pp (dA x i j n) w):=by
 have HM:Hid (dA x i j n=dn x n (iq i&&iq j) (nN x i j n) (lD i j)):=rfl;have hri:=oz i;have hrj:=oz j;have U1:Hid (∀ w',Calls Tryz.prog 94 #[.int .i64 i] w' fun e w''=>e = .returned (.bool (iq i))/\w''=w'):=fun w'=>tK i w' hi;have ait:Hid (∀ w',Calls Tryz.prog 94 #[.int .i64 j] w' fun e w''=>e = .returned (.bool (iq j))/\w''=w'):=fun w'=>tK j w' hj0;generalize iq i=bi at *;generalize iq j=bj at *;have Hri:Hid _:=hri;have Hrj:Hid _:=hrj;clear hri hrj;have hmf : ∀(fn:Fn) (first cap:Array Value) (w:World),(Instr.makeFunc fn first cap).run Tryz.prog w = .ok (.func fn first cap) w:=fun _ _ _ _=>rfl
 cases bi
 all_goals
  go_enter Tryz.func226,Tryz.ntmps226
  go_upto_region 1 with (fail)
  rename_i K0 SI;rw[<- EO];have ha:=acB w (.cells (bV .i64 54 x) 82) (.cells #[.int .i64 i] 3) (.cells #[.int .i64 j] 3) (.cells #[.int .i64 n] 2) (.cells (bV .i64 54 zero) 82);generalize ((((w.alloc (.cells (bV .i64 54 x) 82)).alloc (.cells #[.int .i64 i] 3)).alloc (.cells #[.int .i64 j] 3)).alloc (.cells #[.int .i64 n] 2)).alloc (.cells (bV .i64 54 zero) 82)=W at *;obtain⟨hx,hI,hJ,hN,hz,hs,hB⟩:=ha;have hS0:M8 x w.heap.size i j n W.drew:=⟨hx,sU (w:=W) hI,sU (w:=W) hJ,sU (w:=W) hN⟩;have Hz:Hid _:=hz;have Hs:Hid _:=hs;clear hx hz hI hJ hN hs;refine wp_region_noPanic<|wp_region_held_drew (S:=M8 x w.heap.size i j n) (by kernel_rfl) hS0 fun hS => ?_;refine wT0 0 (.agg (bV .i64 54 x)) rfl (fun w' hw=>?_) hS ?_
  ·exact mM 82 (.tmp 4) (by rfl) w.heap.size (by rfl) 82 (bV .i64 54 x) (0,0) _ hw.1 Tryz.underlying82 (by rfl) (by rw[bQ]; exact nM)
  refine wT0 1 (.int .i64 n) rfl (fun w' hw=>?_) hS ?_
  ·have h2:=hw.2.2.2;clear hw
   go_simp
  refine wT0 2 (.int .i64 i) rfl (fun w' hw=>?_) hS ?_
  ·have h2:=hw.2.1;clear hw
   go_simp
  refine wT0 8 (.func (.func 239) #[] #[.pointer (some ⟨w.heap.size+1,0,none⟩),.pointer (some ⟨w.heap.size+1+1,0,none⟩),.pointer (some ⟨w.heap.size+1+1+1,0,none⟩),.pointer (some ⟨w.heap.size,0,none⟩)]) rfl (fun w' hw=>?_) hS ?_
  ·clear hw
   go_simp
  refine wT0 9 (.func (.func 240) #[] #[.pointer (some ⟨w.heap.size+1,0,none⟩),.pointer (some ⟨w.heap.size+1+1,0,none⟩)]) rfl (fun w' hw=>?_) hS ?_
  ·clear hw
   go_simp
  refine wpAnyH_all (rs := [3]) (by kernel_rfl) (by decide) ?_;intro j hj;obtain rfl:j=3:=by simpa using hj
  refine wpOp_step rfl<|fun K hK => ?_;clear hj
  go_simp
  refine(U1.out _).mono ?_;rintro e w' ⟨rfl,rfl⟩;refine hK _ _ ⟨hS,?_⟩;clear hK K
 ·have hoff:false=true->lD i j<54:=nofun;have hcell:false=true->may x=true->0<=x (lD i j)/\x (lD i j)<=1125899906842624:=nofun;have hbd:false=true->(1<=i/\i<=6)/\(1<=j/\j<=6):=nofun;refine wT0 4 (.bool false) rfl (fun w' hw=>?_) hS ?_
  ·clear hw
   go_simp
  refine wpAnyH_take (i:=5) (v:=undef) rfl (by kernel_rfl) (by kernel_rfl) (by kernel_rfl) (fun _ _ _ h=>h) (.inr ⟨by rfl,rfl⟩) hS ?_;refine wpAnyH_take (i:=6) (v:=undef) rfl (by kernel_rfl) (by kernel_rfl) (by kernel_rfl) (fun _ _ _ h=>h) (.inr ⟨by rfl,rfl⟩) hS ?_;refine wT0 7 (.bool false) rfl (fun w' hw=>?_) hS ?_
  ·clear hw
   go_simp
  have HM:Hid (dA x i j n=dn x n false (nN x i j n) (lD i j)):=HM;refine wpAnyH_all (rs := [10]) (by kernel_rfl) (by decide) ?_;intro j hj;obtain rfl:j=10:=by simpa using hj
  refine wpOp_step rfl<|fun K hK => ?_;clear hj
  go_simp
  have hlz:w.heap.size+1+1+1+1<W.drew.heap.size:=by show _<W.heap.size; have:=Hs.out; omega
  refine(xD x n false 239 240 _ _ (nN x i j n) (lD i j) W.drew ?o1 ?o2 Lh Li ?o3 ?o4).mono ?_
  case o1=>exact hoff
  case o2=>exact hcell
  case o3=>exact fun hm h1 h2 h3 w' hb=>have hq:=M8.up hS hb; Io x i j n _ _ _ _ w' ⟨h1,h2⟩ hi hj0 hq.1 hq.2.2.2 hq.2.1 hq.2.2.1
  case o4=>exact fun h w' g hb=>have hq:=M8.up hS hb; Iq g _ _ i j w' (hbd h).1 (hbd h).2 hq.2.1 hq.2.2.1
  rintro e w2 ⟨rfl,hb2⟩;generalize dn x n false (nN x i j n) (lD i j)=r at *;have hz2:Hid (w2.heap[w.heap.size+1+1+1+1]? = some (.cells (bV .i64 54 zero) 82 (0,0))):=(hb2.block _ hlz).trans Hz.out;have hB2:Below w.heap.size w w2:=hB.trans ((bdr hb2).mono hB.size);have hS:=M8.up hS hb2;refine hK _ _ ⟨hS,?_⟩;clear hK K;clear hb2;refine wT0 11 (.agg (bV .i64 54 r.1)) rfl (fun w' hw=>?_) hS ?_
  ·clear hw
   go_simp
  refine wT0 12 (.int .i64 r.2) rfl (fun w' hw=>?_) hS ?_
  ·clear hw
   go_simp
  refine wpAnyH_all (rs := [13]) (by kernel_rfl) (by decide) ?_;intro j' hj';obtain rfl:j'=13:=by simpa using hj'
  clear hj';refine wO (by rfl) (by rfl)<|fun K hK => ?_;refine wp_store_row 82 (.tmp 8) (.tmp 21) (by rfl) (w.heap.size+1+1+1+1) (bV .i64 54 r.1) (by rfl) (by rfl) 82 (bV .i64 54 zero) hz2.out (by rw[bQ]; exact nM) (by rw[bQ,bQ]) (nZ _ _ _) ?_;have hend:=jZ hB2 (by omega) hz2.out r.1;have hS:=hS.row (bV .i64 54 r.1);refine hK _ _ ⟨hS,?_⟩;clear hK K hz2 hB2;generalize w2.setRow (w.heap.size+1+1+1+1) (bV .i64 54 r.1)=w3 at *;refine wT0 14 (.int .i64 r.2) rfl (fun w' hw=>?_) hS ?_
  ·clear hw
   go_simp
  refine wpAnyH_done (by kernel_rfl) ?_ _;refine SI _ _<|wp_ret ?_;rw[HM.out];exact uP (p:=8) (q:=9) (by kernel_rfl) (by kernel_rfl) (by kernel_rfl) (by kernel_rfl) hend.1 hend.2
 have hi6:=Hri.out.1 rfl;have hbd:bj=true->(1<=i/\i<=6)/\(1<=j/\j<=6):=fun h=>⟨hi6,Hrj.out.1 h⟩;have hoff:bj=true->lD i j<54:=fun h=>by have:=hbd h; unfold lD; omega
 have hcell:bj=true->may x=true->0<=x (lD i j)/\x (lD i j)<=1125899906842624:=fun h hm=>by
  have:=hbd h;exact(xA hm (i.toNat-1) (by omega)).r (j.toNat-1) (by omega)
 refine wT0 4 (.bool true) rfl (fun w' hw=>?_) hS ?_
 ·clear hw
  go_simp
 refine wT0 5 (.int .i64 j) rfl (fun w' hw=>?_) hS ?_
 ·have h2:=hw.2.2.1;clear hw
  go_simp
 refine wpAnyH_all (rs := [6]) (by kernel_rfl) (by decide) ?_;intro j hj;obtain rfl:j=6:=by simpa using hj
 refine wpOp_step rfl<|fun K hK => ?_;clear hj
 go_simp
 refine(ait.out _).mono ?_;rintro e w' ⟨rfl,rfl⟩;refine hK _ _ ⟨hS,?_⟩;clear hK K;refine wT0 7 (.bool bj) rfl (fun w' hw=>?_) hS ?_
 ·clear hw
  go_simp
 have HM:Hid (dA x i j n=dn x n bj (nN x i j n) (lD i j)):=HM;refine wpAnyH_all (rs := [10]) (by kernel_rfl) (by decide) ?_;intro j hj;obtain rfl:j=10:=by simpa using hj
 refine wpOp_step rfl<|fun K hK => ?_;clear hj
 go_simp
 have hlz:w.heap.size+1+1+1+1<W.drew.heap.size:=by show _<W.heap.size; have:=Hs.out; omega
 refine(xD x n bj 239 240 _ _ (nN x i j n) (lD i j) W.drew ?o1 ?o2 Lh Li ?o3 ?o4).mono ?_
 case o1=>exact hoff
 case o2=>exact hcell
 case o3=>exact fun hm h1 h2 h3 w' hb=>have hq:=M8.up hS hb; Io x i j n _ _ _ _ w' ⟨h1,h2⟩ hi hj0 hq.1 hq.2.2.2 hq.2.1 hq.2.2.1
 case o4=>exact fun h w' g hb=>have hq:=M8.up hS hb; Iq g _ _ i j w' (hbd h).1 (hbd h).2 hq.2.1 hq.2.2.1
 rintro e w2 ⟨rfl,hb2⟩;generalize dn x n bj (nN x i j n) (lD i j)=r at *;have hz2:Hid (w2.heap[w.heap.size+1+1+1+1]? = some (.cells (bV .i64 54 zero) 82 (0,0))):=(hb2.block _ hlz).trans Hz.out;have hB2:Below w.heap.size w w2:=hB.trans ((bdr hb2).mono hB.size);have hS:=M8.up hS hb2;refine hK _ _ ⟨hS,?_⟩;clear hK K;clear hb2;refine wT0 11 (.agg (bV .i64 54 r.1)) rfl (fun w' hw=>?_) hS ?_
 ·clear hw
  go_simp
 refine wT0 12 (.int .i64 r.2) rfl (fun w' hw=>?_) hS ?_
 ·clear hw
  go_simp
 refine wpAnyH_all (rs := [13]) (by kernel_rfl) (by decide) ?_;intro j' hj';obtain rfl:j'=13:=by simpa using hj'
 clear hj';refine wO (by rfl) (by rfl)<|fun K hK => ?_;refine wp_store_row 82 (.tmp 8) (.tmp 21) (by rfl) (w.heap.size+1+1+1+1) (bV .i64 54 r.1) (by rfl) (by rfl) 82 (bV .i64 54 zero) hz2.out (by rw[bQ]; exact nM) (by rw[bQ,bQ]) (nZ _ _ _) ?_;have hend:=jZ hB2 (by omega) hz2.out r.1;have hS:=hS.row (bV .i64 54 r.1);refine hK _ _ ⟨hS,?_⟩;clear hK K hz2 hB2;generalize w2.setRow (w.heap.size+1+1+1+1) (bV .i64 54 r.1)=w3 at *;refine wT0 14 (.int .i64 r.2) rfl (fun w' hw=>?_) hS ?_
 ·clear hw
  go_simp
 refine wpAnyH_done (by kernel_rfl) ?_ _;refine SI _ _<|wp_ret ?_;rw[HM.out];exact uP (p:=8) (q:=9) (by kernel_rfl) (by kernel_rfl) (by kernel_rfl) (by kernel_rfl) hend.1 hend.2
end
namespace Rt
def L(x:Nat->Int)(k:Nat):Int:=G x k+F x k+R x 0 k+R x 1 k+R x 2 k+R x 3 k+R x 4 k+R x 5 k-C x k-R x k 0-R x k 1-R x k 2-R x k 3-R x k 4-R x k 5
def Rl(x:Nat->Int):Prop := ∀ p,p<54->0<=x p/\x p<=1125899906842624
def All(x:Nat->Int):Prop := ∀ k,k<6->0<=L x k/\F x k<=C x k/\R x k k=0
def tL(x:Nat->Int):Int:=G x 0+G x 1+G x 2+G x 3+G x 4+G x 5
theorem EP{l:List Int}(h:mP l=true):nG l=(l.sum,true):=by unfold nG; rw[d_ h]
theorem Rl.outs{x:Nat->Int}(h:Rl x)(k:Nat)(b:k<6):mP (outs x k 6)=true:=by
 have e:=fun j (hj:j<6)=>h (18+k*6+j) (by omega);have c:=h (6+k) (by omega);unfold mP;rw[List.all_eq_true];intro n a;have:n=x (6+k)\/n=x (18+k*6+0)\/n=x (18+k*6+1)\/n=x (18+k*6+2)\/n=x (18+k*6+3)\/n=x (18+k*6+4)\/n=x (18+k*6+5):=by
  simpa [Rt.outs,C,R,or_assoc] using a
 unfold A8;rw[T_,decide_eq_true_eq,decide_eq_true_eq]
 rcases this with h|h|h|h|h|h|h <;> subst h
 ·exact c
 all_goals exact e _ (by omega)
theorem Rl.ins{x:Nat->Int}(h:Rl x)(k:Nat)(b:k<6):mP (ins x k 6)=true:=by
 have e:=fun j (hj:j<6)=>h (18+j*6+k) (by omega);have c:=h k (by omega);have f:=h (12+k) (by omega);unfold mP;rw[List.all_eq_true];intro n a;have:n=x k\/n=x (12+k)\/n=x (18+0*6+k)\/n=x (18+1*6+k)\/n=x (18+2*6+k)\/n=x (18+3*6+k)\/n=x (18+4*6+k)\/n=x (18+5*6+k):=by
  simpa [Rt.ins,G,F,R,or_assoc] using a
 unfold A8;rw[T_,decide_eq_true_eq,decide_eq_true_eq]
 rcases this with h|h|h|h|h|h|h|h <;> subst h
 ·exact c
 ·exact f
 all_goals exact e _ (by omega)
theorem Va(x:Nat->Int)(k:Nat):(Rt.outs x k 6).sum=C x k+R x k 0+R x k 1+R x k 2+R x k 3+R x k 4+R x k 5:=by simp[Rt.outs]; omega
theorem Y0(x:Nat->Int)(k:Nat):(Rt.ins x k 6).sum=G x k+F x k+R x 0 k+R x 1 k+R x 2 k+R x 3 k+R x 4 k+R x 5 k:=by simp[Rt.ins]; omega
theorem vX{x:Nat->Int}(h:Rl x)(k:Nat)(a:k<6):localM x k=(L x k,true):=by
 unfold localM;rw[EP (h.outs k a),EP (h.ins k a),Va,Y0];unfold L;refine Prod.ext ?_ rfl
 dsimp only
 omega
theorem lY{x:Nat->Int}(h:may x=true):Rl x:=by
 intro p e;by_cases a:p<6
 ·exact(xA h p a).g
 by_cases b:p<12
 ·have:=(xA h (p-6) (by omega)).c;unfold C at this; rwa [show 6+(p-6)=p by omega]at this
 by_cases d:p<18
 ·have:=(xA h (p-12) (by omega)).f;unfold F at this; rwa [show 12+(p-12)=p by omega]at this
 have:=(xA h ((p-18) / 6) (by omega)).r ((p-18) % 6) (by omega);unfold R at this; rwa [show 18+(p-18) / 6*6+(p-18) % 6=p by omega]at this
theorem abQ{x:Nat->Int}(h:Rl x):mP (gs x)=true:=by
 unfold mP;rw[List.all_eq_true];intro n a;have:n=x 0\/n=x 1\/n=x 2\/n=x 3\/n=x 4\/n=x 5:=by simpa [gs,or_assoc] using a
 unfold A8;rw[T_,decide_eq_true_eq,decide_eq_true_eq]
 rcases this with e|e|e|e|e|e <;> subst e <;> exact h _ (by omega)
theorem Vb(x:Nat->Int):(gs x).sum=tL x:=by simp[gs,tL,G]; omega
theorem jO(x:Nat->Int):may x=true<->Rl x/\All x/\tL x<=1125899906842624:=by
 constructor
 ·intro h;have e:=lY h;refine⟨e,fun k d => ?_,?_⟩
  ·have o:=xA h k d;have:=o.l;rw[vX e k d]at this;exact⟨this,o.fc,o.rkk⟩
  unfold may at h;rw[T_,T_,EP (abQ e),Vb]at h
  simpa using h.2.2
 rintro ⟨e,g,i⟩;have d : ∀ k,k<6->CY x k=true:=by
  intro k d;obtain⟨a,b,c⟩:=g k d;unfold CY;rw[vX e k d];simp only[T_,decide_eq_true_eq,beq_iff_eq];exact⟨⟨⟨trivial,a⟩,b⟩,c⟩
 have f : ∀ n,n<=6->Eu x n=true:=by
  intro n
  induction n with
  | zero=>intro _; rfl
  | succ n ih=>intro f; rw[show Eu x (n+1)=(Eu x n&&CY x n)from rfl,ih (by omega),d n (by omega)]; rfl
 unfold may;rw[f 6 (by omega),EP (abQ e),Vb,f_ i];rfl
theorem oC{x:Nat->Int}(h:may x=true)(k:Nat)(a:k<6):fU x ((k:Int)+1)=L x k:=by
 unfold fU;rw[h,Bool.and_true,d_ (by unfold iq; simp; omega),show((k:Int)+1).toNat-1=k by omega,vX (lY h) k a]
def oD(x:Nat->Int):Int:=(C x 0-F x 0)+(C x 1-F x 1)+(C x 2-F x 2)+(C x 3-F x 3)+(C x 4-F x 4)+(C x 5-F x 5)
theorem yw(x:Nat->Int)(i j:Nat)(hi:i<6)(g:j<6)(d:Int)(a b:Nat)(ha:a<6)(f:b<6) :
 R (upd x (18+i*6+j) (x (18+i*6+j)+d)) a b=R x a b+(if a=i then if b=j then d else 0 else 0):=by
 unfold R upd;by_cases c:a=i
 ·by_cases e:b=j
  ·subst c e; simp
  rw[b_ (by omega),d_ c,b_ e]; omega
 rw[b_ (by omega),b_ c]; omega
theorem adY(x:Nat->Int)(i j:Nat)(hi:i<6)(a:j<6)(d:Int)(k:Nat)(b:k<6) :
 L (upd x (18+i*6+j) (x (18+i*6+j)+d)) k=L x k+(if k=j then d else 0)-(if k=i then d else 0):=by
 have l:G (upd x (18+i*6+j) (x (18+i*6+j)+d)) k=G x k:=gU _ _ _ _ (by omega);have f:C (upd x (18+i*6+j) (x (18+i*6+j)+d)) k=C x k:=gU _ _ _ _ (by omega);have g:F (upd x (18+i*6+j) (x (18+i*6+j)+d)) k=F x k:=gU _ _ _ _ (by omega);unfold L
 rw[l,f,g,yw x i j hi a d 0 k (by omega) b,yw x i j hi a d 1 k (by omega) b,yw x i j hi a d 2 k (by omega) b,yw x i j hi a d 3 k (by omega) b,yw x i j hi a d 4 k (by omega) b,yw x i j hi a d 5 k (by omega) b,
  yw x i j hi a d k 0 b (by omega),yw x i j hi a d k 1 b (by omega),yw x i j hi a d k 2 b (by omega),yw x i j hi a d k 3 b (by omega),yw x i j hi a d k 4 b (by omega),yw x i j hi a d k 5 b (by omega)]
 have c:(if 0=i then if k=j then d else 0 else 0)+(if 1=i then if k=j then d else 0 else 0)+(if 2=i then if k=j then d else 0 else 0)+(if 3=i then if k=j then d else 0 else 0)+(if 4=i then if k=j then d else 0 else 0)+(if 5=i then if k=j then d else 0 else 0)=(if k=j then d else 0):=by
  have:i=0\/i=1\/i=2\/i=3\/i=4\/i=5:=by omega
  rcases this with h|h|h|h|h|h <;> subst h <;> simp
 have e:(if k=i then if 0=j then d else 0 else 0)+(if k=i then if 1=j then d else 0 else 0)+(if k=i then if 2=j then d else 0 else 0)+(if k=i then if 3=j then d else 0 else 0)+(if k=i then if 4=j then d else 0 else 0)+(if k=i then if 5=j then d else 0 else 0)=(if k=i then d else 0):=by
  have:j=0\/j=1\/j=2\/j=3\/j=4\/j=5:=by omega
  rcases this with h|h|h|h|h|h <;> subst h <;> simp
 generalize (if 0=i then if k=j then d else 0 else 0)=a0 at *;generalize (if 1=i then if k=j then d else 0 else 0)=a1 at *;generalize (if 2=i then if k=j then d else 0 else 0)=a2 at *;generalize (if 3=i then if k=j then d else 0 else 0)=a3 at *;generalize (if 4=i then if k=j then d else 0 else 0)=a4 at *;generalize (if 5=i then if k=j then d else 0 else 0)=a5 at *;generalize (if k=i then if 0=j then d else 0 else 0)=b0 at *;generalize (if k=i then if 1=j then d else 0 else 0)=b1 at *;generalize (if k=i then if 2=j then d else 0 else 0)=b2 at *;generalize (if k=i then if 3=j then d else 0 else 0)=b3 at *;generalize (if k=i then if 4=j then d else 0 else 0)=b4 at *;generalize (if k=i then if 5=j then d else 0 else 0)=b5 at *;rw[<- c,<- e];omega
end Rt
structure FQ where
 inn:Nat->Bool
 left:Nat->Bool
 known:Nat->Int
 na:Option Addr
 nn:Nat
 nc:Nat
 ga:Option Addr
 gn:Nat
 gc:Nat
def rF(s:FQ):Nat->Value:=fun p=>if p<6 then .bool (s.inn p)else if p<12 then .bool (s.left (p-6))else if p<18 then aC (s.known (p-12))else if p=18 then .slice s.na s.nn s.nc else .slice s.ga s.gn s.gc
theorem FT(s:FQ){p:Nat}(h:p<6):rF s p = .bool (s.inn p):=by unfold rF; rw[d_ h]
theorem Lj(s:FQ){p q:Nat}(h:p<6)(e:q=p+6):rF s q = .bool (s.left p):=by subst e; unfold rF; rw[b_ (by omega),d_ (by omega),Nat.add_sub_cancel]
theorem nO(s:FQ){p q:Nat}(h:p<6)(e:q=p+12):rF s q=aC (s.known p):=by subst e; unfold rF; rw[b_ (by omega),b_ (by omega),d_ (by omega),Nat.add_sub_cancel]
def mW(id par:Int)(R:Nat->Int):Nat->Value:=fun p=>if p=0 then aC id else if p=1 then aC par else au (R (p-2))
theorem JK(id par:Int)(R:Nat->Int)(q:Nat):mW id par R (2+q)=rv .i64 R q:=by unfold mW rv; rw[b_ (by omega),b_ (by omega),Nat.add_sub_cancel_left]
def Nds(w:World)(a:Option Addr)(n:Nat)(id par:Nat->Int)(R:Nat->Nat->Int):Prop := ∀ k,k<n -> ∃ b c,a=some ⟨b,c,none⟩/\iU w b (c+56*k) 56 (mW (id k) (par k) (R k))
theorem Nds.below{w w':World}{a:Option Addr}{n:Nat}{id par:Nat->Int}{R:Nat->Nat->Int}(h:Nds w a n id par R)(d:Below w.heap.size w w'):Nds w' a n id par R:=fun k f=>by
 obtain⟨b,g,e,c⟩:=h k f;exact⟨b,g,e,c.below d (c.lt (by omega))⟩
section
structure lZ where
 s:FQ
 id:Nat->Int
 par:Nat->Int
 R:Nat->Nat->Int
 g:Nat->Nat->Int
 tb:Nat
 ta:Option Addr
 tn:Nat
 tc:Nat
 t:Nat->Nat->Int
 ra:Nat->Option Addr
 rn:Nat->Nat
 rc:Nat->Nat
 rq:Nat->Nat->Int
structure eF where
 inn:Nat->Bool
 left:Nat->Bool
 known:Nat->Int
 nn:Nat
 id:Nat->Int
 par:Nat->Int
 R:Nat->Nat->Int
 gn:Nat
 g:Nat->Nat->Int
 tn:Nat
 t:Nat->Nat->Int
 rn:Nat->Nat
 rq:Nat->Nat->Int
def lZ.core(m:lZ):eF:=⟨m.s.inn,m.s.left,m.s.known,m.s.nn,m.id,m.par,m.R,m.s.gn,m.g,m.tn,m.t,m.rn,m.rq⟩
def nk(m:lZ):Nat->Value:=fun p=>if p<20 then rF m.s p else if p=20 then(pt m.tb)else .slice (m.ra (p-21)) (m.rn (p-21)) (m.rc (p-21))
theorem mI(m:lZ){p:Nat}{v:Value}(h:p<20)(e:rF m.s p=v):nk m p=v:=by unfold nk; rw[d_ h]; exact e
theorem xE(m:lZ){p q:Nat}(e:q=p+21):nk m q = .slice (m.ra p) (m.rn p) (m.rc p):=by
 subst e; unfold nk; rw[b_ (by omega),b_ (by omega),Nat.add_sub_cancel]
def jf(x:Nat->Int):Nat->Value:=fun p=>if p=0 then au (x 0)else if p=3 then au (x 3)else aC (x p)
def Kw(m:lZ):Nat->Value:=flat 56 fun k=>mW (m.id k) (m.par k) (m.R k)
def JL(m:lZ):Nat->Value:=flat 5 fun k=>jf (m.g k)
def lH(c:Nat->Nat->Int):Nat->Int:=fun p=>c (p / 2) (p % 2)
def Rm(t:Nat->Nat->Int):Nat->Value:=flat 2 fun k=>rv .u64 (t k)
structure DX(w:World)(p:Nat)(m:lZ):Prop where
 c:iU w p 0 27 (nk m)
 an:nV w m.s.na m.s.nn 56 (Kw m)
 ag:nV w m.s.ga m.s.gn 5 (JL m)
 tc:iU w m.tb 0 1 (fun _ => .slice m.ta m.tn m.tc)
 at2:nV w m.ta m.tn 2 (Rm m.t)
 ar : ∀ i,i<6->nV w (m.ra i) (m.rn i) 1 (rv .u64 (m.rq i))
 bn:m.s.nn<=1000000
 bg:m.s.gn<=1000000
 bt:m.tn<=1000000
 br : ∀ i,i<6->m.rn i<=1000000
section
variable {w w':World} {p:Nat} {m:lZ}
theorem DX.n(h:DX w p m):Nds w m.s.na m.s.nn m.id m.par m.R:=fun _ a=>h.an.at a
theorem DX.g(h:DX w p m) : ∀ k,k<m.s.gn -> ∃ b a,m.s.ga=some ⟨b,a,none⟩/\iU w b (a+5*k) 5 (jf (m.g k)):=fun _ c=>h.ag.at c
theorem DX.t(h:DX w p m) : ∀ k,k<m.tn -> ∃ b a,m.ta=some ⟨b,a,none⟩/\iU w b (a+2*k) 2 (rv .u64 (m.t k)):=fun _ c=>h.at2.at c
theorem DX.r(h:DX w p m) : ∀ i,i<6 -> ∀ k,k<m.rn i -> ∃ b a,m.ra i=some ⟨b,a,none⟩/\iU w b (a+k) 1 (fun _=>aC (m.rq i k)):=fun i d k g=>by
 obtain⟨b,a,e,c⟩:=h.ar i d (by omega);refine⟨b,a,e,fun j f => ?_⟩;obtain rfl:j=0:=by omega
 exact c k (by omega)
theorem DX.below(h:DX w p m)(a:Below w.heap.size w w'):DX w' p m where
 c:=h.c.below a (h.c.lt (by omega))
 an:=h.an.up a rfl
 ag:=h.ag.up a rfl
 tc:=h.tc.below a (h.tc.lt (by omega))
 at2:=h.at2.up a rfl
 ar:=fun i b=>(h.ar i b).up a rfl
 bn:=h.bn
 bg:=h.bg
 bt:=h.bt
 br:=h.br
end
def gV(P:Nat->Bool):Nat->Int
 | 0 => -1
 | n+1=>if 0<=gV P n then gV P n else if P n then(n:Int)else -1
theorem lI{P:Nat->Bool} : ∀ {n:Nat},(∀ i,i<n->P i=false)->gV P n = -1
 | 0,_=>rfl
 | n+1,h=>by
   have:=lI (P:=P) (n:=n) fun i a=>h i (by omega);simp only[gV]; rw[this,b_ (by omega),h n (by omega)]; rfl
theorem pW{P:Nat->Bool}{k:Nat}(a : ∀ i,i<k->P i=false)(b:P k=true) : ∀ {n:Nat},k<n->gV P n=(k:Int)
 | 0,h=>N_ h (by omega)
 | n+1,h=>by
   simp only[gV];by_cases e:k=n
   ·subst e; rw[lI a,b_ (by omega),b]; rfl
   ·rw[pW a b (n:=n) (by omega),d_ (by omega)]
theorem gu(P:Nat->Bool) : ∀ n:Nat,(∃ k:Nat,k<n/\gV P n=(k:Int)/\P k=true)\/(gV P n = -1 /\ ∀ i,i<n->P i=false)
 | 0 => .inr ⟨rfl,fun i h=>N_ h (by omega)⟩
 | n+1=>by
   rcases gu P n with ⟨k,d,e,a⟩|⟨e,a⟩
   ·exact .inl ⟨k,by omega,by simp only[gV]; rw[e,d_ (by omega)],a⟩
   ·by_cases h:P n=true
    ·exact .inl ⟨n,by omega,by simp only[gV]; rw[e,b_ (by omega),h]; rfl,h⟩
    ·rw[U_]at h;refine .inr ⟨by simp only[gV]; rw[e,b_ (by omega),h]; rfl,fun i c => ?_⟩;by_cases b:i=n
     ·subst b; exact h
     ·exact a i (by omega)
theorem vY{P:Nat->Bool}{k:Nat}(h : ∀ i,i<k->P i=false)(a:P k=false) : ∀ i,i<k+1->P i=false:=fun i b=>by
 by_cases e:i=k
 ·subst e; exact a
 ·exact h i (by omega)
def lZ.node(m:lZ)(id:Int):Int:=gV (fun i=>decide (m.id i=id)) m.s.nn
def lZ.grant(m:lZ)(o r:Int):Int:=gV (fun i=>decide (m.g i 0=o)&&decide (m.g i 1=r)) m.s.gn
def lZ.kg(m:lZ)(a:Nat)(r:Int):Int:=gV (fun i=>decide (m.rq a i=r)) (m.rn a)
structure FU(w:World)(tb:Nat)(ta:Option Addr)(tn tc:Nat)(t:Nat->Nat->Int):Prop where
 tc:iU w tb 0 1 (fun _ => .slice ta tn tc)
 t : ∀ k,k<tn -> ∃ b off,ta=some ⟨b,off,none⟩/\iU w b (off+2*k) 2 (rv .u64 (t k))
 bt:tn<=1000000
theorem FU.below{w w':World}{tb:Nat}{ta:Option Addr}{tn tc:Nat}{t:Nat->Nat->Int}(h:FU w tb ta tn tc t)(a:Below w.heap.size w w'):FU w' tb ta tn tc t where
 tc:=h.tc.below a (h.tc.lt (by omega))
 t:=fun k d=>by obtain⟨b,f,e,c⟩:=h.t k d; exact⟨b,f,e,c.below a (c.lt (by omega))⟩
 bt:=h.bt
def bC(t:Nat->Nat->Int)(tn:Nat)(x:Int):Int:=gV (fun i=>decide (t i 0=x)) tn
def aZ(t:Nat->Nat->Int)(tn:Nat):Nat->Int->Int
 | 0,x=>x
 | k+1,x=>t (bC t tn (aZ t tn k x)).toNat 1
def adZ:Value->Nat
 | .slice _ n _=>n
 | _=>0
end
theorem JM(m:lZ)(p:Nat)(x:Int)(w:World)(h:DX w p m) :
 Calls Tryz.prog 63 #[(pt p),aC x] w fun e w'=>e = .returned (au (m.node x))/\Below w.heap.size w w':=by
 have v:=h.c;have J:p<w.heap.size:=v.lt (by omega);have E:=h.bn;have D:=h.bg;have F:=h.bt;refine Kent Tryz.func63 28 ?_;refine ay<|av (au 0)<|aD<|Ws<|ay<|av (au 0)<|aD<|Wb<|Wo (fun f z => ∃ k:Nat,k<=m.s.nn/\(∀ i,i<k->(fun i=>decide (m.id i=x)) i=false)/\f 0=(pt p)/\f 1=aC x/\f 5=au (k:Int)/\iU z p 0 27 (nk m)/\Below w.heap.size w z) (fun f _=>(m.s.nn-(intOf (f 5)).toNat)) ⟨0,by omega,(fun i h=>N_ h (by omega)),(by rfl),Fx.ic,Fx.ic,v,(Below.refl w.heap.size w)⟩ ?_;rintro G K ⟨k,I,l,j,t,a,o,d⟩;refine Ws<|ay<|aU a<|aU j<|av (pt p)<|av (pt p)<|av (pf p 18)<|Lv (.slice m.s.na (m.s.nn) (m.s.nc)) (aM o 18)<|av (au m.s.nn) ?_;by_cases r:(k:Int)<(m.s.nn:Int)
 ·refine Lv aG (iD r)<|aD<|aN<|Wk<|sN<|Ws<|Wb<|Ws ?_;obtain⟨b,y,A,u⟩:=h.n k (by omega);have B:b<w.heap.size:=u.lt (by omega);have C:=u.below d B;refine Wl<|aU j<|av (pt p)<|av (pt p)<|av (pf p 18)<|Lv (.slice m.s.na (m.s.nn) (m.s.nc)) (aM o 18)<|aU a<|Lv (pf b (56*k+y)) (dB 56 (hx:=(rfl.trans (M_ (fun q=>Value.slice q (m.s.nn) (m.s.nc)) A))))<|av (pf b (56*k+y))<|Lv (aC (m.id k)) (aM C 0)<|aU t ?_;by_cases g:(m.id k)=x
  ·refine Lv aG (dZ g)<|aD<|aN<|ay<|aU a<|av (au k)<|aD<|Wr<|bL<|sR<|qm<|bL<|sR<|aJ (au k) ?_;exact⟨pR (Eq.symm (pW l (f_ g) (by omega))),d⟩
  refine Lv aF (fB g)<|aD<|aK<|Wk<|bU<|sN<|Wl<|aU a<|Lv (au ((k:Int)+1)) fH<|av (au ((k:Int)+1))<|Ln<|iH ⟨k+1,by omega,(vY l (g_ g)),j,(t.trans Fx.ic),Fx.ic,o,d⟩ ?_;show(m.s.nn-(intOf (au ((k:Int)+1))).toNat)<_;simp only[a,intOf]; omega
 refine Lv aF (iE r)<|aD<|aK<|Wx<|cZ<|gZ<|dh<|sN<|ay<|av (au (-1))<|aD<|Wr<|aJ (au (-1)) ?_;exact⟨pR (Eq.symm (lI (fun i H=>l i (by omega)))),d⟩
theorem ND(tb:Nat)(ta:Option Addr)(tn tc:Nat)(t:Nat->Nat->Int)(x:Int)(w:World)(h:FU w tb ta tn tc t) :
 Calls Tryz.prog 83 #[(pt tb),aC x] w fun e w'=>e = .returned (au (bC t tn x))/\Below w.heap.size w w':=by
 have p:=h.tc;have D:tb<w.heap.size:=p.lt (by omega);have z:=h.bt;refine Kent Tryz.func83 26 ?_;refine ay<|av (au 0)<|aD<|Ws<|ay<|av (au 0)<|aD<|Wb<|Wo (fun f s => ∃ k:Nat,k<=tn/\(∀ i,i<k->(fun i=>decide (t i 0=x)) i=false)/\f 0=(pt tb)/\f 1=aC x/\f 5=au (k:Int)/\iU s tb 0 1 (fun _ => .slice ta tn tc)/\Below w.heap.size w s) (fun f _=>(tn-(intOf (f 5)).toNat)) ⟨0,by omega,(fun i h=>N_ h (by omega)),(by rfl),Fx.ic,Fx.ic,p,(Below.refl w.heap.size w)⟩ ?_;rintro A E ⟨k,C,j,g,n,a,l,c⟩;refine Ws<|ay<|aU a<|aU g<|av (pt tb)<|av (pt tb)<|Lv (.slice ta (tn) (tc)) (aM l 0)<|av (au tn) ?_;by_cases m:(k:Int)<(tn:Int)
 ·refine Lv aG (iD m)<|aD<|aN<|Wk<|sN<|Ws<|Wb<|Ws ?_;obtain⟨b,r,u,o⟩:=h.t k (by omega);have v:b<w.heap.size:=o.lt (by omega);have y:=o.below c v;refine Wl<|aU g<|av (pt tb)<|av (pt tb)<|Lv (.slice ta (tn) (tc)) (aM l 0)<|aU a<|Lv (pf b (2*k+r)) (dB 2 (hx:=(rfl.trans (M_ (fun q=>Value.slice q (tn) (tc)) u))))<|av (pf b (2*k+r))<|Lv (aC ((t k) 0)) (aM y 0)<|aU n ?_;by_cases d:((t k) 0)=x
  ·refine Lv aG (dZ d)<|aD<|aN<|ay<|aU a<|av (au k)<|aD<|Wr<|bL<|sR<|qm<|bL<|sR<|aJ (au k) ?_;exact⟨pR (Eq.symm (pW j (f_ d) (by omega))),c⟩
  refine Lv aF (fB d)<|aD<|aK<|Wk<|bU<|sN<|Wl<|aU a<|Lv (au ((k:Int)+1)) fH<|av (au ((k:Int)+1))<|Ln<|iH ⟨k+1,by omega,(vY j (g_ d)),g,(n.trans Fx.ic),Fx.ic,l,c⟩ ?_;show(tn-(intOf (au ((k:Int)+1))).toNat)<_;simp only[a,intOf]; omega
 refine Lv aF (iE m)<|aD<|aK<|Wx<|cZ<|gZ<|dh<|sN<|ay<|av (au (-1))<|aD<|Wr<|aJ (au (-1)) ?_;exact⟨pR (Eq.symm (lI (fun i B=>j i (by omega)))),c⟩
theorem Y1{a b:Prop} [Decidable a] [Decidable b](h : ¬ a):(decide a&&decide b)=false:=by rw[g_ h]; rfl
theorem Y2{a b:Prop} [Decidable a] [Decidable b](h : ¬ b):(decide a&&decide b)=false:=by rw[g_ h,J_]
theorem Y3{a b:Prop} [Decidable a] [Decidable b](h:a)(c:b):(decide a&&decide b)=true:=by rw[f_ h,f_ c]; rfl
theorem Y4(m:lZ)(p:Nat)(x r:Int)(w:World)(h:DX w p m) :
 Calls Tryz.prog 160 #[(pt p),au x,aC r] w fun e w'=>e = .returned (au (m.grant x r))/\Below w.heap.size w w':=by
 have C:=h.c;have M:p<w.heap.size:=C.lt (by omega);have H:=h.bn;have G:=h.bg;have I:=h.bt;refine Kent Tryz.func160 43 ?_;refine ay<|av (au 0)<|aD<|Ws<|ay<|av (au 0)<|aD<|Wb<|Wo (fun f E => ∃ k:Nat,k<=m.s.gn/\(∀ i,i<k->(fun i=>decide (m.g i 0=x)&&decide (m.g i 1=r)) i=false)/\f 0=(pt p)/\f 1=au x/\f 2=aC r/\f 7=au (k:Int)/\iU E p 0 27 (nk m)/\Below w.heap.size w E) (fun f _=>(m.s.gn-(intOf (f 7)).toNat)) ⟨0,by omega,(fun i h=>N_ h (by omega)),(by rfl),Fx.ic,Fx.ic,Fx.ic,C,(Below.refl w.heap.size w)⟩ ?_;rintro J N ⟨k,L,t,j,v,y,a,l,d⟩;refine Ws<|ay<|aU a<|aU j<|av (pt p)<|av (pt p)<|av (pf p 19)<|Lv (.slice m.s.ga (m.s.gn) (m.s.gc)) (aM l 19)<|av (au m.s.gn) ?_;by_cases z:(k:Int)<(m.s.gn:Int)
 ·refine Lv aG (iD z)<|aD<|aN<|Wk<|sN<|Ws<|Wb<|Ws ?_;obtain⟨b,u,A,B⟩:=h.g k (by omega);have F:b<w.heap.size:=B.lt (by omega);have D:=B.below d F;refine Wl<|aU j<|av (pt p)<|av (pt p)<|av (pf p 19)<|Lv (.slice m.s.ga (m.s.gn) (m.s.gc)) (aM l 19)<|aU a<|Lv (pf b (5*k+u)) (dB 5 (hx:=(rfl.trans (M_ (fun q=>Value.slice q (m.s.gn) (m.s.gc)) A))))<|av (pf b (5*k+u))<|Lv (au (m.g k 0)) (aM D 0)<|aU v ?_;by_cases n:(m.g k 0)=x
  ·refine Lv aG (dZ n)<|av aG<|aU j<|av (pt p)<|av (pt p)<|av (pf p 19)<|Lv (.slice m.s.ga (m.s.gn) (m.s.gc)) (aM l 19)<|aU a<|Lv (pf b (5*k+u)) (dB 5 (hx:=(rfl.trans (M_ (fun q=>Value.slice q (m.s.gn) (m.s.gc)) A))))<|av (pf b (5*k+u+1))<|Lv (aC (m.g k 1)) (aM D 1)<|aU y ?_;by_cases o:(m.g k 1)=r
   ·refine Lv aG (dZ o)<|av aG<|aD<|aN<|ay<|aU a<|av (au k)<|aD<|Wr<|bL<|sR<|qm<|bL<|sR<|aJ (au k) ?_;exact⟨pR (Eq.symm (pW t (Y3 n o) (by omega))),d⟩
   refine Lv aF (fB o)<|av aF<|aD<|aK<|Wk<|bU<|sN<|Wl<|aU a<|Lv (au ((k:Int)+1)) fH<|av (au ((k:Int)+1))<|Ln<|iH ⟨k+1,by omega,(vY t (Y2 o)),j,(v.trans Fx.ic),(y.trans Fx.ic),Fx.ic,l,d⟩ ?_;show(m.s.gn-(intOf (au ((k:Int)+1))).toNat)<_;simp only[a,intOf]; omega
  refine Lv aF (fB n)<|av aF<|bS<|bS<|bS<|bS<|bS<|bS<|bS<|bS<|bS<|bS<|bS<|av aF<|aD<|aK<|Wk<|bU<|sN<|Wl<|aU a<|Lv (au ((k:Int)+1)) fH<|av (au ((k:Int)+1))<|Ln<|iH ⟨k+1,by omega,(vY t (Y1 n)),j,(v.trans Fx.ic),(y.trans Fx.ic),Fx.ic,l,d⟩ ?_;show(m.s.gn-(intOf (au ((k:Int)+1))).toNat)<_;simp only[a,intOf]; omega
 refine Lv aF (iE z)<|aD<|aK<|Wx<|cZ<|gZ<|dh<|sN<|ay<|av (au (-1))<|aD<|Wr<|aJ (au (-1)) ?_;exact⟨pR (Eq.symm (lI (fun i K=>t i (by omega)))),d⟩
theorem aea{n:Int}{k:Nat}(h:n=(k:Int)):decide (0<=n)=true:=f_ (by omega)
theorem aeb{n:Int}(h:n = -1):decide (0<=n)=false:=g_ (by omega)
theorem Y5(m:lZ)(p a:Nat)(r:Int)(w:World)(h:DX w p m)(ha:a<6) :
 Calls Tryz.prog 158 #[(pt p),au ((a:Int)+1),aC r] w fun e w'=>e = .returned (.bool (decide (0<=m.kg a r)))/\Below w.heap.size w w':=by
 have x:=h.c;have K:p<w.heap.size:=x.lt (by omega);have E:=h.bn;have D:=h.bg;have G:=h.bt;have F:=h.br a ha;refine Kent Tryz.func158 32 ?_;refine ay<|av aF<|aD<|Ws<|ay<|av (au 0)<|aD<|Wb<|Wo (fun f y => ∃ k:Nat,k<=m.rn a/\(∀ i,i<k->(fun i=>decide (m.rq a i=r)) i=false)/\f 0=(pt p)/\f 1=au ((a:Int)+1)/\f 2=aC r/\f 7=au (k:Int)/\iU y p 0 27 (nk m)/\Below w.heap.size w y) (fun f _=>(m.rn a-(intOf (f 7)).toNat)) ⟨0,by omega,(fun i h=>N_ h (by omega)),(by rfl),Fx.ic,Fx.ic,Fx.ic,x,(Below.refl w.heap.size w)⟩ ?_;rintro H L ⟨k,J,o,l,n,u,j,s,d⟩;refine Ws<|ay<|aU j<|aU l<|aU n<|Lv (au a) gP<|av (pt p)<|av (pf p 21)<|Lv (pf p (a+21)) (jD 6 1)<|Lv (.slice (m.ra a) (m.rn a) (m.rc a)) (aM s (a+21) (xE _ (by omega)))<|av (au (((m.rn a):Nat):Int)) ?_;by_cases t:(k:Int)<(((m.rn a):Nat):Int)
 ·refine Lv aG (iD t)<|aD<|aN<|Wk<|sN<|Ws<|Wb<|Ws ?_;obtain⟨b,C,z,v⟩:=h.r a ha k (by omega);have A:b<w.heap.size:=v.lt (by omega);have B:=v.below d A;refine Wl<|aU l<|aU n<|Lv (au a) gP<|av (pt p)<|av (pf p 21)<|Lv (pf p (a+21)) (jD 6 1)<|Lv (.slice (m.ra a) (m.rn a) (m.rc a)) (aM s (a+21) (xE _ (by omega)))<|aU j<|Lv (pf b (k+C)) (dB 1 (hx:=(rfl.trans (M_ (fun q=>Value.slice q (m.rn a) (m.rc a)) z))))<|Lv (aC (m.rq a k)) (aM B 0)<|aU u ?_;by_cases g:(m.rq a k)=r
  ·refine Lv aG (dZ g)<|aD<|aN<|ay<|av aG<|aD<|Wr<|bL<|sR<|qm<|bL<|sR<|aJ aG ?_;exact⟨iF (Eq.symm (aea (pW o (f_ g) (by omega)))),d⟩
  refine Lv aF (fB g)<|aD<|aK<|Wk<|bU<|sN<|Wl<|aU j<|Lv (au ((k:Int)+1)) fH<|av (au ((k:Int)+1))<|Ln<|iH ⟨k+1,by omega,(vY o (g_ g)),l,(n.trans Fx.ic),(u.trans Fx.ic),Fx.ic,s,d⟩ ?_;show(m.rn a-(intOf (au ((k:Int)+1))).toNat)<_;simp only[j,intOf]; omega
 refine Lv aF (iE t)<|aD<|aK<|Wx<|cZ<|gZ<|dh<|sN<|ay<|av aF<|aD<|Wr<|aJ aF ?_;exact⟨iF (Eq.symm (aeb (lI (fun i I=>o i (by omega))))),d⟩
namespace Rt
theorem Ro{k:Nat}{X:Nat->Int}{z:Int}(a:X k=z) : ∀ j,j<(k+1)*1->iJ (rv .u64 X) (k*1) (bG (fun j=>rv .u64 (fun _=>0) (j % 1)) (0*1) 1 (fun _=>aC z)) j=rv .u64 X j:=by
 intro j b;unfold iJ;by_cases h:j<k*1
 ·rw[d_ h]
 rw[b_ h];have e:j=k:=by omega
 subst e;unfold bG rv;rw[d_ (by omega),a]
theorem Pq{t:Nat->Nat->Int}{tn k D:Nat}{x:Int}(a:k<=D)(b:bC t tn (aZ t tn D x)<0)(h:0<=bC t tn (aZ t tn k x)):k+1<=D:=Nat.lt_of_le_of_ne a fun e=>by subst e; omega
theorem Vd{t:Nat->Nat->Int}{tn k:Nat}{x:Int}(h : ∀ i,i<k->0<=bC t tn (aZ t tn i x))(a:0<=bC t tn (aZ t tn k x)) : ∀ i,i<k+1->0<=bC t tn (aZ t tn i x):=fun i b=>by
 by_cases e:i=k
 ·subst e; exact a
 ·exact h i (by omega)
theorem vZ{t:Nat->Nat->Int}{tn:Nat}{x:Int}(h:0<=bC t tn x) : ∃ j:Nat,j<tn/\bC t tn x=(j:Int)/\t j 0=x:=by
 rcases gu (fun i=>decide (t i 0=x)) tn with ⟨k,a,e,b⟩|⟨e,_⟩
 ·exact⟨k,a,e,h_ b⟩
 unfold bC at h; rw[e]at h; omega
theorem Rq{t:Nat->Nat->Int}{tn k j:Nat}{x:Int}(h:bC t tn (aZ t tn k x)=(j:Int)):t j 1=aZ t tn (k+1) x:=by
 show _=t (bC t tn (aZ t tn k x)).toNat 1;rw[h]; rfl
end Rt
theorem Pt(tb:Nat)(ta:Option Addr)(tn tc:Nat)(t:Nat->Nat->Int)(x:Int)(w:World)(h:FU w tb ta tn tc t) :
 Calls Tryz.prog 175 #[(pt tb),aC x] w fun e w'=>e = .returned (.bool (decide (0<=bC t tn x)))/\Below w.heap.size w w':=by
 have d:=h.tc;have g:tb<w.heap.size:=d.lt (by omega);have f:=h.bt;refine Kent Tryz.func175 9 ?_;refine ay<|av aF<|aD<|ay<|av (pt tb)<|av (aC x)<|dX (ND tb ta tn tc t x _ (h.below (Below.refl w.heap.size w))) _ rfl ?_;intro i c;have b:=bB c (Below.refl w.heap.size w);by_cases a:0<=(bC t tn x)
 ·refine Lv aG (kW a)<|av aG<|aD<|Wr<|aJ aG ?_;exact⟨iF (Eq.symm (f_ a)),b⟩
 refine Lv aF (kN a)<|av aF<|aD<|Wr<|aJ aF ?_;exact⟨iF (Eq.symm (g_ a)),b⟩
theorem JN(tb:Nat)(ta:Option Addr)(tn tc:Nat)(t:Nat->Nat->Int)(x:Int)(D:Nat)(w:World)(h:FU w tb ta tn tc t)(O:bC t tn (aZ t tn D x)<0)(hD2:D<=1000) :
 Calls Tryz.prog 45 #[(pt tb),aC x] w fun e w' => ∃ K v,e = .returned v/\Fx.Own w' w.heap.size 23 1 v K (rv .u64 (fun i=>aZ t tn i x))/\(∀ i,i<K->0<=bC t tn (aZ t tn i x))/\bC t tn (aZ t tn K x)<0/\Below w.heap.size w w':=by
 have R:=h.tc;have lp:tb<w.heap.size:=R.lt (by omega);have bt:=h.bt;refine Kent Tryz.func45 25 ?_;refine ay<|av (.slice none 0 0)<|aD<|ay<|av (.slice none 0 0)<|aD<|Ws<|Wb ?_;have m1:Fx.Own w w.heap.size 23 1 (.slice none 0 0) 0 (rv .u64 (fun i=>aZ t tn i x)):=wT _ _ _ _ _;refine Wo (fun f J => ∃ k:Nat,∃ a:Option Addr,∃ d:Nat,k<=D/\(∀ i,i<k->0<=bC t tn (aZ t tn i x))/\f 0=(pt tb)/\f 1=aC (aZ t tn k x)/\f 5 = .slice a (k) (d)/\iU J tb 0 1 (fun _ => .slice ta tn tc)/\Fx.Own J w.heap.size 23 1 (.slice a k d) k (rv .u64 (fun i=>aZ t tn i x))/\Below w.heap.size w J) (fun f _=>(D-adZ (f 5))) ⟨0,none,0,by omega,(fun i h=>N_ h (by omega)),(by rfl),(by rfl),(by rfl),R,m1,(Below.refl w.heap.size w)⟩ ?_;rintro f1 w1 ⟨k,a,d,U,P,p,g,C,m2,m3,L⟩;refine Ws<|ay<|aU p<|aU g<|dX (ND tb ta tn tc t (aZ t tn k x) _ (h.below L)) _ rfl ?_;intro w2 hb1;have⟨W,F,r⟩:=iY hb1 m2 m3 L;by_cases c:0<=(bC t tn (aZ t tn k x))
 ·refine Lv aG (kW c)<|aD<|aN<|Wk<|sN<|Wb<|Ws ?_;obtain⟨j,T,M,_⟩:=vZ c;refine Wl<|aU C<|aU g<|yP (vs := [(0,aC (aZ t tn k x))]) (s:=1) (zc:=rv .u64 (fun _=>0)) (y:=bG (fun j=>(rv .u64 (fun _=>0)) (j % 1)) (0*1) 1 (fun _=>aC (aZ t tn k x))) (by rfl) rfl rfl Tryz.underlying53 (by kernel_rfl) (by rfl) (by rfl) (by kernel_rfl) (by rw[bE (off:=0*1) (s:=1) (y:=fun _=>aC (aZ t tn k x)) rfl (cells_one (by rfl)) (by rfl)]; rfl) rfl fun N w3 A X s2 z1 => ?_;have⟨m7,G,u⟩:=iY s2.old W F r;have tC:=iK A r.size;have AL:tb≠N:=by rw[A]; exact u_ (W.lt (by omega))
  have Ll:(.slice a k d:Value).ownBlock≠some N:=by rw[A]; exact F.kM (A_ _)
  have uK:=X.lt;refine zB (B:=w.heap.size) (s:=1) (bytes:=8) (k:=k) (m:=1) (by rfl) rfl rfl rfl Tryz.underlying53 (by kernel_rfl) (by kernel_rfl) rfl rfl G X.aH (fun j T=>by rcases j with _|j <;> first|rfl|omega) (by omega) (by omega) (by omega) u.size fun o n I ho1 S xg hlt1 => ?_
  have E:iU I tb 0 1 (fun _ => .slice ta tn tc):=m7.grown S (G.not (by omega));have m9:Fx.Own I w.heap.size 23 1 (bM o (k+1) n) (k+1) (rv .u64 (fun i=>aZ t tn i x)):=ho1.congr (Ro rfl);have z:Below w.heap.size w I:=zA u S u.size (fun q hq=>(G.ge hq).1);refine av (bM o (k+1) n)<|aD ?_;obtain⟨b,Y,ea,Q⟩:=h.t j T;have lb:b<w.heap.size:=Q.lt (by omega);have V:=Q.below z lb;refine nD<|eT p<|aX (pt tb)<|aX (pt tb)<|Qv (.slice ta (tn) (tc)) (fun H l=>aM (E.below l (E.lt (by omega))) 0)<|eT p<|eT g<|Ae (fun H l=>((ND tb ta tn tc t (aZ t tn k x) _ (h.below (M6 z l))).mono fun e w2 g=>(⟨g.1.trans (by rw[M]),g.2⟩:e = .returned (au (j:Int))/\_))) _ rfl<|Qv (pf b (2*j+Y)) (fun H l=>dB 2 (hx:=(rfl.trans (M_ (fun q=>Value.slice q (tn) (tc)) ea))))<|aX (pf b (2*j+Y+1))<|Qv (aC ((t j) 1)) (fun H l=>aM (V.below l (V.lt (by omega))) 1)<|aX (aC ((t j) 1))<|Qn ?_;intro YL uL;have⟨m12,m13,Z⟩:=iY uL E m9 z;refine bU ?_;have kD:=Pq U O c;refine iH ⟨k+1,(some ⟨o,0,none⟩),n,(Pq U O c),(Vd P c),p,(M_ (Value.int .u64) (Rq M)),(by rfl),m12,m13,Z⟩ ?_;show(D-adZ (bM o (k+1) n))<_;simp only[C,intOf,adZ]; omega
 refine Lv aF (kN c)<|aD<|aK<|Wx<|cZ<|gZ<|dh<|sN<|ay<|aU C<|av (.slice a (k) (d))<|aD<|Wr<|aJ (.slice a (k) (d)) ?_;exact⟨k,_,rfl,F,P,by omega,r⟩
namespace Rt
def jL(k tb:Nat):lZ := { s:=⟨fun i=>decide (i<k),fun _=>false,fun _=>0,none,0,0,none,0,0⟩,id:=fun _=>0,par:=fun _=>0,R:=fun _ _=>0,g:=fun _ _=>0,tb:=tb,ta:=none,tn:=0,tc:=0,t:=fun _ _=>0,ra:=fun _=>none,rn:=fun _=>0,rc:=fun _=>0,rq:=fun _ _=>0 }
theorem Ru(k tb:Nat)(c:k<6):dJ (nk (jL k tb)) k (.bool true)=nk (jL (k+1) tb):=by
 funext p
 unfold dJ;by_cases e:p=k
 ·subst e; rw[d_ rfl];exact(mI _ (by omega) ((FT _ c).trans (M_ Value.bool (f_ (show p<p+1 by omega))))).symm
 rw[b_ e];unfold nk;by_cases h:p<20
 ·rw[d_ h,d_ h];unfold rF;by_cases a:p<6
  ·rw[d_ a,d_ a];show Value.bool (decide (p<k))=Value.bool (decide (p<k+1));by_cases b:p<k
   ·rw[f_ b,f_ (show p<k+1 by omega)]
   rw[g_ b,g_ (show ¬ p<k+1 by omega)]
  rw[b_ a,b_ a]; rfl
 rw[b_ h,b_ h]; rfl
end Rt
set_option maxRecDepth 10000 in
theorem aiu(n:Nat)(w:World)(h1:1<=n)(R:n<=6) :
 Calls Tryz.prog 55 #[au (n:Int)] w fun e w' => ∃ p tb,e = .returned (.tuple #[(pt p),au 0])/\w.heap.size<=p/\DX w' p (jL n tb)/\Below w.heap.size w w'/\aQ w' p 27 (nk (jL n tb)) 56/\aQ w' tb 1 (fun _ => .slice none 0 0) 156/\w.heap.size<=tb:=by
 refine Kent Tryz.func55 28 ?_;refine ay<|av (.pointer none)<|av (au 0)<|aD<|Ws<|ay<|av (au n)<|Lv aF H6<|av aF<|av (au n)<|Lv aF yS<|av aF<|aD<|aK<|Wk<|sN<|ay<|av (.agg (aA 1 (fun _ => .slice none 0 0)))<|pO fun b X C o M Z => ?_;have t:=bB M.old (Below.refl w.heap.size w);have F:=gN C;have V:=o.lt;refine av (.agg (aA 27 (bG (fun i=>(#[.bool false,.bool false,.bool false,.bool false,.bool false,.bool false,.bool false,.bool false,.bool false,.bool false,.bool false,.bool false,aC 0,aC 0,aC 0,aC 0,aC 0,aC 0,.slice none 0 0,.slice none 0 0,.pointer none,.slice none 0 0,.slice none 0 0,.slice none 0 0,.slice none 0 0,.slice none 0 0,.slice none 0 0]:Array Value).getD i undef) 20 1 (fun _=>(pt b)))))<|DT (m:=27) (y:=bG (fun i=>(#[.bool false,.bool false,.bool false,.bool false,.bool false,.bool false,.bool false,.bool false,.bool false,.bool false,.bool false,.bool false,aC 0,aC 0,aC 0,aC 0,aC 0,aC 0,.slice none 0 0,.slice none 0 0,.pointer none,.slice none 0 0,.slice none 0 0,.slice none 0 0,.slice none 0 0,.slice none 0 0,.slice none 0 0]:Array Value).getD i undef) 20 1 (fun _=>(pt b))) (by rfl) rfl rfl (bJ _ _) rfl fun a O v x N z2 => ?_;have⟨H,A⟩:=fC N.old o t;have G:=iK v t.size;have U:=cO v o.lt;have W:=x.lt;refine av (pt a)<|aD<|Ws<|ay<|av (au 0)<|aD<|Wb ?_;have I:aQ O a 27 (nk (jL 0 b)) 56:=x.congr (fun j S=>by rcases j with _|_|_|_|_|_|_|_|_|_|_|_|_|_|_|_|_|_|_|_|_|_|_|_|_|_|_|j <;> first|rfl|omega)
 refine Wo (fun f s => ∃ k:Nat,k<=n/\f 0=au (n:Int)/\f 4=(pt a)/\f 5=au (k:Int)/\aQ s b 1 (fun _ => .slice none 0 0) 156/\aQ s a 27 (nk (jL k b)) 56/\Below w.heap.size w s) (fun f _=>(n-(intOf (f 5)).toNat)) ⟨0,by omega,Fx.ic,(by rfl),Fx.ic,H,I,A⟩ ?_;rintro Q Y ⟨k,T,h1,l,g,q,r,h⟩;refine Ws<|ay<|aU g<|aU h1 ?_;by_cases u:(k:Int)<(n:Int)
 ·refine Lv aG (iD u)<|aD<|aN<|Wk<|sN<|Ws<|Wb<|Wl<|aU l<|aU g<|av (pt a)<|av (pt a)<|av (pt a)<|Lv (pf a k) (jD 6 1)<|ji r k aG fun P J z z3 => ?_;have K:=q.cu z (by omega);have B:=z.below h h.size (by omega);refine Ln<|bU<|sN<|Wl<|aU g<|Lv (au ((k:Int)+1)) fH<|av (au ((k:Int)+1))<|Ln ?_;have L:aQ P a 27 (nk (jL (k+1) b)) 56:=J.to (Ru k b (by omega))
  skip
  refine iH ⟨k+1,by omega,(h1.trans Fx.ic),l,Fx.ic,K,L,B⟩ ?_;show(n-(intOf (au ((k:Int)+1))).toNat)<_;simp only[g,intOf]; omega
 refine Lv aF (iE u)<|aD<|aK<|Wx<|cZ<|gZ<|dh<|sN<|ay<|aU l<|av (pt a)<|av (au 0)<|aD<|Wr<|aJ (.tuple #[(pt a),au 0]) ?_;have D:k=n:=by omega
 subst D;exact⟨_,_,rfl,G,{ c:=r.aH,an:=fun d=>N_ d (Nat.lt_irrefl 0),ag:=fun d=>N_ d (Nat.lt_irrefl 0),tc:=q.aH,at2:=fun d=>N_ d (Nat.lt_irrefl 0),ar:=fun i E d=>N_ d (Nat.lt_irrefl 0),bn:=L_ _,bg:=L_ _,bt:=L_ _,br:=fun i E=>L_ _ },h,r,q,F⟩
namespace Rt
def C8(t:Nat->Nat->Int)(n k:Nat):Nat->Nat->Int:=fun i=>if i<=k then(if i<n then t i else fun _=>0)else t (i-1)
def pX(t:Nat->Nat->Int)(k:Nat)(id par:Int):Nat->Nat->Int:=fun i=>if i<k then t i else if i=k then(fun j=>if j=0 then id else par)else t (i-1)
theorem uQ{w:World}{B tb tn tc:Nat}{ta:Option Addr}{t:Nat->Nat->Int}(b:aQ w tb 1 (fun _ => .slice ta tn tc) 156)(a:Fx.Own w B 153 2 (.slice ta tn tc) tn (rv .u64 (lH t)))(j:tn<=1000):FU w tb ta tn tc t where
 tc:=b.aH
 t:=fun k h=>by
  obtain⟨g,d,e,_,_,_,c⟩:=a.form (by omega);simp only[Value.slice.injEq,true_and]at e;refine⟨g,0,e.1,fun i f => ?_⟩;have:=c (2*k+i) (by omega);rw[H_]at this;rw[H_,this];show some (Value.int .u64 (t ((2*k+i) / 2) ((2*k+i) % 2)))=some (Value.int .u64 (t k i));rw[show(2*k+i) / 2=k by omega,show(2*k+i) % 2=i by omega]
 bt:=by omega
theorem yR(t:Nat->Nat->Int)(n:Nat) : ∀ j,j<(n+1)*2->iJ (rv .u64 (lH t)) (n*2) (bG (fun j=>rv .u64 (fun _=>0) (j % 2)) (0*2) 2 (rv .u64 (fun _=>0))) j=rv .u64 (lH (C8 t n n)) j:=fun j a=>by
 unfold iJ;by_cases h:j<n*2
 ·rw[d_ h];show Value.int .u64 (t (j / 2) (j % 2))=Value.int .u64 (C8 t n n (j / 2) (j % 2));unfold C8; rw[d_ (by omega),d_ (by omega)]
 ·rw[b_ h];unfold bG; rw[d_ (by omega)];show Value.int .u64 0=Value.int .u64 (C8 t n n (j / 2) (j % 2));unfold C8; rw[d_ (by omega),b_ (by omega)]
theorem Av{t:Nat->Nat->Int}{n k j p:Nat}(a:p=2*j)(h:j<k)(b:k<=n):rv .u64 (lH (C8 t n k)) p=aC (t j 0):=by
 subst a;show Value.int .u64 (C8 t n k (2*j / 2) (2*j % 2))=_;unfold C8; rw[d_ (by omega),d_ (by omega),show 2*j / 2=j by omega,show 2*j % 2=0 by omega]
theorem Ve{t:Nat->Nat->Int}{n k j i:Nat}(h:j<k)(a:k<=n)(hi:i<2):rv .u64 (lH (C8 t n k)) (2*j+i)=rv .u64 (t j) i:=by
 show Value.int .u64 (C8 t n k ((2*j+i) / 2) ((2*j+i) % 2))=Value.int .u64 (t j i);unfold C8; rw[d_ (by omega),d_ (by omega),show(2*j+i) / 2=j by omega,show(2*j+i) % 2=i by omega]
theorem zD{t:Nat->Nat->Int}{n k j:Nat}(e:k=j+1)(_hk:k<=n) : ∀ p,p<(n+1)*2->bG (rv .u64 (lH (C8 t n k))) (2*k) 2 (rv .u64 (t j)) p=rv .u64 (lH (C8 t n j)) p:=fun p b=>by
 unfold bG;by_cases h:2*k<=p/\p<2*k+2
 ·rw[d_ h];show Value.int .u64 (t j (p-2*k))=Value.int .u64 (C8 t n j (p / 2) (p % 2));unfold C8; rw[b_ (by omega),show p / 2-1=j by omega,show p-2*k=p % 2 by omega]
 ·rw[b_ h];show Value.int .u64 (C8 t n k (p / 2) (p % 2))=Value.int .u64 (C8 t n j (p / 2) (p % 2));unfold C8;by_cases a:p / 2<=j
  ·rw[d_ (by omega),d_ a]
  ·rw[b_ (by omega),b_ a]
theorem uH{t:Nat->Nat->Int}{n k:Nat}{id par:Int}(_hk:k<=n) : ∀ p,p<(n+1)*2->bG (rv .u64 (lH (C8 t n k))) (2*k) 2 (bG (bG (rv .u64 (fun _=>0)) 0 1 (fun _=>aC id)) 1 1 (fun _=>aC par)) p=rv .u64 (lH (pX t k id par)) p:=fun p c=>by
 by_cases h:2*k<=p/\p<2*k+2
 ·rw[bG,d_ h];show _=Value.int .u64 (pX t k id par (p / 2) (p % 2));unfold pX; rw[b_ (by omega),d_ (by omega)];by_cases b:p=2*k
  ·subst b; rw[show 2*k-2*k=0 by omega,d_ (by omega)]; rfl
  ·rw[show p-2*k=1 by omega,b_ (by omega)]; rfl
 ·rw[bG,b_ h];show Value.int .u64 (C8 t n k (p / 2) (p % 2))=Value.int .u64 (pX t k id par (p / 2) (p % 2));unfold C8 pX;by_cases a:p / 2<k
  ·rw[d_ (by omega),d_ (by omega),d_ a]
  ·rw[b_ (by omega),b_ a,b_ (by omega)]
def DY(t:Nat->Nat->Int)(tn:Nat)(x:Int):Prop := ∀ i,i<4->0<=bC t tn (aZ t tn i x)
theorem Lm{t:Nat->Nat->Int}{tn K:Nat}{x:Int}(h : ∀ i,i<K->0<=bC t tn (aZ t tn i x))(a:4<=K):DY t tn x:=fun i b=>h i (by omega)
theorem ER{t:Nat->Nat->Int}{tn K:Nat}{x:Int}(h:bC t tn (aZ t tn K x)<0)(a:K<4) : ¬ DY t tn x:=fun b=>by have:=b K a; omega
open Classical in
noncomputable def jM(t:Nat->Nat->Int)(tn:Nat)(id par:Int):Int:=if id=0 then 1 else if 0<=bC t tn id then 14 else if par≠0/\bC t tn par<0 then 9 else if 32<=tn\/DY t tn par then 6 else 0
theorem Pv{t:Nat->Nat->Int}{n k j:Nat}{id:Int}(e:k=j+1)(h : ∀ i,k<=i->i<n->id<t i 0)(c:id<t j 0) : ∀ i,j<=i->i<n->id<t i 0:=fun i d b=>by
 by_cases a:i=j
 ·subst a; exact c
 ·exact h i (by omega) b
end Rt
set_option maxRecDepth 10000 in
theorem aiv(B:Nat)(tb:Nat)(ta:Option Addr)(tn tc:Nat)(t:Nat->Nat->Int)(id par:Int)(D:Nat)(w:World)(P:aQ w tb 1 (fun _ => .slice ta tn tc) 156)(X:Fx.Own w B 153 2 (.slice ta tn tc) tn (rv .u64 (lH t)))(hne:(Value.slice ta tn tc).ownBlock≠some tb)(hB:B<=w.heap.size)(Q:tn<=1000)(hD:bC t tn (aZ t tn D par)<0)(hD2:D<=1000) :
 Calls Tryz.prog 157 #[(pt tb),aC id,aC par] w fun e w'=>e = .returned (au (jM t tn id par))/\jI (fun k=>k=tb\/(Value.slice ta tn tc).ownBlock=some k) w w'/\((jM t tn id par≠0/\aQ w' tb 1 (fun _ => .slice ta tn tc) 156/\Fx.Own w' B 153 2 (.slice ta tn tc) tn (rv .u64 (lH t)))\/(jM t tn id par=0 /\ ∃ g cap,aQ w' tb 1 (fun _=>bM g (tn+1) cap) 156/\Fx.Own w' B 153 2 (bM g (tn+1) cap) (tn+1) (rv .u64 (lH (pX t (down (fun i=>decide (id<t i 0)) tn) id par)))/\(Value.slice (some ⟨g,0,none⟩) (tn+1) cap).ownBlock≠some tb)):=by
 have lp:tb<w.heap.size:=P.lt;refine Kent Tryz.func157 89 ?_;refine ay<|av (au 0)<|aD<|Ws<|ay<|av (aC id) ?_;by_cases q:id=0
 ·refine Lv aG (dZ q)<|aD<|aN<|ay<|av (au 1)<|aD<|Wr<|sR<|aJ (au 1) ?_;have c:jM t tn id par=1:=by unfold jM; rw[d_ q]
  exact⟨pR c.symm,(uS (fun k=>k=tb\/(Value.slice ta tn tc).ownBlock=some k) w),.inl ⟨by rw[c]; decide,P,X⟩⟩
 refine Lv aF (fB q)<|aD<|aK<|Wk<|sN<|Ws<|ay<|av (pt tb)<|av (aC id) ?_;by_cases p:(decide (0<=bC t tn id))=true
 ·refine dX (Pt tb ta tn tc t id _ (uQ P X Q)) aG (by rw[p]) ?_;intro w1 hb1;have s1:=Sb hb1;have⟨m1,m2⟩:=fC hb1 P X;have b1:=(uS (fun k=>k=tb\/(Value.slice ta tn tc).ownBlock=some k) w).then s1 (.inr (uS (fun k=>k=tb\/(Value.slice ta tn tc).ownBlock=some k) w).size);refine aD<|aN<|ay<|av (au 14)<|aD<|Wr<|sR<|aJ (au 14) ?_;have c:jM t tn id par=14:=by unfold jM; rw[b_ q,d_ (h_ p)]
  exact⟨pR c.symm,b1,.inl ⟨by rw[c]; decide,m1,m2⟩⟩
 rw[U_]at p;refine dX (Pt tb ta tn tc t id _ (uQ P X Q)) aF (by rw[p]) ?_;intro w2 hb2;have s2:=Sb hb2;have⟨E,L⟩:=fC hb2 P X;have F:=(uS (fun k=>k=tb\/(Value.slice ta tn tc).ownBlock=some k) w).then s2 (.inr (uS (fun k=>k=tb\/(Value.slice ta tn tc).ownBlock=some k) w).size);refine aD<|aK<|Wk<|sN<|Ws<|ay<|av (aC par) ?_;by_cases G:par=0
 ·refine Lv aF (jR G)<|av aF<|bS<|bS<|bS<|bS<|av aF<|aD<|aK<|Wk<|sN<|Ws<|ay<|av (pt tb)<|av (pt tb)<|av (pt tb)<|Lv (.slice ta (tn) (tc)) (aM E.aH 0)<|av (au tn) ?_;by_cases T:32<=(tn:Int)
  ·refine Lv aG (kW T)<|av aG<|bS<|bS<|bS<|bS<|bS<|av aG<|aD<|aN<|ay<|av (au 6)<|aD<|Wr<|sR<|aJ (au 6) ?_;have c:jM t tn id par=6:=(by unfold jM; rw[b_ q,b_ (j_ p),b_ (fun h=>h.1 G),d_ (.inl (by omega))]);exact⟨pR c.symm,F,.inl ⟨by rw[c]; decide,E,L⟩⟩
  refine Lv aF (kN T)<|av aF<|av (pt tb)<|av (aC par)<|kF (JN tb ta tn tc t par D _ (uQ E L Q) hD hD2) ?_;rintro e w3 ⟨K,vv,Y,hown,tF,W,hb3⟩;obtain⟨a1,n,rfl⟩:=hown.val;refine⟨.slice a1 K n,Y,?_⟩;clear Y hown;have s3:=Sb hb3;have⟨m5,m6⟩:=fC hb3 E L;have b3:=F.then s3 (.inr F.size);refine av (au K) ?_;by_cases U:4<=(K:Int)
  ·refine Lv aG (kW U)<|av aG<|aD<|aN<|ay<|av (au 6)<|aD<|Wr<|sR<|aJ (au 6) ?_;have c:jM t tn id par=6:=(by unfold jM; rw[b_ q,b_ (j_ p),b_ (fun h=>h.1 G),d_ (.inr (Lm tF (by omega)))]);exact⟨pR c.symm,b3,.inl ⟨by rw[c]; decide,m5,m6⟩⟩
  refine Lv aF (kN U)<|av aF<|aD<|aK<|Wk<|sN<|ay<|av (pt tb)<|av (pt tb)<|av (pt tb)<|Lv (.slice ta (tn) (tc)) (aM m5.aH 0)<|av (au tn)<|av (au tn)<|aD<|ay<|av (pt tb)<|av (pt tb)<|av (pt tb)<|av (pt tb)<|Lv (.slice ta (tn) (tc)) (aM m5.aH 0)<|av (.agg (aA 2 (rv .u64 (fun _=>0))))<|yP (vs := [(0,.agg (aA 2 (rv .u64 (fun _=>0))))]) (s:=2) (zc:=rv .u64 (fun _=>0)) (y:=bG (fun j=>(rv .u64 (fun _=>0)) (j % 2)) (0*2) 2 (rv .u64 (fun _=>0))) (by rfl) rfl rfl Tryz.underlying154 (by kernel_rfl) (by rfl) (by rfl) (by kernel_rfl) (by rw[bE (off:=0*2) (s:=2) (y:=rv .u64 (fun _=>0)) rfl (bJ _ _) (by rfl)]; rfl) rfl fun g1 w4 ku m7 s4 z1 => ?_;have⟨m8,m9⟩:=fC s4.old m5 m6;have b4:=b3.then s4 (.inr b3.size);have tC:=iK ku b3.size;have Ll:=cO ku m5.lt;have aiw:(.slice ta tn tc:Value).ownBlock≠some g1:=by rw[ku]; exact m6.kM (A_ _)
  have uK:=m7.lt;refine zB (B:=B) (s:=2) (bytes:=16) (k:=tn) (m:=1) (v := .slice ta tn tc) (by rfl) rfl rfl rfl Tryz.underlying154 (by kernel_rfl) (by kernel_rfl) rfl rfl m9 m7.aH (fun j Z=>by rcases j with _|_|j <;> first|rfl|omega) (by omega) (by omega) (by omega) (m_ hB b4.size) fun d n w5 ho1 hg1 xg hlt1 => ?_
  have m11:aQ w5 tb 1 (fun _ => .slice ta tn tc) 156:=m8.grown hg1 hne;have aix:tb≠d:=fun e=>xg.elim (fun x=>hne (by rw[x,e])) (fun x=>by have:=m8.lt; omega);have m10:Fx.Own w5 B 153 2 (bM d (tn+1) n) (tn+1) (rv .u64 (lH (C8 t tn tn))):=ho1.congr (yR t tn);have b5:jI (fun k=>k=tb\/(Value.slice ta tn tc).ownBlock=some k) w w5:=Fx.jI.grow b4 hg1 (fun k e => .inl (.inr e));have aec:(fun k=>k=tb\/(Value.slice ta tn tc).ownBlock=some k) d\/w.heap.size<=d:=xg.elim (fun e => .inl (.inr e)) (fun e => .inr (by rw[e]; exact b4.size));refine av (pt tb)<|av (pt tb)<|ji m11 0 (bM d (tn+1) n) fun w6 m12 s5 z2 => ?_;have m13:aQ w6 tb 1 (fun _=>bM d (tn+1) n) 156:=dK m12;have m14:=m10.acY s5 (by omega);have b6:=b5.then s5 (.inl (.inl rfl));refine aD<|Ws<|Wb<|Wo (fun f M => ∃ k:Nat,k<=tn/\(∀ i,k<=i->i<tn->id<t i 0)/\f 0=(pt tb)/\f 1=aC id/\f 2=aC par/\f 7=au (k:Int)/\aQ M tb 1 (fun _=>bM d (tn+1) n) 156/\Fx.Own M B 153 2 (bM d (tn+1) n) (tn+1) (rv .u64 (lH (C8 t tn k)))/\jI (fun k=>k=tb\/(Value.slice ta tn tc).ownBlock=some k) w M) (fun f _=>(intOf (f 7)).toNat) ⟨tn,by omega,(fun i r N=>N_ r (by omega)),(by rfl),Fx.ic,Fx.ic,Fx.ic,m13,m14,b6⟩ ?_;rintro f1 w7 ⟨k,hk,J,r,N,h3,A,R,m16,b7⟩;refine Ws<|ay<|aU A ?_;by_cases V:0<(k:Int)
  ·obtain⟨j,H⟩ : ∃ j,k=j+1:=⟨k-1,by omega⟩;refine Lv aG (nA V)<|av aG<|aU r<|av (pt tb)<|av (pt tb)<|Lv (bM d (tn+1) n) (aM R.aH 0)<|aU A<|Lv (au j) gP<|Lv (pf d (2*j)) (dB 2)<|av (pf d (2*j))<|Lv (aC (t j 0)) (aM m16.aH (2*j) (Av (by omega) (by omega) (by omega)))<|aU N ?_;by_cases u:id<(t j 0)
   ·refine Lv aG (nA u)<|av aG<|aD<|aN<|Wk<|sN<|Wb<|Ws ?_;refine Wt 14 (by kernel_rfl) (by kernel_rfl) fun qU dU iC => ?_;have s6:Stp w7.heap.size w7 qU:=Sb dU;have⟨m17,m18⟩:=fC dU R m16;have b8:=b7.then s6 (.inr b7.size);refine qL (pt tb) (TA r)<|Fy (pt tb)<|Fy (pt tb)<|qL (bM d (tn+1) n) (aM m17.aH 0)<|qL (au k) (TA A)<|qL (pt tb) (TA r)<|Fy (pt tb)<|Fy (pt tb)<|qL (bM d (tn+1) n) (aM m17.aH 0)<|qL (au k) (TA A)<|qL (au j) gP<|qL (pf d (2*j)) (dB 2)<|qL (.agg (aA 2 (rv .u64 (t j)))) (fM m18.aH (2*j) (fun i hi=>Ve (by omega) (by omega) hi))<|qL (pf d (2*k)) (dB 2)<|Fx.St.nil ?_;refine AY m18 (2*k) fun w8 m19 s7 z3 => ?_;have m20:=m17.cu s7 (by omega);have b9:=b8.then s7 aec;have m21:Fx.Own w8 B 153 2 (bM d (tn+1) n) (tn+1) (rv .u64 (lH (C8 t tn j))):=m19.congr (zD H (by omega));refine aD<|Wl<|aU A<|Lv (au j) gP<|av (au j)<|Ln<|bU<|iH ⟨j,by omega,(Pv H J u),r,(N.trans Fx.ic),(h3.trans Fx.ic),Fx.ic,m20,m21,b9⟩ ?_;show(intOf (au j)).toNat<_;simp only[A,intOf]; omega
   refine Lv aF (nC u)<|av aF<|aD<|aK<|Wx<|cZ<|gZ<|dh<|sN<|ay<|aU r<|av (pt tb)<|av (pt tb)<|Lv (bM d (tn+1) n) (aM R.aH 0)<|aU A<|aU N<|aU h3<|av (.agg (aA 2 (bG (bG (rv .u64 (fun _=>0)) 0 1 (fun _=>aC id)) 1 1 (fun _=>aC par))))<|Lv (pf d (2*k)) (dB 2)<|AY m16 (2*k) (h1:=(fun j Z=>by rcases j with _|_|j <;> first|rfl|omega)) fun w9 m22 s8 z4 => ?_
   have m23:=R.cu s8 (by omega);have b10:=b7.then s8 aec;have m24:Fx.Own w9 B 153 2 (bM d (tn+1) n) (tn+1) (rv .u64 (lH (pX t k id par))):=m22.congr (uH (by omega));refine aD<|ay<|av (au 0)<|aD<|Wr<|aJ (au 0) ?_;have c:jM t tn id par=0:=(by unfold jM; rw[b_ q,b_ (j_ p),b_ (fun h=>h.1 G),b_ (fun h=>h.elim (fun h=>by omega) (ER W (by omega)))]);have I:k=down (fun i=>decide (id<t i 0)) tn:=Fx.qo hk (fun i a b=>f_ (J i a b)) (.inr (fun j e=>by have x:j=_:=Nat.succ.inj (e.symm.trans H); subst x; exact g_ u));exact⟨pR c.symm,b10,.inr ⟨c,d,n,m23,by rw[<- I]; exact m24,fun e=>aix (C_ e).symm⟩⟩
  refine Lv aF (nC V)<|av aF<|bS<|bS<|bS<|bS<|bS<|bS<|bS<|bS<|bS<|bS<|bS<|av aF<|aD<|aK<|Wx<|cZ<|gZ<|dh<|sN<|ay<|aU r<|av (pt tb)<|av (pt tb)<|Lv (bM d (tn+1) n) (aM R.aH 0)<|aU A<|aU N<|aU h3<|av (.agg (aA 2 (bG (bG (rv .u64 (fun _=>0)) 0 1 (fun _=>aC id)) 1 1 (fun _=>aC par))))<|Lv (pf d (2*k)) (dB 2)<|AY m16 (2*k) (h1:=(fun j Z=>by rcases j with _|_|j <;> first|rfl|omega)) fun su nW s9 z5 => ?_
  have oN:=R.cu s9 (by omega);have b11:=b7.then s9 aec;have pU:Fx.Own su B 153 2 (bM d (tn+1) n) (tn+1) (rv .u64 (lH (pX t k id par))):=nW.congr (uH (by omega));refine aD<|ay<|av (au 0)<|aD<|Wr<|aJ (au 0) ?_;have c:jM t tn id par=0:=by unfold jM; rw[b_ q,b_ (j_ p),b_ (fun h=>h.1 G),b_ (fun h=>h.elim (fun h=>by omega) (ER W (by omega)))]
  have I:k=down (fun i=>decide (id<t i 0)) tn:=Fx.qo hk (fun i a b=>f_ (J i a b)) (.inl (by omega));exact⟨pR c.symm,b11,.inr ⟨c,d,n,oN,by rw[<- I]; exact pU,fun e=>aix (C_ e).symm⟩⟩
 refine Lv aG (kY G)<|av aG<|av (pt tb)<|av (aC par) ?_;by_cases z:(decide (0<=bC t tn par))=true
 ·refine dX (Pt tb ta tn tc t par _ (uQ E L Q)) aG (by rw[z]) ?_;intro Ah hb4;have s10:=Sb hb4;have⟨pV,nX⟩:=fC hb4 E L;have b12:=F.then s10 (.inr F.size);refine av aF<|av aF<|aD<|aK<|Wk<|sN<|Ws<|ay<|av (pt tb)<|av (pt tb)<|av (pt tb)<|Lv (.slice ta (tn) (tc)) (aM pV.aH 0)<|av (au tn) ?_;by_cases T:32<=(tn:Int)
  ·refine Lv aG (kW T)<|av aG<|bS<|bS<|bS<|bS<|bS<|av aG<|aD<|aN<|ay<|av (au 6)<|aD<|Wr<|sR<|aJ (au 6) ?_;have c:jM t tn id par=6:=(by unfold jM; rw[b_ q,b_ (j_ p),b_ (fun h=>by have:=h_ z; omega),d_ (.inl (by omega))]);exact⟨pR c.symm,b12,.inl ⟨by rw[c]; decide,pV,nX⟩⟩
  refine Lv aF (kN T)<|av aF<|av (pt tb)<|av (aC par)<|kF (JN tb ta tn tc t par D _ (uQ pV nX Q) hD hD2) ?_;rintro e BZ ⟨K,vv,Y,hown,tF,W,hb5⟩;obtain⟨a1,n,rfl⟩:=hown.val;refine⟨.slice a1 K n,Y,?_⟩;clear Y hown;have s11:=Sb hb5;have⟨ou,lu⟩:=fC hb5 pV nX;have b13:=b12.then s11 (.inr b12.size);refine av (au K) ?_;by_cases U:4<=(K:Int)
  ·refine Lv aG (kW U)<|av aG<|aD<|aN<|ay<|av (au 6)<|aD<|Wr<|sR<|aJ (au 6) ?_;have c:jM t tn id par=6:=(by unfold jM; rw[b_ q,b_ (j_ p),b_ (fun h=>by have:=h_ z; omega),d_ (.inr (Lm tF (by omega)))]);exact⟨pR c.symm,b13,.inl ⟨by rw[c]; decide,ou,lu⟩⟩
  refine Lv aF (kN U)<|av aF<|aD<|aK<|Wk<|sN<|ay<|av (pt tb)<|av (pt tb)<|av (pt tb)<|Lv (.slice ta (tn) (tc)) (aM ou.aH 0)<|av (au tn)<|av (au tn)<|aD<|ay<|av (pt tb)<|av (pt tb)<|av (pt tb)<|av (pt tb)<|Lv (.slice ta (tn) (tc)) (aM ou.aH 0)<|av (.agg (aA 2 (rv .u64 (fun _=>0))))<|yP (vs := [(0,.agg (aA 2 (rv .u64 (fun _=>0))))]) (s:=2) (zc:=rv .u64 (fun _=>0)) (y:=bG (fun j=>(rv .u64 (fun _=>0)) (j % 2)) (0*2) 2 (rv .u64 (fun _=>0))) (by rfl) rfl rfl Tryz.underlying154 (by kernel_rfl) (by rfl) (by rfl) (by kernel_rfl) (by rw[bE (off:=0*2) (s:=2) (y:=rv .u64 (fun _=>0)) rfl (bJ _ _) (by rfl)]; rfl) rfl fun g3 FK um m32 s12 z6 => ?_;have⟨oQ,nL⟩:=fC s12.old ou lu;have b14:=b13.then s12 (.inr b13.size);have BF:=iK um b13.size;have aob:=cO um ou.lt;have aoc:(.slice ta tn tc:Value).ownBlock≠some g3:=by rw[um]; exact lu.kM (A_ _)
  have GZ:=m32.lt;refine zB (B:=B) (s:=2) (bytes:=16) (k:=tn) (m:=1) (v := .slice ta tn tc) (by rfl) rfl rfl rfl Tryz.underlying154 (by kernel_rfl) (by kernel_rfl) rfl rfl nL m32.aH (fun j Z=>by rcases j with _|_|j <;> first|rfl|omega) (by omega) (by omega) (by omega) (m_ hB b14.size) fun l o K6 ho2 hg2 NG hlt2 => ?_
  have nT:aQ K6 tb 1 (fun _ => .slice ta tn tc) 156:=oQ.grown hg2 hne;have aiy:tb≠l:=fun e=>NG.elim (fun x=>hne (by rw[x,e])) (fun x=>by have:=oQ.lt; omega);have oO:Fx.Own K6 B 153 2 (bM l (tn+1) o) (tn+1) (rv .u64 (lH (C8 t tn tn))):=ho2.congr (yR t tn);have b15:jI (fun k=>k=tb\/(Value.slice ta tn tc).ownBlock=some k) w K6:=Fx.jI.grow b14 hg2 (fun k e => .inl (.inr e));have aed:(fun k=>k=tb\/(Value.slice ta tn tc).ownBlock=some k) l\/w.heap.size<=l:=NG.elim (fun e => .inl (.inr e)) (fun e => .inr (by rw[e]; exact b14.size));refine av (pt tb)<|av (pt tb)<|ji nT 0 (bM l (tn+1) o) fun JE qV s13 z7 => ?_;have qB:aQ JE tb 1 (fun _=>bM l (tn+1) o) 156:=dK qV;have pE:=oO.acY s13 (by omega);have b16:=b15.then s13 (.inl (.inl rfl));refine aD<|Ws<|Wb<|Wo (fun f M => ∃ k:Nat,k<=tn/\(∀ i,k<=i->i<tn->id<t i 0)/\f 0=(pt tb)/\f 1=aC id/\f 2=aC par/\f 7=au (k:Int)/\aQ M tb 1 (fun _=>bM l (tn+1) o) 156/\Fx.Own M B 153 2 (bM l (tn+1) o) (tn+1) (rv .u64 (lH (C8 t tn k)))/\jI (fun k=>k=tb\/(Value.slice ta tn tc).ownBlock=some k) w M) (fun f _=>(intOf (f 7)).toNat) ⟨tn,by omega,(fun i r N=>N_ r (by omega)),(by rfl),Fx.ic,Fx.ic,Fx.ic,qB,pE,b16⟩ ?_;rintro f2 w16 ⟨k,hk,J,O,h6,h7,C,S,mK,b17⟩;refine Ws<|ay<|aU C ?_;by_cases V:0<(k:Int)
  ·obtain⟨j,H⟩ : ∃ j,k=j+1:=⟨k-1,by omega⟩;refine Lv aG (nA V)<|av aG<|aU O<|av (pt tb)<|av (pt tb)<|Lv (bM l (tn+1) o) (aM S.aH 0)<|aU C<|Lv (au j) gP<|Lv (pf l (2*j)) (dB 2)<|av (pf l (2*j))<|Lv (aC (t j 0)) (aM mK.aH (2*j) (Av (by omega) (by omega) (by omega)))<|aU h6 ?_;by_cases u:id<(t j 0)
   ·refine Lv aG (nA u)<|av aG<|aD<|aN<|Wk<|sN<|Wb<|Ws ?_;refine Wt 14 (by kernel_rfl) (by kernel_rfl) fun BS fZ mQ => ?_;have Ba:Stp w16.heap.size w16 BS:=Sb fZ;have⟨ni,mR⟩:=fC fZ S mK;have b18:=b17.then Ba (.inr b17.size);refine qL (pt tb) (TA O)<|Fy (pt tb)<|Fy (pt tb)<|qL (bM l (tn+1) o) (aM ni.aH 0)<|qL (au k) (TA C)<|qL (pt tb) (TA O)<|Fy (pt tb)<|Fy (pt tb)<|qL (bM l (tn+1) o) (aM ni.aH 0)<|qL (au k) (TA C)<|qL (au j) gP<|qL (pf l (2*j)) (dB 2)<|qL (.agg (aA 2 (rv .u64 (t j)))) (fM mR.aH (2*j) (fun i hi=>Ve (by omega) (by omega) hi))<|qL (pf l (2*k)) (dB 2)<|Fx.St.nil ?_;refine AY mR (2*k) fun Ph qw s15 z8 => ?_;have qW:=ni.cu s15 (by omega);have b19:=b18.then s15 aed;have ow:Fx.Own Ph B 153 2 (bM l (tn+1) o) (tn+1) (rv .u64 (lH (C8 t tn j))):=qw.congr (zD H (by omega));refine aD<|Wl<|aU C<|Lv (au j) gP<|av (au j)<|Ln<|bU<|iH ⟨j,by omega,(Pv H J u),O,(h6.trans Fx.ic),(h7.trans Fx.ic),Fx.ic,qW,ow,b19⟩ ?_;show(intOf (au j)).toNat<_;simp only[C,intOf]; omega
   refine Lv aF (nC u)<|av aF<|aD<|aK<|Wx<|cZ<|gZ<|dh<|sN<|ay<|aU O<|av (pt tb)<|av (pt tb)<|Lv (bM l (tn+1) o) (aM S.aH 0)<|aU C<|aU h6<|aU h7<|av (.agg (aA 2 (bG (bG (rv .u64 (fun _=>0)) 0 1 (fun _=>aC id)) 1 1 (fun _=>aC par))))<|Lv (pf l (2*k)) (dB 2)<|AY mK (2*k) (h1:=(fun j Z=>by rcases j with _|_|j <;> first|rfl|omega)) fun Un sK s16 z9 => ?_
   have vE:=S.cu s16 (by omega);have b20:=b17.then s16 aed;have sM:Fx.Own Un B 153 2 (bM l (tn+1) o) (tn+1) (rv .u64 (lH (pX t k id par))):=sK.congr (uH (by omega));refine aD<|ay<|av (au 0)<|aD<|Wr<|aJ (au 0) ?_;have c:jM t tn id par=0:=(by unfold jM; rw[b_ q,b_ (j_ p),b_ (fun h=>by have:=h_ z; omega),b_ (fun h=>h.elim (fun h=>by omega) (ER W (by omega)))]);have I:k=down (fun i=>decide (id<t i 0)) tn:=Fx.qo hk (fun i a b=>f_ (J i a b)) (.inr (fun j e=>by have x:j=_:=Nat.succ.inj (e.symm.trans H); subst x; exact g_ u));exact⟨pR c.symm,b20,.inr ⟨c,l,o,vE,by rw[<- I]; exact sM,fun e=>aiy (C_ e).symm⟩⟩
  refine Lv aF (nC V)<|av aF<|bS<|bS<|bS<|bS<|bS<|bS<|bS<|bS<|bS<|bS<|bS<|av aF<|aD<|aK<|Wx<|cZ<|gZ<|dh<|sN<|ay<|aU O<|av (pt tb)<|av (pt tb)<|Lv (bM l (tn+1) o) (aM S.aH 0)<|aU C<|aU h6<|aU h7<|av (.agg (aA 2 (bG (bG (rv .u64 (fun _=>0)) 0 1 (fun _=>aC id)) 1 1 (fun _=>aC par))))<|Lv (pf l (2*k)) (dB 2)<|AY mK (2*k) (h1:=(fun j Z=>by rcases j with _|_|j <;> first|rfl|omega)) fun w19 rQ Ih YP => ?_
  have uM:=S.cu Ih (by omega);have M7:=b17.then Ih aed;have uw:Fx.Own w19 B 153 2 (bM l (tn+1) o) (tn+1) (rv .u64 (lH (pX t k id par))):=rQ.congr (uH (by omega));refine aD<|ay<|av (au 0)<|aD<|Wr<|aJ (au 0) ?_;have c:jM t tn id par=0:=by unfold jM; rw[b_ q,b_ (j_ p),b_ (fun h=>by have:=h_ z; omega),b_ (fun h=>h.elim (fun h=>by omega) (ER W (by omega)))]
  have I:k=down (fun i=>decide (id<t i 0)) tn:=Fx.qo hk (fun i a b=>f_ (J i a b)) (.inl (by omega));exact⟨pR c.symm,M7,.inr ⟨c,l,o,uM,by rw[<- I]; exact uw,fun e=>aiy (C_ e).symm⟩⟩
 rw[U_]at z;refine dX (Pt tb ta tn tc t par _ (uQ E L Q)) aF (by rw[z]) ?_;intro Q7 hb6;have Ir:=Sb hb6;have⟨ug,uW⟩:=fC hb6 E L;have JD:=F.then Ir (.inr F.size);refine av aG<|av aG<|aD<|aN<|ay<|av (au 9)<|aD<|Wr<|sR<|aJ (au 9) ?_;have c:jM t tn id par=9:=by unfold jM; rw[b_ q,b_ (j_ p),d_ ⟨G,by have:=j_ z; omega⟩]
 exact⟨pR c.symm,JD,.inl ⟨by rw[c]; decide,ug,uW⟩⟩
namespace Rt
def jE(o a:Int):Int:=if 1<=o/\o<=6/\1<=a/\a<1099511627776 then 1099511627776*o+a else 0
end Rt
theorem aod(o a:Int)(w:World) :
 Calls Tryz.prog 156 #[au o,aC a] w fun e w'=>e = .returned (aC (jE o a))/\w'=w:=by
 refine Kent Tryz.func156 24 ?_;refine ay<|av (aC 0)<|aD<|Ws<|ay<|av (au o) ?_;by_cases f:o<1
 ·refine Lv aG (iD f)<|av aG<|bS<|bS<|av aG<|av aG<|bS<|bS<|av aG<|av aG<|bS<|bS<|av aG<|aD<|aN<|ay<|av (aC 0)<|aD<|Wr<|sR<|aJ (aC 0) ?_;exact⟨M_ (fun q=>Ending.returned (Value.int .u64 q)) (Eq.symm (by unfold jE; rw[b_ (by omega)])),rfl⟩
 refine Lv aF (iE f)<|av aF<|av (au o) ?_;by_cases g:6<o
 ·refine Lv aG (nA g)<|av aG<|av aG<|bS<|bS<|av aG<|av aG<|bS<|bS<|av aG<|aD<|aN<|ay<|av (aC 0)<|aD<|Wr<|sR<|aJ (aC 0) ?_;exact⟨M_ (fun q=>Ending.returned (Value.int .u64 q)) (Eq.symm (by unfold jE; rw[b_ (by omega)])),rfl⟩
 refine Lv aF (nC g)<|av aF<|av aF<|av (aC a) ?_;by_cases c:a<1
 ·refine Lv aG (iD c)<|av aG<|av aG<|bS<|bS<|av aG<|aD<|aN<|ay<|av (aC 0)<|aD<|Wr<|sR<|aJ (aC 0) ?_;exact⟨M_ (fun q=>Ending.returned (Value.int .u64 q)) (Eq.symm (by unfold jE; rw[b_ (by omega)])),rfl⟩
 refine Lv aF (iE c)<|av aF<|av aF<|av (aC a) ?_;by_cases d:1099511627776<=a
 ·refine Lv aG (kW d)<|av aG<|aD<|aN<|ay<|av (aC 0)<|aD<|Wr<|sR<|aJ (aC 0) ?_;exact⟨M_ (fun q=>Ending.returned (Value.int .u64 q)) (Eq.symm (by unfold jE; rw[b_ (by omega)])),rfl⟩
 refine Lv aF (kN d)<|av aF<|aD<|aK<|Wk<|sN<|ay<|av (au o)<|Lv (aC o) (dF rfl rfl (by kernel_rfl) Tryz.underlying23 (jQ (by omega) rfl))<|Lv (aC (1099511627776*o)) (Fx.KI (b:=40) rfl rfl rfl (by decide) (jQ (by omega) (by omega)))<|av (aC a)<|Lv (aC (1099511627776*o+a)) fH<|av (aC (1099511627776*o+a))<|aD<|Wr<|aJ (aC (1099511627776*o+a)) ?_;exact⟨M_ (fun q=>Ending.returned (Value.int .u64 q)) (Eq.symm (by unfold jE; rw[d_ (by omega)])),rfl⟩
theorem abR(a:Option Addr)(n cap:Nat)(w:World) :
 Calls Tryz.prog 9 #[.slice a (n) (cap)] w fun e w'=>e = .returned (.bool (decide ((n:Int)<=60)))/\w'=w:=by
 refine Kent Tryz.func9 6 ?_;refine ay<|av aF<|aD<|ay<|av (.slice a (n) (cap))<|av (au n) ?_;by_cases b:(n:Int)<=60
 ·refine Lv aG (oh b)<|av aG<|aD<|Wr<|aJ aG ?_;exact⟨iF (Eq.symm (f_ b)),rfl⟩
 refine Lv aF (oP b)<|av aF<|aD<|Wr<|aJ aF ?_;exact⟨iF (Eq.symm (g_ b)),rfl⟩
section
theorem app0{s:Nat}{x y:Nat->Value}(j:Nat):iJ x (0*s) y j=y j:=by unfold iJ; rw[Nat.zero_mul,b_ (z_ _)]; rfl
theorem wh(id par:Int)(R:Nat->Int)(j:Nat):(mW id par R j).oneCell'=true:=by unfold mW; split <;> (try split) <;> rfl
theorem Vf(id par:Int)(R:Nat->Int){q p:Nat}(h:q=p+2):mW id par R q=au (R p):=by subst h; unfold mW; rw[b_ (by omega),b_ (by omega),Nat.add_sub_cancel]
theorem sD(x:Nat->Int)(j:Nat):(jf x j).oneCell'=true:=by unfold jf; split <;> (try split) <;> rfl
theorem Y6(m:lZ)(j:Nat):(Kw m j).oneCell'=true:=wh _ _ _ _
theorem Y7(m:lZ)(j:Nat):(JL m j).oneCell'=true:=sD _ _
theorem Pw(m:FQ)(j:Nat):(rF m j).oneCell'=true:=by unfold rF; repeat (first|rfl|split)
def uz(m:lZ)(i:Nat):Value := .slice (m.ra i) (m.rn i) (m.rc i)
def xG(w:World)(B k:Nat)(m:lZ):Prop :=
 (∀ i,i<k->Fx.Own w B 23 1 (uz m i) (m.rn i) (rv .u64 (m.rq i))) /\ ∀ i j,i<k->j<k->i≠j -> ∀ g,(uz m i).ownBlock=some g->(uz m j).ownBlock≠some g
section
variable {w w':World} {B k:Nat} {m:lZ}
theorem xG.up(h:xG w B k m)(a:Below w.heap.size w w'):xG w' B k m:=⟨fun i b=>(h.1 i b).up a,h.2⟩
instance:Rt.Tr w w' (xG w B k m) (xG w' B k m):=⟨fun b h=>h.up b⟩
theorem xG.kV{a:List TypeId}(h:xG w B k m)(c:jg a w w')(d:a.contains 23=false):xG w' B k m:=⟨fun i b=>(h.1 i b).kV c d,h.2⟩
instance {a:List TypeId}:Rt.Tc a w w' (xG w B k m) (xG w' B k m) (!(a.contains 23)):=⟨fun b h e=>h.kV b (by simpa using e)⟩
theorem xG.zero(w:World)(B:Nat)(m:lZ):xG w B 0 m:=⟨fun _ h=>N_ h (z_ _),fun _ _ h=>N_ h (z_ _)⟩
theorem xG.fresh(h:xG w B k m){v:Value}(c:v = .slice none 0 0\/v.ownBlock=(Value.slice none 0 0).ownBlock\/v.ownBlock=some w.heap.size) : ∀ i,i<k -> ∀ g,(uz m i).ownBlock=some g->v.ownBlock≠some g:=fun i b g a e=>by
 have d:=((h.1 i b).ge a).2
 rcases c with rfl|e2|e2
 ·cases e
 ·rw[e]at e2; cases e2
 ·rw[e]at e2; have:=C_ e2; omega
theorem xG.snoc{a:lZ}(h:xG w B k m)(c : ∀ i,i<k->uz a i=uz m i/\a.rn i=m.rn i/\a.rq i=m.rq i)(s:Fx.Own w B 23 1 (uz a k) (a.rn k) (rv .u64 (a.rq k)))(l : ∀ i,i<k -> ∀ g,(uz m i).ownBlock=some g->(uz a k).ownBlock≠some g):xG w B (k+1) a:=by
 refine⟨fun i t => ?_,fun i j t u n g b => ?_⟩
 ·by_cases e:i=k
  ·subst e; exact s
  obtain⟨p,q,r⟩:=c i (by omega);rw[p,q,r]; exact h.1 i (by omega)
 by_cases o:i=k
 ·subst o;by_cases d:j=i
  ·exact N_ d.symm n
  intro f;rw[(c j (by omega)).1]at f;exact l j (by omega) g f b
 rw[(c i (by omega)).1]at b;by_cases d:j=k
 ·subst d; exact l i (by omega) g b
 rw[(c j (by omega)).1]; exact h.2 i j (by omega) (by omega) n g b
end
structure wM(w:World)(B p:Nat)(m:lZ):Prop where
 c:aQ w p 27 (nk m) 56
 n:Fx.Own w B 84 56 (.slice m.s.na m.s.nn m.s.nc) m.s.nn (Kw m)
 g:Fx.Own w B 106 5 (.slice m.s.ga m.s.gn m.s.gc) m.s.gn (JL m)
 tc:aQ w m.tb 1 (fun _ => .slice m.ta m.tn m.tc) 156
 t:Fx.Own w B 153 2 (.slice m.ta m.tn m.tc) m.tn (Rm m.t)
 r:xG w B 6 m
 pB:B<=p
 tB:B<=m.tb
 bn:m.s.nn<=1000
 bg:m.s.gn<=1000000
 bt:m.tn<=1000
 br : ∀ i,i<6->m.rn i<=1000000
section
variable {w w':World} {B p:Nat} {m:lZ}
theorem wM.ldg(h:wM w B p m):DX w p m where
 c:=h.c.aH
 an:=h.n.arr
 ag:=h.g.arr
 tc:=h.tc.aH
 at2:=h.t.arr
 ar:=fun i a=>(h.r.1 i a).arr
 bn:=by have:=h.bn; omega
 bg:=h.bg
 bt:=by have:=h.bt; omega
 br:=h.br
theorem wM.up(h:wM w B p m)(a:Below w.heap.size w w'):wM w' B p m := { h with c:=h.c.cu (Sb a) (u_ h.c.lt),n:=h.n.up a,g:=h.g.up a,tc:=h.tc.cu (Sb a) (u_ h.tc.lt),t:=h.t.up a,r:=h.r.up a }
instance:Rt.Tr w w' (wM w B p m) (wM w' B p m):=⟨fun b h=>h.up b⟩
def Lp:List Nat := [56,84,106,156,153,23]
theorem wM.kV{e:List TypeId}(h:wM w B p m)(b:jg e w w')(i:(Lp.all fun T => !e.contains T)=true):wM w' B p m:=by
 have a : ∀ d∈Lp,e.contains d=false:=fun d f=>by
  have:=List.all_eq_true.1 i d f
  simpa using this
 exact { h with
  c:=h.c.kV b (a _ (by decide)),n:=h.n.kV b (a _ (by decide)),g:=h.g.kV b (a _ (by decide)),tc:=h.tc.kV b (a _ (by decide)),t:=h.t.kV b (a _ (by decide)),r:=h.r.kV b (a _ (by decide)) }
instance {a:List TypeId}:Rt.Tc a w w' (wM w B p m) (wM w' B p m) (Lp.all fun T => !a.contains T):=⟨fun b h e=>h.kV b (by simpa using e)⟩
theorem wM.mono{b:Nat}(h:wM w B p m)(a:b<=B):wM w b p m := { h with n:=h.n.mono a,g:=h.g.mono a,t:=h.t.mono a,r:=⟨fun i c=>(h.r.1 i c).mono a,h.r.2⟩,pB:=m_ a h.pB,tB:=m_ a h.tB }
end
def Lr(m:lZ)(na:Option Addr)(nc:Nat)(ga:Option Addr)(gc tb:Nat)(ta:Option Addr)(tc:Nat)(ra:Nat->Option Addr)(rc:Nat->Nat)(k:Nat):lZ :=
 { m with s := { m.s with na:=na,nc:=nc,ga:=ga,gc:=gc },tb:=tb,ta:=ta,tc:=tc,ra:=fun i=>if i<k then ra i else none,rn:=fun i=>if i<k then m.rn i else 0,rc:=fun i=>if i<k then rc i else 0 }
def aI{a:Type}(f:Nat->a)(k:Nat)(v:a):Nat->a:=fun i=>if i=k then v else f i
section
variable {m:lZ} {na:Option Addr} {nc:Nat} {ga:Option Addr} {gc tb:Nat} {ta:Option Addr} {tc:Nat} {ra:Nat->Option Addr} {rc:Nat->Nat} {k:Nat}
theorem Y8{q:Nat}(h:q=k+21):nk (Lr m na nc ga gc tb ta tc ra rc k) q = .slice none 0 0:=by
 subst h;rw[xE (p:=k) _ rfl];show Value.slice (if k<k then ra k else none) (if k<k then m.rn k else 0) (if k<k then rc k else 0)=_;rw[b_ (Nat.lt_irrefl _),b_ (Nat.lt_irrefl _),b_ (Nat.lt_irrefl _)]
theorem zO{i:Nat}(h:i<k):uz (Lr m na nc ga gc tb ta tc ra rc k) i = .slice (ra i) (m.rn i) (rc i):=by
 show Value.slice (if i<k then ra i else none) (if i<k then m.rn i else 0) (if i<k then rc i else 0)=_;rw[d_ h,d_ h,d_ h]
theorem Vg{a:Option Addr}{c q:Nat}(f:q=k+21):dJ (nk (Lr m na nc ga gc tb ta tc ra rc k)) q (.slice a (m.rn k) c)=nk (Lr m na nc ga gc tb ta tc (aI ra k a) (aI rc k c) (k+1)):=by
 subst f
 funext p
 unfold dJ;by_cases e:p=k+21
 ·subst e; rw[d_ rfl];rw[xE (p:=k) _ rfl];show _=Value.slice (if k<k+1 then aI ra k a k else none) (if k<k+1 then m.rn k else 0) (if k<k+1 then aI rc k c k else 0);simp[aI]
 rw[b_ e];unfold nk;by_cases h:p<20
 ·rw[d_ h,d_ h]; rfl
 rw[b_ h,b_ h];by_cases b:p=20
 ·rw[d_ b,d_ b]; rfl
 rw[b_ b,b_ b];show Value.slice (if p-21<k then ra (p-21)else none) (if p-21<k then m.rn (p-21)else 0) (if p-21<k then rc (p-21)else 0)=Value.slice (if p-21<k+1 then aI ra k a (p-21)else none) (if p-21<k+1 then m.rn (p-21)else 0) (if p-21<k+1 then aI rc k c (p-21)else 0);by_cases d:p-21<k
 ·simp[aI,d,show p-21<k+1 by omega,show ¬ p-21=k by omega]
 simp[d,show ¬ p-21<k+1 by omega]
theorem Y9{w:World}{B:Nat}{a:Option Addr}{c:Nat}(h:xG w B k (Lr m na nc ga gc tb ta tc ra rc k))(e:Fx.Own w B 23 1 (.slice a (m.rn k) c) (m.rn k) (rv .u64 (m.rq k)))
 (f : ∀ i,i<k -> ∀ g,(uz (Lr m na nc ga gc tb ta tc ra rc k) i).ownBlock=some g->(Value.slice a (m.rn k) c).ownBlock≠some g):xG w B (k+1) (Lr m na nc ga gc tb ta tc (aI ra k a) (aI rc k c) (k+1)):=by
 have b:uz (Lr m na nc ga gc tb ta tc (aI ra k a) (aI rc k c) (k+1)) k = .slice a (m.rn k) c:=by
  rw[zO (by omega)]; unfold aI; rw[d_ rfl,d_ rfl]
 refine h.snoc (fun i d=>⟨?_,?_,rfl⟩) ?_ ?_
 ·rw[zO (by omega),zO d]; unfold aI; rw[b_ (by omega),b_ (by omega)]
 ·show(if i<k+1 then m.rn i else 0)=(if i<k then m.rn i else 0);rw[d_ (by omega),d_ d]
 ·rw[b];show Fx.Own w B 23 1 _ (if k<k+1 then m.rn k else 0) _;rw[d_ (by omega)]; exact e
 rw[b]; exact f
end
def atM(m:lZ)(na:Option Addr)(nc:Nat)(ga:Option Addr)(gc tb:Nat)(ta:Option Addr)(tc:Nat)(ra:Nat->Option Addr)(rc:Nat->Nat):lZ :=
 { m with s := { m.s with na:=na,nc:=nc,ga:=ga,gc:=gc },tb:=tb,ta:=ta,tc:=tc,ra:=ra,rc:=rc }
section
variable {m:lZ} {na:Option Addr} {nc:Nat} {ga:Option Addr} {gc tb:Nat} {ta:Option Addr} {tc:Nat} {ra:Nat->Option Addr} {rc:Nat->Nat}
theorem aiz : ∀ j,j<27->nk (Lr m na nc ga gc tb ta tc ra rc 6) j=nk (atM m na nc ga gc tb ta tc ra rc) j:=fun j b=>by
 unfold nk;by_cases h:j<20
 ·rw[d_ h,d_ h]; rfl
 ·rw[b_ h,b_ h];by_cases a:j=20
  ·rw[d_ a,d_ a]; rfl
  ·rw[b_ a,b_ a];show Value.slice (if j-21<6 then ra (j-21)else none) (if j-21<6 then m.rn (j-21)else 0) (if j-21<6 then rc (j-21)else 0)=Value.slice (ra (j-21)) (m.rn (j-21)) (rc (j-21));rw[d_ (by omega),d_ (by omega),d_ (by omega)]
theorem Za{w:World}{B:Nat}(h:xG w B 6 (Lr m na nc ga gc tb ta tc ra rc 6)):xG w B 6 (atM m na nc ga gc tb ta tc ra rc):=by
 refine⟨fun i a => ?_,fun i j a b d g c => ?_⟩
 ·have:=h.1 i a;rw[zO a]at this;have e:(Lr m na nc ga gc tb ta tc ra rc 6).rn i=m.rn i:=by show(if i<6 then m.rn i else 0)=_; rw[d_ a]
  rw[e]at this;exact this
 have:=h.2 i j a b d g;rw[zO a,zO b]at this;exact this c
end
end
set_option maxRecDepth 20000 in
set_option maxHeartbeats 1000000 in
theorem aee(m:lZ)(p:Nat)(w:World)(h:DX w p m)(bn1:m.s.nn<=1000)(bt1:m.tn<=1000) :
 Calls Tryz.prog 81 #[(pt p)] w fun e w' => ∃ p' m',e = .returned (pt p')/\m'.core=m.core/\wM w' w.heap.size p' m'/\Below w.heap.size w w':=by
 have N:=h.c;have lp:p<w.heap.size:=N.lt (by omega);have bn:=h.bn;have bg:=h.bg;have bt:=h.bt;have han:=h.an;have hag:=h.ag;have hat:=h.at2;have htc:=h.tc;have SE:m.tb<w.heap.size:=htc.lt (by omega);refine Kent Tryz.func81 79 ?_;refine ay<|av (.pointer none)<|aD<|ay<|av (pt p)<|av (pt p)<|av (pt p)<|Lv (.agg (aA 20 (rF m.s))) (fM N 0 (fun j hj=>(show nk _ (0+j)=rF _ j by rw[H_]; exact mI _ hj rfl)))<|av (.agg (aA 1 (fun _ => .slice none 0 0)))<|pO fun b w1 ku m1 s1 z1 => ?_;have⟨m2,m3,b1⟩:=iY s1.old N htc (Below.refl w.heap.size w);have tC:=gN ku;have nK:p≠b:=by rw[ku]; exact u_ (N.lt (by omega))
 have Vh:m.tb≠b:=by rw[ku]; exact u_ (htc.lt (by omega))
 have uK:=m1.lt;refine av (.agg (aA 27 (bG (bG zL0 0 20 (rF m.s)) 20 1 (fun _=>(pt b)))))<|DT (m:=27) (y:=bG (bG zL0 0 20 (rF m.s)) 20 1 (fun _=>(pt b))) (by rfl) rfl rfl (bJ _ _) rfl fun a w2 V m4 s2 z2 => ?_;have⟨m5,m6,m7,b2⟩:=jW s2.old m2 m3 m1 b1;have qX:=iK V b1.size;have Ls:p≠a:=by rw[V]; exact u_ (m2.lt (by omega))
 have abS:m.tb≠a:=by rw[V]; exact u_ (m3.lt (by omega))
 have Px:=cO V m1.lt;have zM:=m4.lt;refine av (pt a)<|aD<|ay<|av (pt a)<|Fx.L.OY (s:=56) (by rfl) rfl Tryz.underlying47 (by kernel_rfl) rfl fun g3 w3 um Zb s3 => ?_;have P:Fx.Own w3 w.heap.size 84 56 (bM g3 0 0) 0 (Kw m):=Zb _ _ (by rw[um]; exact b2.size);have⟨m9,m10,m11,m12,S⟩:=nE s3.old m5 m6 m7 m4 b2;refine av (pt p)<|av (pt p)<|av (pt p)<|av (pf p 18)<|Lv (.slice m.s.na (m.s.nn) (m.s.nc)) (aM m9 18)<|Fx.L.Jr (B:=w.heap.size) (s:=56) (bytes:=448) (k:=0) (m:=m.s.nn) (v:=bM g3 0 0) (x:=Kw m) (by rfl) rfl rfl rfl Tryz.underlying47 (by kernel_rfl) (by kernel_rfl) rfl rfl P (han.up S rfl) (fun j _=>Y6 m j) (by omega) (by omega) S.size fun vv1 w4 ho1 X xg => ?_;rw[H_]at ho1;obtain⟨C,E,rfl⟩:=ho1.val;have gF:=zC X P;have m14:=m9.grown X (P.not (by omega));have m15:=m10.grown X (P.not (by omega));have⟨m16,m17⟩:=vP gF m11 m12;have m13:Fx.Own w4 w.heap.size 84 56 (.slice C (m.s.nn) (E)) m.s.nn (Kw m):=(ho1.congr (fun j _=>app0 j));have b4:Below w.heap.size w w4:=zA S X S.size (fun q l=>(P.ge l).1);refine av (pt a)<|av (pt a)<|av (pf a 18)<|ji m17 18 (.slice C (m.s.nn) (E)) fun w5 m18 s4 z3 => ?_;have m19:=m14.cu s4 (by omega);have m20:=m15.cu s4 (by omega);have jT:=fP s4 m17.ty;have⟨m21,m22⟩:=vP jT m16 m13;have b5:=s4.below b4 b4.size (by omega);refine aD<|ay<|av (pt a)<|Fx.L.OY (s:=5) (by rfl) rfl Tryz.underlying48 (by kernel_rfl) rfl fun g4 w6 CU hO2 s5 => ?_;have O:Fx.Own w6 w.heap.size 106 5 (bM g4 0 0) 0 (JL m):=hO2 _ _ (by rw[CU]; exact b5.size);have⟨m24,nW,oN,pU,pV,T⟩:=rz s5.old m19 m20 m21 m22 m18 b5;refine av (pt p)<|av (pt p)<|av (pt p)<|av (pf p 19)<|Lv (.slice m.s.ga (m.s.gn) (m.s.gc)) (aM m24 19)<|Fx.L.Jr (B:=w.heap.size) (s:=5) (bytes:=40) (k:=0) (m:=m.s.gn) (v:=bM g4 0 0) (x:=JL m) (by rfl) rfl rfl rfl Tryz.underlying48 (by kernel_rfl) (by kernel_rfl) rfl rfl O (hag.up T rfl) (fun j _=>Y7 m j) (by omega) (by omega) T.size fun vv2 w7 ho2 Y NG => ?_;rw[H_]at ho2;obtain⟨D,F,rfl⟩:=ho2.val;have oq:=zC Y O;have ou:=m24.grown Y (O.not (by omega));have lu:=nW.grown Y (O.not (by omega));have⟨m32,oQ,nL⟩:=BO oq oN pU pV;have nX:Fx.Own w7 w.heap.size 106 5 (.slice D (m.s.gn) (F)) m.s.gn (JL m):=(ho2.congr (fun j _=>app0 j));have b7:Below w.heap.size w w7:=zA T Y T.size (fun q l=>(O.ge l).1);refine av (pt a)<|av (pt a)<|av (pf a 19)<|ji nL 19 (.slice D (m.s.gn) (F)) fun w8 oO s6 z4 => ?_;have nT:=ou.cu s6 (by omega);have qV:=lu.cu s6 (by omega);have uq:=fP s6 nL.ty;have⟨qB,pE,sJ⟩:=BO uq m32 oQ nX;have b8:=s6.below b7 b7.size (by omega);refine aD<|Ws ?_;refine Ad [0,1,2,4,5,6,11,12,13,3,7,8,9,10,14,15,16,17,18,19,20,21] [0,0,0,1,0,0,0,4,0,0,4,0,0,0,4,0,0,4,2,0,0,3] (jg [153]) vN Fx.jg.trans (fJ := [(21,3,[3]),(18,7,[10,9,8,7]),(21,7,[7]),(18,10,[10]),(21,10,[10]),(18,14,[17,16,15,14]),(21,14,[14]),(18,17,[17]),(21,17,[17]),(19,18,[18]),(20,18,[18]),(21,18,[18])]) (by kernel_rfl) (by kernel_rfl) (by kernel_rfl) (by kernel_rfl) (by kernel_rfl) fun I dU iC => ?_;have⟨mK,ni,mR,qw,qW,ow,U⟩:=jJ dU nT qV qB pE sJ oO b8;refine aY (pt a)<|aY (pt a)<|aY (pf a 20)<|aY (pt a)<|aY (pt a)<|aY (pf a 20)<|aY (pt p)<|aY (pt p)<|aY (pf p 20)<|Rd (v:=(pt b)) (by rfl) (by rfl) (vN _) (fun v1 hv1=>bf (x:=dJ (dJ (bG (bG zL0 0 20 (rF m.s)) 20 1 (fun _=>(pt b))) 18 (.slice C (m.s.nn) (E))) 19 (.slice D (m.s.gn) (F))) rfl rfl (by kernel_rfl) (ow.kV hv1 (by decide)).aH (i:=20) (by omega) (by omega) (Fx.BJ (by omega) (Fx.BJ (by omega) (Fx.qY (j:=0) (by omega) (by omega) rfl)))) ?_;refine Rs (pt b) (aM ow.aH 20 (Fx.BJ (by omega) (Fx.BJ (by omega) (Fx.qY (j:=0) (by omega) (by omega) rfl)))) ?_;refine aY (pt b)<|aY (pt b)<|Rs (.slice none 0 0) (aM mR.aH 0) ?_;refine Rs (pt m.tb) (aM mK 20) ?_;refine aY (pt m.tb)<|aY (pt m.tb)<|Rs (.slice m.ta (m.tn) (m.tc)) (aM ni 0) ?_;refine zG<|Fx.L.Jr (B:=w.heap.size) (s:=2) (bytes:=16) (k:=0) (m:=m.tn) (v := .slice none 0 0) (x:=Rm m.t) (by rfl) rfl rfl rfl Tryz.underlying154 (by kernel_rfl) (by kernel_rfl) rfl rfl (wT I w.heap.size 153 2 (Rm m.t)) (hat.up U rfl) (fun _ _=>rfl) (by omega) (by omega) U.size fun vv3 w9 ho3 A axI => ?_;rw[H_]at ho3
 obtain⟨u,z,rfl⟩:=ho3.val;have uV:=zC A (wT I w.heap.size 153 2 (Rm m.t));have hq1:Below I.heap.size I w9:=⟨A.os,A.tape,A.output,A.size,fun q l=>A.block q l (fun e=>by cases e)⟩
 have vE:=mK.cu (Sb hq1) (u_ (mK.lt (by omega)));have hq2:Below I.heap.size I w9:=⟨A.os,A.tape,A.output,A.size,fun q l=>A.block q l (fun e=>by cases e)⟩
 have sM:=ni.cu (Sb hq2) (u_ (ni.lt (by omega)));have⟨rQ,uM,uw,ug⟩:=Em uV mR qw qW ow;have sK:Fx.Own w9 w.heap.size 153 2 (.slice u (m.tn) (z)) m.tn (Rm m.t):=(ho3.congr (fun j _=>app0 j));have b10:Below w.heap.size w w9:=zA U A U.size (fun q l=>((wT I w.heap.size 153 2 (Rm m.t)).ge l).1);refine Ln ⟨uV,?_⟩;refine aY (pt b)<|aY (pt b)<|gQ<|ji rQ 0 (.slice u (m.tn) (z)) fun su uW s8 z5 => ?_;have xk:aQ su b 1 (fun _ => .slice u (m.tn) (z)) 156:=dK uW;have uh:=vE.cu s8 (by omega);have rR:=sM.cu s8 (by omega);have vT:=fP s8 rQ.ty;have⟨sw,vU,rE,uj⟩:=Em vT uM uw ug sK;have b11:=s8.below b10 b10.size (by omega);refine Ln<|bT<|Ws<|ay<|av (au 0)<|aD<|Wb ?_;have nY:aQ su a 27 (nk (Lr m C E D F b u z (fun _=>none) (fun _=>0) 0)) 56:=rE.congr (fun j hj=>by rcases j with _|_|_|_|_|_|_|_|_|_|_|_|_|_|_|_|_|_|_|_|_|_|_|_|_|_|_|j <;> first|rfl|omega)
 have uy:=xG.zero su w.heap.size (Lr m C E D F b u z (fun _=>none) (fun _=>0) 0);refine Wo (fun f H => ∃ k:Nat,∃ ra:Nat->Option Addr,∃ rc:Nat->Nat,k<=6/\f 0=(pt p)/\f 3=(pt a)/\f 4=au (k:Int)/\iU H p 0 27 (nk m)/\Fx.Own H w.heap.size 84 56 (.slice C (m.s.nn) (E)) m.s.nn (Kw m)/\Fx.Own H w.heap.size 106 5 (.slice D (m.s.gn) (F)) m.s.gn (JL m)/\Fx.Own H w.heap.size 153 2 (.slice u (m.tn) (z)) m.tn (Rm m.t)/\aQ H b 1 (fun _ => .slice u (m.tn) (z)) 156/\aQ H a 27 (nk (Lr m C E D F b u z ra rc k)) 56/\xG H w.heap.size k (Lr m C E D F b u z ra rc k)/\Below w.heap.size w H) (fun f _=>(6-(intOf (f 4)).toNat)) ⟨0,(fun _=>none),(fun _=>0),by omega,(by rfl),(by rfl),Fx.ic,uh,sw,vU,uj,xk,nY,uy,b11⟩ ?_;rintro f1 Ah ⟨k,ra,rc,hk,h1,W,J,m64,xq,wI,vF,yt,sO,vG,b12⟩;refine Ws<|ay<|aU J ?_;by_cases c57:(k:Int)<6
 ·refine Lv aG (iD c57)<|aD<|aN<|Wk<|sN<|Ws<|Wb ?_;have brk:=h.br k (by omega);have uN:=N.below b12 lp;refine Ad [0,1,2,3,4,5,6,8,9,10,11,12,15,16,7,13,14,17,18] [0,0,0,0,0,0,0,4,0,0,0,0,0,4,2,0,0,0,3] (jg [23]) vN Fx.jg.trans (fJ := [(14,7,[7]),(18,7,[7]),(14,13,[13]),(18,13,[13]),(17,14,[14]),(18,14,[14])]) (by kernel_rfl) (by kernel_rfl) (by kernel_rfl) (by kernel_rfl) (by kernel_rfl) fun G fZ mQ => ?_;have⟨vH,vI,yL,wJ,yV,yX,yM,wK,R⟩:=CO fZ m64 xq wI vF yt sO vG uN b12;refine bX W<|bX J<|bX W<|bX J<|aY (pt a)<|aY (pf a 21)<|Rp (pf a (k+21)) (fun _=>jD 6 1)<|bX h1<|bX J<|aY (pt p)<|aY (pf p 21)<|Rp (pf p (k+21)) (fun _=>jD 6 1)<|aY (pt a)<|aY (pf a 21)<|Rs (.slice none 0 0) (aM yX.aH (k+21) (Y8 (by omega))) ?_;refine Rs (.slice (m.ra k) (m.rn k) (m.rc k)) (aM vH (k+21) (xE _ (by omega))) ?_;refine zG<|Fx.L.Jr (B:=w.heap.size) (s:=1) (bytes:=8) (k:=0) (m:=(m.rn k)) (v := .slice none 0 0) (x:=rv .u64 (m.rq k)) (by rfl) rfl rfl rfl Tryz.underlying53 (by kernel_rfl) (by kernel_rfl) rfl rfl (wT G w.heap.size 23 1 (rv .u64 (m.rq k))) ((h.ar k (by omega)).up R rfl) (fun _ _=>rfl) (by omega) (by omega) R.size fun vv4 Q ho4 d aog => ?_;rw[H_]at ho4;obtain⟨K,M,rfl⟩:=ho4.val;have Ak:=zC d (wT G w.heap.size 23 1 (rv .u64 (m.rq k)));have hq3:Below G.heap.size G Q:=⟨d.os,d.tape,d.output,d.size,fun q l=>d.block q l (fun e=>by cases e)⟩
  have vJ:=vH.cu (Sb hq3) (u_ (vH.lt (by omega)));have⟨yu,zK,wL,Ai,zL⟩:=qA Ak vI yL wJ yV yX;have hq4:Below G.heap.size G Q:=⟨d.os,d.tape,d.output,d.size,fun q l=>d.block q l (fun e=>by cases e)⟩
  have AB:=yM.up hq4;have hq5:Below G.heap.size G Q:=⟨d.os,d.tape,d.output,d.size,fun q l=>d.block q l (fun e=>by cases e)⟩
  have yY:=wK.cu (Sb hq5) (u_ (wK.lt (by omega)));have vV:Fx.Own Q w.heap.size 23 1 (.slice K (m.rn k) (M)) (m.rn k) (rv .u64 (m.rq k)):=(ho4.congr (fun j _=>app0 j));have b14:Below w.heap.size w Q:=zA R d R.size (fun q l=>((wT G w.heap.size 23 1 (rv .u64 (m.rq k))).ge l).1);have hf1:=yM.fresh aog;refine Ln ⟨Ak,?_⟩;refine Rp (pf a (k+21)) (fun _=>jD 6 1)<|gQ<|ji zL (k+21) (.slice K (m.rn k) (M)) fun FK yZ Z z6 => ?_;have Aj:=vJ.cu Z (by omega);have Cb:=fP Z zL.ty;have⟨Er,C9,Cc,CF,Al⟩:=qA Cb yu zK wL Ai AB;have ES:=yY.cu Z (by omega);have Ev:=jh Cb vV;have b15:=Z.below b14 b14.size (by omega);refine Ln<|Rn<|bU<|sN<|Wl<|aU J<|Lv (au ((k:Int)+1)) fH<|av (au ((k:Int)+1))<|Ln ?_;have ET:aQ FK a 27 (nk (Lr m C E D F b u z (aI ra k K) (aI rc k M) (k+1))) 56:=yZ.to (Vg (by omega));have FV:xG FK w.heap.size (k+1) (Lr m C E D F b u z (aI ra k K) (aI rc k M) (k+1)):=Y9 Al Ev hf1
  skip
  refine iH ⟨k+1,(aI ra k K),(aI rc k M),by omega,h1,W,Fx.ic,Aj,Er,C9,Cc,CF,ET,FV,b15⟩ ?_;show(6-(intOf (au ((k:Int)+1))).toNat)<_;simp only[J,intOf]; omega
 refine Lv aF (iE c57)<|aD<|aK<|Wx<|cZ<|gZ<|dh<|sN<|ay<|aU W<|av (pt a)<|aD<|Wr<|aJ (pt a) ?_;have ek:k=6:=by omega
 subst ek;exact⟨a,atM m C E D F b u z ra rc,rfl,rfl,{ c:=sO.congr aiz,n:=xq,g:=wI,tc:=yt,t:=vF,r:=Za vG,pB:=qX,tB:=tC,bn:=bn1,bg:=bg,bt:=bt1,br:=h.br },b12⟩
namespace Rt
def mX(id:Nat->Int)(o:Int):Nat->Nat
 | 0=>0
 | n+1=>mX id o n+if id n / 1099511627776=o then 1 else 0
theorem Vi{id:Nat->Int}{o:Int}{c k:Nat}(h:c=mX id o k)(e:id k / 1099511627776=o):c+1=mX id o (k+1):=by unfold mX; rw[d_ e,h]
theorem Zc{id:Nat->Int}{o:Int}{c k:Nat}(h:c=mX id o k)(e : ¬ id k / 1099511627776=o):c=mX id o (k+1):=by unfold mX; rw[b_ e,h]; rfl
noncomputable def kP(L:eF)(v:EvM):Int:=if 5<=mX L.id v.o L.nn\/140737488355328<v.aT then 6 else jM L.t L.tn (jE v.o v.seq) v.node
def tN(f:Nat->Int)(n:Nat)(x:Int):Nat:=down (fun i=>decide (x<f i)) n
def rG(L:eF)(v:EvM):eF :=
 { L with nn:=L.nn+1,id:=cK L.id (tN L.id L.nn (jE v.o v.seq)) (jE v.o v.seq),par:=cK L.par (tN L.id L.nn (jE v.o v.seq)) v.node,
          R:=cK L.R (tN L.id L.nn (jE v.o v.seq)) (upd (fun _=>0) (v.o-1).toNat v.aT),
          tn:=L.tn+1,t:=pX L.t (down (fun i=>decide (jE v.o v.seq<L.t i 0)) L.tn) (jE v.o v.seq) v.node }
theorem Vj{id par:Int}(j:Nat):bG (bG zK0 0 1 (fun _=>aC id)) 1 1 (fun _=>aC par) j=mW id par (fun _=>0) j:=by
 unfold bG mW;by_cases a:j=0
 ·subst a; rfl
 by_cases b:j=1
 ·subst b; rfl
 rw[b_ (by omega),b_ (by omega),b_ a,b_ b]; show(if j<2 then _ else _)=_; rw[b_ (by omega)]
theorem Py{id par:Int}{R:Nat->Int}{a q:Nat}{x:Int}(d:q=a+2):dJ (mW id par R) q (au x)=mW id par (upd R a x):=by
 subst d
 funext p
 unfold dJ mW upd;by_cases h:p=a+2
 ·subst h; rw[d_ rfl,b_ (by omega),b_ (by omega),d_ (by omega)]
 rw[b_ h];by_cases b:p=0
 ·rw[d_ b,d_ b]
 by_cases c:p=1
 ·rw[b_ b,d_ c,b_ b,d_ c]
 rw[b_ b,b_ c,b_ b,b_ c,b_ (by omega)]
theorem Pz{id par:Nat->Int}{R:Nat->Nat->Int}{k:Nat}{a b:Int}{c:Nat->Int}:Fx.Jt (fun d=>mW (id d) (par d) (R d)) k (mW a b c)=fun d=>mW (cK id k a d) (cK par k b d) (cK R k c d):=by
 funext i
 unfold Fx.Jt cK;by_cases h:i<k
 ·simp only[d_ h]
 by_cases e:i=k
 ·simp only[b_ h,d_ e]
 simp only[b_ h,b_ e]
theorem Iu(m:lZ)(a:Option Addr)(n c:Nat):dJ (nk m) 18 (.slice a n c)=nk { m with s := { m.s with na:=a,nn:=n,nc:=c } }:=by
 funext p
 unfold dJ nk;by_cases h:p=18
 ·subst h; rfl
 rw[b_ h];by_cases e:p<20
 ·rw[d_ e,d_ e]; unfold rF;by_cases b:p<6
  ·rw[d_ b,d_ b]
  by_cases d:p<12
  ·rw[b_ b,d_ d,b_ b,d_ d]
  by_cases f:p<18
  ·rw[b_ b,b_ d,d_ f,b_ b,b_ d,d_ f]
  rw[b_ b,b_ d,b_ f,b_ h,b_ b,b_ d,b_ f,b_ h]
 rw[b_ e,b_ e]
theorem zP{s:Nat}{z y:Nat->Value}(hy : ∀ j,(y j).oneCell'=true) : ∀ j,j<1*s->(bG z (0*s) s y j).oneCell'=true:=fun j a=>by
 unfold bG; rw[d_ (by omega)]; exact hy _
theorem Vk{f:Nat->Int}{n k j:Nat}{x:Int}(e:k=j+1)(h : ∀ i,k<=i->i<n->x<f i)(c:x<f j) : ∀ i,j<=i->i<n->x<f i:=fun i d b=>by
 by_cases a:i=j
 ·subst a; exact c
 ·exact h i (by omega) b
end Rt
theorem Rt.Lu{t:Nat->Nat->Int}{tn:Nat}{id par:Int}(h:jM t tn id par=0):tn+1<=33:=by
 unfold jM at h;split at h; · cases h
 split at h; · cases h
 split at h; · cases h
 split at h; · cases h
 rename_i h4
 rcases Nat.lt_or_ge tn 32 with h5|h5
 ·omega
 exact N_ (Or.inl h5) h4
set_option maxRecDepth 20000 in
set_option maxHeartbeats 2000000 in
theorem Zd(m:lZ)(B p a D:Nat)(v:EvM)(w:World)(C:wM w B p m)(u:B<=w.heap.size)(ha:a<6)(ho:v.o=(a:Int)+1)(bnn:m.s.nn<=900)(hD:bC m.t m.tn (aZ m.t m.tn D v.node)<0)(hD2:D<=1000) :
 Calls Tryz.prog 124 #[(pt p),.agg (aA 14 (bI v))] w fun e w'=>e = .returned (au (kP m.core v))/\Below B w w'/\(kP m.core v=0 -> ∃ m',m'.core=rG m.core v/\wM w' B p m'):=by
 have Vl:=C.c;have hLn:=C.n;have hLg:=C.g;have Vm:=C.tc;have Vn:=C.t;have hLr:=C.r;have Vo:=C.pB;have Ew:=C.tB;have bn:=C.bn;have bg:=C.bg;have bt:=C.bt;have lpp:p<w.heap.size:=Vl.lt;have SE:m.tb<w.heap.size:=Vm.lt;refine Kent Tryz.func124 132 ?_;refine ay<|pO fun I w1 ku m1 s1 z1 => ?_;have⟨m2,m3,m4,m5,m6,m7⟩:=rz s1.old Vl hLn hLg Vm Vn hLr;have b1:=fA s1.old (Below.refl B w) u;have tC:=iK ku (Below.refl B w).size;have⟨nK,yx⟩:=rD ku Vl.lt Vm.lt;have uK:=m1.lt;refine av (au 0)<|aD<|ay<|av (au 0)<|aD<|Ws<|ay<|av (au 0)<|aD<|Wb<|Wo (fun f z => ∃ k:Nat,∃ G:Nat,k<=m.s.nn/\G<=k/\G=mX m.id v.o k/\f 0=(pt p)/\f 3=(pt I)/\f 5=au (G:Int)/\f 6=au (k:Int)/\aQ z p 27 (nk m) 56/\Fx.Own z B 84 56 (.slice m.s.na (m.s.nn) (m.s.nc)) m.s.nn (Kw m)/\Fx.Own z B 106 5 (.slice m.s.ga (m.s.gn) (m.s.gc)) m.s.gn (JL m)/\aQ z m.tb 1 (fun _ => .slice m.ta m.tn m.tc) 156/\Fx.Own z B 153 2 (.slice m.ta (m.tn) (m.tc)) m.tn (Rm m.t)/\xG z B 6 m/\aQ z I 14 (bI v) 37/\Below B w z) (fun f _=>(m.s.nn-(intOf (f 6)).toNat)) ⟨0,0,by omega,by omega,rfl,(by rfl),(by rfl),Fx.ic,Fx.ic,m2,m3,m4,m5,m6,m7,m1,b1⟩ ?_;rintro f1 O ⟨k,G,hk,hcl,aa,J,K,h3,Y,m8,m9,m10,m11,m12,m13,W,b2⟩;refine Ws<|ay<|aU Y<|aU J<|av (pt p)<|av (pt p)<|av (pf p 18)<|Lv (.slice m.s.na (m.s.nn) (m.s.nc)) (aM m8.aH 18)<|av (au m.s.nn) ?_;by_cases c18:(k:Int)<(m.s.nn:Int)
 ·refine Lv aG (iD c18)<|aD<|aN<|Wk<|sN<|Ws<|Wb<|Ws ?_;refine Af<|eT J<|aX (pt p)<|aX (pt p)<|aX (pf p 18)<|Qv (.slice m.s.na (m.s.nn) (m.s.nc)) (fun F E=>aM (m8.aH.dr E) 18)<|eT Y ?_;obtain⟨DZ,eq1⟩:=m9.addr (by omega);have m15:Fx.Own O B 84 56 (bM DZ m.s.nn m.s.nc) m.s.nn (Kw m):=m9.fu (M_ (fun q=>Value.slice q m.s.nn m.s.nc) eq1);refine Qv (pf DZ (56*k)) (fun F E=>dB 56 (hx:=(rfl.trans (M_ (fun q=>Value.slice q (m.s.nn) (m.s.nc)) eq1))))<|aX (pf DZ (56*k))<|Qv (aC (m.id k)) (fun F E=>aM (m15.aH.dr E) (56*k) (Fx.iB (k:=k) (j:=0) (by omega) (by omega) rfl))<|Qv (aC ((m.id k) / 1099511627776)) (fun F E=>Fx.abq (b:=40) (q:=1099511627776) rfl rfl rfl (by decide) (by decide))<|Qv (pt I) (fun F E=>jo K 0)<|Qv (au v.o) (fun F E=>aM (W.aH.dr E) 0)<|Qv (aC v.o) (fun F E=>dF rfl rfl (by kernel_rfl) Tryz.underlying23 (jQ (by omega) rfl)) ?_;by_cases c34:((m.id k) / 1099511627776)=v.o
  ·refine Qv aG (fun F E=>dZ c34)<|Qn ?_;rintro _ ⟨qd,rfl⟩;obtain⟨Et,pY⟩ : ∃ F,F=World.drewN O qd:=⟨_,rfl⟩;rw[<- pY];have s2:Stp O.heap.size O Et:=(by rw[pY]; exact Sb (jX O qd));have⟨m16,m17,m18,m19,m20,m21,m22⟩:=jJ s2.old m8 m10 m11 m12 m13 W m15;have b3:=fA s2.old b2 u;clear pY;refine sN<|aN<|Wl<|aU h3<|Lv (au ((G:Int)+1)) fH<|av (au ((G:Int)+1))<|Ln<|bU<|sN<|Wl<|aU Y<|Lv (au ((k:Int)+1)) fH<|av (au ((k:Int)+1))<|Ln ?_;have m23:Fx.Own Et B 84 56 (.slice m.s.na (m.s.nn) (m.s.nc)) m.s.nn (Kw m):=m22.fu (M_ (fun q=>Value.slice q m.s.nn m.s.nc) eq1.symm);refine iH ⟨k+1,G+1,by omega,by omega,(Vi aa c34),J,K,Fx.ic,Fx.ic,m16,m23,m17,m18,m19,m20,m21,b3⟩ ?_;show(m.s.nn-(intOf (au ((k:Int)+1))).toNat)<_;simp only[Y,intOf]; omega
  refine Qv aF (fun F E=>fB c34)<|Qn ?_;rintro _ ⟨qd,rfl⟩;obtain⟨wq2,xH⟩ : ∃ F,F=World.drewN O qd:=⟨_,rfl⟩;rw[<- xH];have s3:Stp O.heap.size O wq2:=by rw[xH]; exact Sb (jX O qd)
  have⟨m24,nW,oN,pU,pV,nX,ou⟩:=jJ s3.old m8 m10 m11 m12 m13 W m15;have b4:=fA s3.old b2 u;clear xH;refine sN<|aK<|Wk<|bU<|sN<|Wl<|aU Y<|Lv (au ((k:Int)+1)) fH<|av (au ((k:Int)+1))<|Ln ?_;have lu:Fx.Own wq2 B 84 56 (.slice m.s.na (m.s.nn) (m.s.nc)) m.s.nn (Kw m):=ou.fu (M_ (fun q=>Value.slice q m.s.nn m.s.nc) eq1.symm);refine iH ⟨k+1,G,by omega,by omega,(Zc aa c34),J,K,(h3.trans Fx.ic),Fx.ic,m24,lu,nW,oN,pU,pV,nX,b4⟩ ?_;show(m.s.nn-(intOf (au ((k:Int)+1))).toNat)<_;simp only[Y,intOf]; omega
 refine Lv aF (iE c18)<|aD<|aK<|Wx<|cZ<|gZ<|dh<|sN<|Ws<|ay<|aU h3 ?_;by_cases c38:5<=(G:Int)
 ·refine Lv aG (kW c38)<|av aG<|bS<|bS<|bS<|av aG<|aD<|aN<|ay<|av (au 6)<|aD<|Wr<|sR<|aJ (au 6) ?_;have N:k=m.s.nn:=by omega
  subst N;have H:kP m.core v=6:=d_ (.inl (by rw[show mX m.core.id v.o m.core.nn=G from aa.symm]; omega));exact⟨pR H.symm,b2,fun U=>by rw[H]at U; cases U⟩
 refine Lv aF (kN c38)<|av aF<|Lv (pf I 11) (jo K 11)<|Lv (au v.aT) (aM W.aH 11) ?_;by_cases Uh:140737488355328<v.aT
 ·refine Lv aG (nA Uh)<|av aG<|aD<|aN<|ay<|av (au 6)<|aD<|Wr<|sR<|aJ (au 6) ?_;have N:k=m.s.nn:=by omega
  subst N;have H:kP m.core v=6:=d_ (.inr (by omega));exact⟨pR H.symm,b2,fun U=>by rw[H]at U; cases U⟩
 refine Lv aF (nC Uh)<|av aF<|aD<|aK<|Wk<|sN<|ay<|Lv (pt I) (jo K 0)<|Lv (au v.o) (aM W.aH 0)<|Lv (pf I 1) (jo K 1)<|Lv (aC v.seq) (aM W.aH 1)<|lX (aod v.o v.seq _) _ rfl<|av (aC (jE v.o v.seq))<|aD<|Ws ?_;refine jY [0,1,2,4,5,3,6,7,8] [0,0,0,4,0,0,4,3,0] [(7,3,[3]),(7,6,[6]),(8,7,[7])] fun qU dU iC => ?_;have⟨m32,oQ,nL,oO,nT,qV,qB⟩:=jJ dU m8 m9 m10 m11 m12 m13 W;have b5:=fA dU b2 u;refine bX J<|aY (pt p)<|aY (pf p 20)<|aY (aC (jE v.o v.seq))<|Rp (pf I 9) (fun _=>jo K 9)<|Rs (pt m.tb) (aM m32.aH 20) ?_;refine Rs (aC v.node) (aM qB.aH 9) ?_;refine gQ<|dX (aiv B m.tb m.ta m.tn m.tc m.t (jE v.o v.seq) v.node D _ oO nT (fun e=>Fx.Ty.ne (nT.ty e) oO.ty (by decide) rfl) (m_ u b5.size) bt hD hD2) _ rfl ?_;rintro X ⟨aiC,hcs1⟩;have hc1:jg [156,153] qU X:=Fx.jg.Tz aiC (by rintro k (rfl|e) <;> first|exact⟨_,oO.ty,by decide⟩|exact⟨_,nT.ty e,by decide⟩)
 have pE:aQ X p 27 (nk m) 56:=m32.kV hc1 (by decide);have sJ:Fx.Own X B 84 56 (.slice m.s.na (m.s.nn) (m.s.nc)) m.s.nn (Kw m):=oQ.kV hc1 (by decide);have mK:Fx.Own X B 106 5 (.slice m.s.ga (m.s.gn) (m.s.gc)) m.s.gn (JL m):=nL.kV hc1 (by decide);have ni:xG X B 6 m:=qV.kV hc1 (by decide);have mR:aQ X I 14 (bI v) 37:=qB.kV hc1 (by decide);have b6:Below B w X:=Fx.jI.below b5 aiC (by rintro k (rfl|e) <;> first|exact Ew|exact(nT.ge e).1) (m_ u b5.size)
 rcases hcs1 with ⟨Q,hT1,Zb⟩|⟨Q,g9,Ze,hT1,Zb,hne1⟩
 ·refine Ln<|aY (au (jM m.t m.tn (jE v.o v.seq) v.node))<|bT<|Ws<|ay<|av (au (jM m.t m.tn (jE v.o v.seq) v.node))<|Lv aG (kY Q)<|aD<|aN<|ay<|av (au (jM m.t m.tn (jE v.o v.seq) v.node))<|av (au (jM m.t m.tn (jE v.o v.seq) v.node))<|aD<|Wr<|sR<|aJ (au (jM m.t m.tn (jE v.o v.seq) v.node)) ?_;have N:k=m.s.nn:=by omega
  subst N;have H:kP m.core v=jM m.t m.tn (jE v.o v.seq) v.node:=b_ (fun h=>h.elim (fun h=>by rw[show mX m.core.id v.o m.core.nn=G from aa.symm]at h; omega) (fun h=>by omega));exact⟨pR H.symm,b6,fun U=>N_ (H.symm.trans U) Q⟩
 refine Ln<|aY (au (jM m.t m.tn (jE v.o v.seq) v.node))<|bT<|Ws<|ay<|av (au (jM m.t m.tn (jE v.o v.seq) v.node))<|Lv aF (jR Q)<|aD<|aK<|Wk<|sN<|ay<|av (aC (jE v.o v.seq))<|Lv (pf I 9) (jo K 9)<|Lv (aC v.node) (aM mR.aH 9)<|av (.agg (aA 56 (bG (bG zK0 0 1 (fun _=>aC (jE v.o v.seq))) 1 1 (fun _=>aC v.node))))<|nS 56 zK0 fun M w4 uO qw s5 z2 => ?_;have⟨qW,ow,sK,vE,sM,rQ,uM⟩:=jJ s5.old pE sJ mK ni mR hT1 Zb;have b7:=fA s5.old b6 u;have qX:=iK uO b6.size;have aoi:=cO uO pE.lt;have FW:(.slice m.s.na (m.s.nn) (m.s.nc):Value).ownBlock≠some M:=by rw[uO]; exact sJ.kM (A_ _)
 have⟨aoj,aok,aeg⟩:=AZ uO mR.lt hT1.lt Zb.lt;have zM:=qw.lt;refine dM qw 0 (h1:=(bA (bA (fun jq _=>by show(zK0 jq).oneCell'=true; simp only[zK0]; repeat (first|rfl|split)) (fun _ _=>rfl)) (fun _ _=>rfl))) fun w5 uw s6 z3 => ?_
 have ug:aQ w5 M 56 (bG (bG zK0 0 1 (fun _=>aC (jE v.o v.seq))) 1 1 (fun _=>aC v.node)) 84:=aL uw;have gF:=fP s6 qw.ty;have uW:=jh gF qW;have xk:=ow.cu s6 FW;have⟨uh,rR,sw,vU,rE⟩:=qA gF sK vE sM rQ uM;have b8:=s6.below b7 (m_ u b7.size) (by omega);refine aD<|Ws ?_;have uj:aQ w5 M 56 (mW (jE v.o v.seq) v.node (fun _=>0)) 84:=ug.congr (fun j hj=>Vj j);refine Wl<|Lv (pt I) (jo K 0)<|Lv (au v.o) (aM sw.aH 0)<|Lv (au a) gP<|Lv (pf I 11) (jo K 11)<|Lv (au v.aT) (aM sw.aH 11)<|av (pf M 2)<|av (pf M 2)<|Lv (pf M (a+2)) (jD 6 1)<|ji uj (a+2) (au v.aT) fun w6 nY s7 z4 => ?_;have uy:aQ w6 M 56 (mW (jE v.o v.seq) v.node (upd (fun _=>0) a v.aT)) 84:=nY.to (Py (by omega));have jT:=fP s7 uj.ty;have m64:=jh jT uW;have xq:=xk.cu s7 FW;have⟨wI,vF,yt,sO,vG⟩:=qA jT uh rR sw vU rE;have b9:=s7.below b8 (m_ u b8.size) (by omega);refine aD<|Ws ?_;have ek0:k=m.s.nn:=by omega
 obtain⟨cn0,aiE,hc38⟩ : ∃ cn0,cn0=mX m.id v.o m.s.nn /\ ¬ (5:Int)<=(cn0:Int):=⟨G,by rw[<- ek0]; exact aa,c38⟩;clear aa hcl ek0;refine Wl<|aU J<|av (pt p)<|av (pt p)<|av (pf p 18)<|Lv (.slice m.s.na (m.s.nn) (m.s.nc)) (aM m64.aH 18)<|av (au m.s.nn)<|av (au m.s.nn)<|aD<|Ws ?_;refine Ad [0,1,2,3,4,5,6,7,8,9,10,11,12] [0,0,0,0,0,1,4,2,2,0,0,0,3] (jg [84]) vN Fx.jg.trans (fJ := [(12,5,[5]),(7,6,[6]),(8,6,[7,6]),(12,6,[6]),(8,7,[7]),(9,7,[7]),(10,7,[7]),(11,7,[7]),(12,7,[7]),(9,8,[8]),(10,8,[8]),(11,8,[8]),(12,8,[8])]) (by kernel_rfl) (by kernel_rfl) (by kernel_rfl) (by kernel_rfl) (by kernel_rfl) fun BS fZ mQ => ?_;have⟨uN,vH,vI,yL,wJ,yV,yX,yM⟩:=mO fZ m64 xq wI vF yt sO vG uy;have b10:=fA fZ b9 u;refine bX J<|bX J<|aY (pt p)<|aY (pt p)<|aY (pf p 18)<|Rd (v := .slice m.s.na (m.s.nn) (m.s.nc)) (by rfl) (by rfl) (vN _) (fun F E=>bf (x:=nk m) rfl rfl (by kernel_rfl) (uN.kV E (by decide)).aH (i:=18) (by omega) (by omega) rfl) ?_;refine Rs (.agg (aA 56 (mW (jE v.o v.seq) v.node (upd (fun _=>0) a v.aT)))) (fM yM.aH 0) ?_;refine zG<|yP (vs := [(0,.agg (aA 56 (mW (jE v.o v.seq) v.node (upd (fun _=>0) a v.aT))))]) (s:=56) (zc:=fun L=>if L<2 then aC 0 else au 0) (y:=bG (fun j=>zK0 (j % 56)) (0*56) 56 (mW (jE v.o v.seq) v.node (upd (fun _=>0) a v.aT))) (by rfl) rfl rfl Tryz.underlying47 (by kernel_rfl) (by rfl) (by rfl) (by kernel_rfl) (by rw[bE (off:=0*56) (s:=56) (y:=mW (jE v.o v.seq) v.node (upd (fun _=>0) a v.aT)) rfl (bJ _ _) (by rfl)]; rfl) rfl fun g3 w7 um wK s9 z5 => ?_;have⟨vV,vJ,yu,zK,wL,Ai,zL,AB⟩:=mO s9.old uN vH vI yL wJ yV yX yM;have b11:=fA s9.old b10 u;have BF:=iK um b10.size;have aom:=cO um uN.lt;have aon:(.slice m.s.na (m.s.nn) (m.s.nc):Value).ownBlock≠some g3:=by rw[um]; exact vH.kM (A_ _)
 have⟨aoo,aeh,JO,aei⟩:=KM um wJ.lt yV.lt yX.lt yM.lt;have GZ:=wK.lt;refine Ln ⟨Fx.jg.of_below s9.old,?_⟩;refine zG<|zB (B:=B) (s:=56) (bytes:=448) (k:=m.s.nn) (m:=1) (v := .slice m.s.na (m.s.nn) (m.s.nc)) (x:=Kw m) (by rfl) rfl rfl rfl Tryz.underlying47 (by kernel_rfl) (by kernel_rfl) rfl rfl vJ wK.aH (zP (wh _ _ _)) (by omega) (by omega) (by omega) (m_ u b11.size) fun l A w8 ho1 hg1 xg hlt1 => ?_;have oq:=zC hg1 vJ;have⟨yZ,Aj,Er,C9,Cc,CF⟩:=TF oq vV yu zK wL Ai zL;have Al:=AB.grown hg1 FW;have aop:M≠l:=fun e=>xg.elim (fun e2=>FW (by rw[e]; exact e2)) (fun e2=>by have:=AB.lt; omega);have yY:Fx.Own w8 B 84 56 (bM l (m.s.nn+1) A) (m.s.nn+1) (flat 56 (Fx.KL (fun d=>mW (m.id d) (m.par d) (m.R d)) (mW (jE v.o v.seq) v.node (upd (fun _=>0) a v.aT)) m.s.nn m.s.nn)):=(ho1.congr (fun j hj=>(Fx.yQ j hj).trans (bK (fun i V q _=>Fx.yR i V q) j hj)));have b12:Below B w w8:=zA b11 hg1 (m_ u b11.size) (fun q hq=>(vJ.ge hq).1);refine Ln ⟨oq,?_⟩;refine aY (pt p)<|aY (pt p)<|aY (pf p 18)<|gQ<|ji yZ 18 (bM l (m.s.nn+1) A) fun w9 ES s10 z6 => ?_;have uq:=fP s10 yZ.ty;have⟨Ev,ET,FV,uX,xI,uY,rH⟩:=TG uq Aj Er C9 Cc CF Al yY;have b13:=s10.below b12 (m_ u b12.size) (by omega);refine Ln<|bT<|Ws<|Wb<|Wo (fun f z => ∃ k:Nat,k<=m.s.nn/\(∀ i,k<=i->i<m.s.nn->(jE v.o v.seq)<m.id i)/\f 0=(pt p)/\f 7=aC (jE v.o v.seq)/\f 9=(pt M)/\f 10=au (k:Int)/\Fx.Own z B 106 5 (.slice m.s.ga (m.s.gn) (m.s.gc)) m.s.gn (JL m)/\xG z B 6 m/\aQ z I 14 (bI v) 37/\aQ z m.tb 1 (fun _=>bM g9 (m.tn+1) Ze) 156/\Fx.Own z B 153 2 (bM g9 (m.tn+1) Ze) (m.tn+1) (rv .u64 (lH (pX m.t (down (fun i=>decide ((jE v.o v.seq)<m.t i 0)) m.tn) (jE v.o v.seq) v.node)))/\aQ z M 56 (mW (jE v.o v.seq) v.node (upd (fun _=>0) a v.aT)) 84/\aQ z p 27 (dJ (nk m) 18 (bM l (m.s.nn+1) A)) 56/\Fx.Own z B 84 56 (bM l (m.s.nn+1) A) (m.s.nn+1) (flat 56 (Fx.KL (fun d=>mW (m.id d) (m.par d) (m.R d)) (mW (jE v.o v.seq) v.node (upd (fun _=>0) a v.aT)) m.s.nn k))/\Below B w z) (fun f _=>(intOf (f 10)).toNat) ⟨m.s.nn,by omega,(fun i J K=>N_ J (by omega)),J,Fx.ic,(by rfl),Fx.ic,Ev,ET,FV,uX,xI,uY,ES,rH,b13⟩ ?_;rintro f2 su ⟨k,hk,hgt,Z,h6,h7,P,oU,oF,qb,oG,oV,rJ,sF,oZ,b14⟩;refine Ws<|ay<|aU P ?_;by_cases c91:0<(k:Int)
 ·obtain⟨j,ej⟩ : ∃ j,k=j+1:=⟨k-1,by omega⟩;refine Lv aG (nA c91)<|av aG<|aU Z<|av (pt p)<|av (pt p)<|av (pf p 18)<|Lv (bM l (m.s.nn+1) A) (aM sF.aH 18 (Fx.lU (by omega)))<|aU P<|Lv (au j) gP<|Lv (pf l (56*j)) (dB 56)<|av (pf l (56*j))<|Lv (aC (m.id j)) (aM oZ.aH (56*j) (Fx.iB (k:=j) (j:=0) (by omega) (by omega) ((congrFun (Fx.Av (by omega) (by omega)) 0).trans rfl)))<|aU h6 ?_;by_cases Zf:(jE v.o v.seq)<(m.id j)
  ·refine Lv aG (nA Zf)<|av aG<|aD<|aN<|Wk<|sN<|Wb<|Ws ?_;refine jY [0,1,2,3,5,6,7,8,9,11,12,4,10,13,14,15,16] [0,0,0,0,4,0,0,0,0,0,4,0,0,0,4,0,3] [(16,4,[4]),(16,10,[10]),(16,14,[14])] fun SF mF BU => ?_;have⟨rM,yE,uD,yF,Bc,wm,tO,qc⟩:=mO mF oU oF qb oG oV rJ sF oZ;have b15:=fA mF b14 u;refine bX Z<|aY (pt p)<|aY (pt p)<|aY (pf p 18)<|bX P<|bX Z<|aY (pt p)<|aY (pt p)<|aY (pf p 18)<|bX P<|Rp (au j) (fun _=>gP)<|Rs (bM l (m.s.nn+1) A) (aM tO.aH 18 (Fx.lU (by omega))) ?_;refine Rs (bM l (m.s.nn+1) A) (aM tO.aH 18 (Fx.lU (by omega))) ?_;refine Rp (pf l (56*j)) (fun _=>dB 56)<|Rs (.agg (aA 56 (mW (m.id j) (m.par j) (m.R j)))) (fM qc.aH (56*j) (fun jq hjq=>(Fx.kU (k:=j) (by omega) hjq).trans (congrFun (Fx.Av (by omega) (by omega)) jq))) ?_;refine Rp (pf l (56*k)) (fun _=>dB 56)<|gQ<|AY qc (56*k) (h1:=(fun j _=>wh _ _ _ j)) fun Ah xJ s12 z7 => ?_;have uV:=fP s12 qc.KJ;have⟨xK,tQ,Am,Da,Bd⟩:=qA uV rM yE uD yF Bc;have Ao:=wm.cu s12 (by omega);have Bf:=jh uV tO;have b16:=s12.below b15 (m_ u b15.size) qc.blk.1;have Ce:Fx.Own Ah B 84 56 (bM l (m.s.nn+1) A) (m.s.nn+1) (flat 56 (Fx.KL (fun d=>mW (m.id d) (m.par d) (m.R d)) (mW (jE v.o v.seq) v.node (upd (fun _=>0) a v.aT)) m.s.nn j)):=xJ.congr (fun T S=>(Fx.vM (k:=k) (by omega) T S).trans (bK (fun i V q _=>Fx.zD ej (by omega) i V q) T S));refine Ln<|bT<|Wl<|aU P<|Lv (au j) gP<|av (au j)<|Ln<|bU<|iH ⟨j,by omega,(Vk ej hgt Zf),Z,(h6.trans Fx.ic),h7,Fx.ic,xK,tQ,Am,Da,Bd,Ao,Bf,Ce,b16⟩ ?_;show(intOf (au j)).toNat<_;simp only[P,intOf]; omega
  refine Lv aF (nC Zf)<|av aF<|aD<|aK<|Wx<|cZ<|gZ<|dh<|sN<|Ws ?_;refine jY [0,1,2,3,5,4,6,7,8] [0,0,0,0,4,0,4,0,3] [(8,4,[4]),(8,6,[6])] fun wt4 rP Ii => ?_;have⟨ze,xL,Hg,Db,Dc,Ey,Ez⟩:=jJ rP oU oF oG oV rJ sF oZ;have b17:=fA rP b14 u;refine bX Z<|aY (pt p)<|aY (pt p)<|aY (pf p 18)<|bX P<|Rs (bM l (m.s.nn+1) A) (aM Ey.aH 18 (Fx.lU (by omega))) ?_;refine Rs (.agg (aA 56 (mW (jE v.o v.seq) v.node (upd (fun _=>0) a v.aT)))) (fM Dc.aH 0 (ha:=h7)) ?_;refine Rp (pf l (56*k)) (fun _=>dB 56)<|gQ<|AY Ez (56*k) (h1:=(fun j _=>wh _ _ _ j)) fun BZ Bg Ba z8 => ?_;have vT:=fP Ba Ez.KJ;have⟨Df,Bh,Dh,zf⟩:=Em vT ze xL Hg Db;have Bj:=Dc.cu Ba (by omega);have yG:=jh vT Ey;have b18:=Ba.below b17 (m_ u b17.size) Ez.blk.1;have Di:Fx.Own BZ B 84 56 (bM l (m.s.nn+1) A) (m.s.nn+1) (flat 56 (Fx.Jt (fun d=>mW (m.id d) (m.par d) (m.R d)) k (mW (jE v.o v.seq) v.node (upd (fun _=>0) a v.aT)))):=Bg.congr (fun T S=>(Fx.vM (k:=k) (by omega) T S).trans (bK (fun i V q _=>Fx.uH (by omega) i V q) T S));refine Ln<|bT<|ay<|av (au 0)<|aD<|Wr<|aJ (au 0) ?_;have H:kP m.core v=jM m.t m.tn (jE v.o v.seq) v.node:=b_ (fun h=>h.elim (fun h=>by rw[show mX m.core.id v.o m.core.nn=cn0 from aiE.symm]at h; omega) (fun h=>by omega));have N:k=tN m.id m.s.nn (jE v.o v.seq):=Fx.qo hk (fun i a b=>f_ (hgt i a b)) (.inr (fun j2 e=>by rw[show j2=j by omega]; exact g_ Zf));have NH:Fx.Own BZ B 84 56 (bM l (m.s.nn+1) A) (m.s.nn+1) (flat 56 fun d=>mW (cK m.id k (jE v.o v.seq) d) (cK m.par k v.node d) (cK m.R k (upd (fun _=>0) a v.aT) d)):=by rw[<- Pz]; exact Di
  have eR:(upd (fun _=>0) a v.aT)=upd (fun _=>0) (v.o-1).toNat v.aT:=by rw[show(v.o-1).toNat=a by omega]
  have bn9:m.tn+1<=33:=Lu Q;refine⟨pR (Q.symm.trans H.symm),b18,fun _=>⟨{ m with s := { m.s with na:=some ⟨l,0,none⟩,nn:=m.s.nn+1,nc:=A },id:=cK m.id k (jE v.o v.seq),par:=cK m.par k v.node,R:=cK m.R k (upd (fun _=>0) a v.aT),ta:=some ⟨g9,0,none⟩,tn:=m.tn+1,tc:=Ze,t:=pX m.t (down (fun i=>decide ((jE v.o v.seq)<m.t i 0)) m.tn) (jE v.o v.seq) v.node },?_,?_⟩⟩
  ·unfold rG; rw[show tN m.core.id m.core.nn (jE v.o v.seq)=k from N.symm,<- eR]; rfl
  exact { c:=yG.to (Iu m _ _ _),n:=NH,g:=Df,tc:=Dh,t:=zf,r:=Bh,pB:=Vo,tB:=Ew,bn:=(by have:=bnn; show m.s.nn+1<=1000; omega),bg:=bg,bt:=(by show m.tn+1<=1000; omega),br:=C.br }
 refine Lv aF (nC c91)<|av aF<|bS<|bS<|bS<|bS<|bS<|bS<|bS<|bS<|bS<|bS<|bS<|bS<|av aF<|aD<|aK<|Wx<|cZ<|gZ<|dh<|sN<|Ws ?_;refine jY [0,1,2,3,5,4,6,7,8] [0,0,0,0,4,0,4,0,3] [(8,4,[4]),(8,6,[6])] fun wt5 AA Uk => ?_;have⟨JQ,JR,JU,Vp,NI,Lx,NJ⟩:=jJ AA oU oF oG oV rJ sF oZ;have b19:=fA AA b14 u;refine bX Z<|aY (pt p)<|aY (pt p)<|aY (pf p 18)<|bX P<|Rs (bM l (m.s.nn+1) A) (aM Lx.aH 18 (Fx.lU (by omega))) ?_;refine Rs (.agg (aA 56 (mW (jE v.o v.seq) v.node (upd (fun _=>0) a v.aT)))) (fM NI.aH 0 (ha:=h7)) ?_;refine Rp (pf l (56*k)) (fun _=>dB 56)<|gQ<|AY NJ (56*k) (h1:=(fun j _=>wh _ _ _ j)) fun FK NK s16 z9 => ?_;have Ak:=fP s16 NJ.KJ;have⟨Vq,Vr,LA,Vs⟩:=Em Ak JQ JR JU Vp;have Zg:=NI.cu s16 (by omega);have Rv:=jh Ak Lx;have b20:=s16.below b19 (m_ u b19.size) NJ.blk.1;have Vt:Fx.Own FK B 84 56 (bM l (m.s.nn+1) A) (m.s.nn+1) (flat 56 (Fx.Jt (fun d=>mW (m.id d) (m.par d) (m.R d)) k (mW (jE v.o v.seq) v.node (upd (fun _=>0) a v.aT)))):=NK.congr (fun T S=>(Fx.vM (k:=k) (by omega) T S).trans (bK (fun i V q _=>Fx.uH (by omega) i V q) T S));refine Ln<|bT<|ay<|av (au 0)<|aD<|Wr<|aJ (au 0) ?_;have H:kP m.core v=jM m.t m.tn (jE v.o v.seq) v.node:=b_ (fun h=>h.elim (fun h=>by rw[show mX m.core.id v.o m.core.nn=cn0 from aiE.symm]at h; omega) (fun h=>by omega));have N:k=tN m.id m.s.nn (jE v.o v.seq):=Fx.qo hk (fun i a b=>f_ (hgt i a b)) (.inl (by omega));have Vu:Fx.Own FK B 84 56 (bM l (m.s.nn+1) A) (m.s.nn+1) (flat 56 fun d=>mW (cK m.id k (jE v.o v.seq) d) (cK m.par k v.node d) (cK m.R k (upd (fun _=>0) a v.aT) d)):=by rw[<- Pz]; exact Vt
 have eR:(upd (fun _=>0) a v.aT)=upd (fun _=>0) (v.o-1).toNat v.aT:=by rw[show(v.o-1).toNat=a by omega]
 have bn9:m.tn+1<=33:=Lu Q;refine⟨pR (Q.symm.trans H.symm),b20,fun _=>⟨{ m with s := { m.s with na:=some ⟨l,0,none⟩,nn:=m.s.nn+1,nc:=A },id:=cK m.id k (jE v.o v.seq),par:=cK m.par k v.node,R:=cK m.R k (upd (fun _=>0) a v.aT),ta:=some ⟨g9,0,none⟩,tn:=m.tn+1,tc:=Ze,t:=pX m.t (down (fun i=>decide ((jE v.o v.seq)<m.t i 0)) m.tn) (jE v.o v.seq) v.node },?_,?_⟩⟩
 ·unfold rG; rw[show tN m.core.id m.core.nn (jE v.o v.seq)=k from N.symm,<- eR]; rfl
 exact { c:=Rv.to (Iu m _ _ _),n:=Vu,g:=Vq,tc:=LA,t:=Vs,r:=Vr,pB:=Vo,tB:=Ew,bn:=(by have:=bnn; show m.s.nn+1<=1000; omega),bg:=bg,bt:=(by show m.tn+1<=1000; omega),br:=C.br }
end Go.Proofs.YtcbedgfikejkoaaGreatDoor
